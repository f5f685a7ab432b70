/-
  ratio: lowest.
-/
import Derived.Test.YtbdgeinfijamcaaGreatDoorRC
import Derived.Deep.DeepCutAuto
namespace Go.Proofs.YtbdgeinfijamcaaGreatDoor
open Go.RowKit

/-- both in their one form, in their boxes -/
structure LowSt (w wx : World) (ki kj : IV) (x d : Int) : Prop where
  ba : Blk wx w.heap.size 34 #[.bool ki.neg, .slice ki.A ki.k ki.c]
  bb : Blk wx (w.heap.size + 1) 34 #[.bool kj.neg, .slice kj.A kj.k kj.c]
  br : Blk wx (w.heap.size + 1 + 1) 36 #[.bool false, .slice none 0 0, .bool false, .slice none 0 0]
  hi : Rests wx (w.heap.size + 1 + 1 + 1 ≤ ·) (IntN ki x)
  hj : Rests wx (w.heap.size + 1 + 1 + 1 ≤ ·) (IntN kj d)
  tz : Rests wx (· < w.heap.size) Tz
  below : Below w.heap.size w wx
theorem ret_boxR {w w2 : World} {g : Nat} {q : Rat} {r : RV} {F : Nat → Prop} (hb : Below w.heap.size w w2) (hg : w.heap.size ≤ g) (hr : Rests w2 F (RatN r q)) (hF : ∀ b, F b → g + 1 ≤ b) :
    RetR q w (.returned (.agg #[.bool r.num.neg, .slice r.num.A r.num.k r.num.c, .bool r.den.neg, .slice r.den.A r.den.k r.den.c])) ((((w2.setCell ⟨g, 0, none⟩ (.bool r.num.neg)).setCell ⟨g, 1, none⟩ (.slice r.num.A r.num.k r.num.c)).setCell ⟨g, 2, none⟩ (.bool r.den.neg)).setCell ⟨g, 3, none⟩ (.slice r.den.A r.den.k r.den.c)) := by
  have n1 : ¬ F g := fun h => by have := hF g h; omega
  refine ⟨r, rfl, ((((hr.set (a := ⟨g, 0, none⟩) n1 _).set (a := ⟨g, 1, none⟩) n1 _).set (a := ⟨g, 2, none⟩) n1 _).set (a := ⟨g, 3, none⟩) n1 _).mono (fun b hb' => by show w.heap.size ≤ b; have := hF b hb'; omega), (((hb.setCell (p := ⟨g, 0, none⟩) hg _).setCell (p := ⟨g, 1, none⟩) hg _).setCell (p := ⟨g, 2, none⟩) hg _).setCell (p := ⟨g, 3, none⟩) hg _⟩
theorem box4 {w2 : World} {g : Nat} {u0 u1 u2 u3 : Value} (h : Blk w2 g 36 #[u0, u1, u2, u3]) (a b c d : Value) : Blk ((((w2.setCell ⟨g, 0, none⟩ a).setCell ⟨g, 1, none⟩ b).setCell ⟨g, 2, none⟩ c).setCell ⟨g, 3, none⟩ d) g 36 #[a, b, c, d] :=
  (((h.set_ 0 a).set_ 1 b).set_ 2 c).set_ 3 d
theorem low_num {x d : Int} (hd : 0 < d) : (Rat.divInt x d).num = x / (Nat.gcd x.natAbs d.natAbs : Int) ∧ ((Rat.divInt x d).den : Int) = d / (Nat.gcd x.natAbs d.natAbs : Int) := by
  rw [Rat.num_divInt, Rat.den_divInt, if_neg (by omega), Int.sign_eq_one_of_pos hd, Int.one_mul]
  have e : Int.gcd d x = Nat.gcd x.natAbs d.natAbs := by unfold Int.gcd; exact Nat.gcd_comm _ _
  rw [e]
  refine ⟨rfl, ?_⟩
  rw [Int.natCast_ediv]
  congr 1
  omega
theorem low_one {x d : Int} (hd : d = 1) : (Rat.divInt x d).num = x ∧ (Rat.divInt x d).den = 1 := by
  subst hd
  obtain ⟨a, b⟩ := low_num (x := x) (d := 1) (by decide)
  rw [show (1 : Int).natAbs = 1 from rfl, Nat.gcd_one_right] at a b
  have b' : ((Rat.divInt x 1).den : Int) = 1 := by rw [b]; rfl
  exact ⟨by rw [a]; exact Int.ediv_one x, by omega⟩
theorem RatN.zero_den {k : IV} {q : Rat} {w : World} {F : Nat → Prop} {x : Int} (h : Rests w F (IntN k x)) (hx : q.num = x) (hd : q.den = 1) : Rests w F (RatN ⟨k, ⟨false, none, 0, 0⟩⟩ q) :=
  h.imp fun W hW => ⟨by rw [hx]; exact hW, by unfold dn; rw [if_pos hd]; exact ⟨rfl, Nat.le_refl _, rfl, Rd.nil_ _ _⟩⟩
theorem RatN.more_den {k l : IV} {q : Rat} {w : World} {F : Nat → Prop} {x d : Int} (h : Rests w F (IntN k x)) (h' : Rests w F (IntN l d)) (hx : q.num = x) (hd : (q.den : Int) = d) (h1 : d ≠ 1) : Rests w F (RatN ⟨k, l⟩ q) :=
  (h.and h').imp fun W hW => ⟨by rw [hx]; exact hW.1, by unfold dn; rw [if_neg (by omega), hd]; exact hW.2⟩

set_option maxRecDepth 100000 in
set_option maxHeartbeats 4000000 in
theorem lowest_A (w : World) (i j : IV) (x d : Int) (n : Nat) (hn : n ≤ 900000000000) (h : IntD i x n w) (h' : IntD j d n w) (hT : Tz w) (hd : 0 < d) (h1 : d = 1) :
    Calls Tryz.prog 74 #[.agg #[.bool i.neg, .slice i.A i.k i.c], .agg #[.bool j.neg, .slice j.A j.k j.c]] w (RetR (Rat.divInt x d) w) := by
  have Hq := Lib.hid (low_num (x := x) hd)
  have HLx := Lib.hid h.lt; have HLd := Lib.hid h'.lt
  obtain ⟨W0, hW0⟩ : ∃ W0, W0 = (((w.alloc (.cells #[.bool i.neg, .slice i.A i.k i.c] 34)).alloc (.cells #[.bool j.neg, .slice j.A j.k j.c] 34)).alloc (.cells #[.bool false, .slice none 0 0, .bool false, .slice none 0 0] 36)) := ⟨_, rfl⟩
  obtain ⟨p0, p1, p2, pb⟩ := lay3 hW0
  have HBa := Lib.hid p0
  have HBb := Lib.hid p1
  have HBr := Lib.hid p2
  have Hbel := Lib.hid pb
  have Hi := Lib.hid (Rests.al3 (h.old) hW0)
  have Hj := Lib.hid (Rests.al3 (h'.old) hW0)
  have HT := Lib.hid (Rests.al3 (hT.old) hW0)
  clear p0 p1 p2 pb
  subst hW0
  have ne01 : w.heap.size ≠ w.heap.size + 1 := by omega
  have ne02 : w.heap.size ≠ w.heap.size + 1 + 1 := by omega
  have ne10 : w.heap.size + 1 ≠ w.heap.size := by omega
  have ne12 : w.heap.size + 1 ≠ w.heap.size + 1 + 1 := by omega
  have ne20 : w.heap.size + 1 + 1 ≠ w.heap.size := by omega
  have ne21 : w.heap.size + 1 + 1 ≠ w.heap.size + 1 := by omega
  have H1 := Lib.hid (decide_eq_true h1)
  have Hd1 := Lib.hid h1
  clear h h' hT hd h1
  go_enter Tryz.func74, Tryz.ntmps74
  go_upto_region 1 with fail
  go_cut [] (fun wx => ∃ ki kj, LowSt w wx ki kj x d)
  case first =>
    go_region_with (first | (go_at_call_of 90 (Value.agg #[.bool i.neg, .slice i.A i.k i.c]); go_must (refine (wnorm_any _ i x n hn (by first | exact Hi.out.now | exact Hi.out.drew.now)).mono ?_; rintro e w1 ⟨ki, rfl, hki, hbw1⟩; have hgl := HBr.out.lt; replace HBa := Lib.hid (Blk.below (by exact HBa.out) hbw1 (by exact HBa.out.lt)); obtain ⟨sw1HBa0, sw1HBa1⟩ := Blk.c2 HBa.out; obtain ⟨fw1HBa0, fw1HBa1⟩ := Blk.f2 HBa.out; replace HBb := Lib.hid (Blk.below (by exact HBb.out) hbw1 (by exact HBb.out.lt)); obtain ⟨sw1HBb0, sw1HBb1⟩ := Blk.c2 HBb.out; obtain ⟨fw1HBb0, fw1HBb1⟩ := Blk.f2 HBb.out; replace HBr := Lib.hid (Blk.below (by exact HBr.out) hbw1 (by exact HBr.out.lt)); obtain ⟨sw1HBr0, sw1HBr1, sw1HBr2, sw1HBr3⟩ := Blk.c4 HBr.out; obtain ⟨fw1HBr0, fw1HBr1, fw1HBr2, fw1HBr3⟩ := Blk.f4 HBr.out; replace Hi := Lib.hid (Rests.below (φ := IntD i x n) (by first | exact Hi.out | exact Hi.out.drew) hbw1); replace Hj := Lib.hid (Rests.below (φ := IntD j d n) (by first | exact Hj.out | exact Hj.out.drew) hbw1); replace HT := Lib.hid (Rests.below (φ := Tz) (by first | exact HT.out | exact HT.out.drew) hbw1); replace Hbel := Lib.hid (Below.after (by first | exact Hbel.out | exact Below.drew Hbel.out) hbw1); have Hki := Lib.hid (hki.mono (G := (w.heap.size + 1 + 1 + 1 ≤ ·)) (fun b hb => Nat.le_trans hgl hb)); clear hki hgl; (try replace Hkj := Lib.hid (Rests.below (φ := IntN kj d) (by first | exact Hkj.out | exact Hkj.out.drew) hbw1)); clear hbw1)) | (go_at_call_of 90 (Value.agg #[.bool j.neg, .slice j.A j.k j.c]); go_must (refine (wnorm_any _ j d n hn (by first | exact Hj.out.now | exact Hj.out.drew.now)).mono ?_; rintro e w2 ⟨kj, rfl, hkj, hbw2⟩; have hgl := HBr.out.lt; replace HBa := Lib.hid (Blk.below (by exact HBa.out) hbw2 (by exact HBa.out.lt)); obtain ⟨sw2HBa0, sw2HBa1⟩ := Blk.c2 HBa.out; obtain ⟨fw2HBa0, fw2HBa1⟩ := Blk.f2 HBa.out; replace HBb := Lib.hid (Blk.below (by exact HBb.out) hbw2 (by exact HBb.out.lt)); obtain ⟨sw2HBb0, sw2HBb1⟩ := Blk.c2 HBb.out; obtain ⟨fw2HBb0, fw2HBb1⟩ := Blk.f2 HBb.out; replace HBr := Lib.hid (Blk.below (by exact HBr.out) hbw2 (by exact HBr.out.lt)); obtain ⟨sw2HBr0, sw2HBr1, sw2HBr2, sw2HBr3⟩ := Blk.c4 HBr.out; obtain ⟨fw2HBr0, fw2HBr1, fw2HBr2, fw2HBr3⟩ := Blk.f4 HBr.out; replace Hi := Lib.hid (Rests.below (φ := IntD i x n) (by first | exact Hi.out | exact Hi.out.drew) hbw2); replace Hj := Lib.hid (Rests.below (φ := IntD j d n) (by first | exact Hj.out | exact Hj.out.drew) hbw2); replace HT := Lib.hid (Rests.below (φ := Tz) (by first | exact HT.out | exact HT.out.drew) hbw2); replace Hbel := Lib.hid (Below.after (by first | exact Hbel.out | exact Below.drew Hbel.out) hbw2); have Hkj := Lib.hid (hkj.mono (G := (w.heap.size + 1 + 1 + 1 ≤ ·)) (fun b hb => Nat.le_trans hgl hb)); clear hkj hgl; (try replace Hki := Lib.hid (Rests.below (φ := IntN ki x) (by first | exact Hki.out | exact Hki.out.drew) hbw2)); clear hbw2)))
    all_goals
      go_wp2_with fail
      go_meet
      exact ⟨ki, kj, ⟨((((((((HBa.out).set_ 0 _)).set_ 1 _)).far (p := ⟨w.heap.size + 1, 0, none⟩) (by exact ne01) _)).far (p := ⟨w.heap.size + 1, 1, none⟩) (by exact ne01) _), ((((((((HBb.out).far (p := ⟨w.heap.size, 0, none⟩) (by exact ne10) _)).far (p := ⟨w.heap.size, 1, none⟩) (by exact ne10) _)).set_ 0 _)).set_ 1 _), ((((((((HBr.out).far (p := ⟨w.heap.size, 0, none⟩) (by exact ne20) _)).far (p := ⟨w.heap.size, 1, none⟩) (by exact ne20) _)).far (p := ⟨w.heap.size + 1, 0, none⟩) (by exact ne21) _)).far (p := ⟨w.heap.size + 1, 1, none⟩) (by exact ne21) _), ((((((((Hki.out).set (a := ⟨w.heap.size, 0, none⟩) (by simp; try omega) _)).set (a := ⟨w.heap.size, 1, none⟩) (by simp; try omega) _)).set (a := ⟨w.heap.size + 1, 0, none⟩) (by simp; try omega) _)).set (a := ⟨w.heap.size + 1, 1, none⟩) (by simp; try omega) _), ((((((((Hkj.out).set (a := ⟨w.heap.size, 0, none⟩) (by simp; try omega) _)).set (a := ⟨w.heap.size, 1, none⟩) (by simp; try omega) _)).set (a := ⟨w.heap.size + 1, 0, none⟩) (by simp; try omega) _)).set (a := ⟨w.heap.size + 1, 1, none⟩) (by simp; try omega) _), ((((((((HT.out).set (a := ⟨w.heap.size, 0, none⟩) (by simp; try omega) _)).set (a := ⟨w.heap.size, 1, none⟩) (by simp; try omega) _)).set (a := ⟨w.heap.size + 1, 0, none⟩) (by simp; try omega) _)).set (a := ⟨w.heap.size + 1, 1, none⟩) (by simp; try omega) _), ((((((((Hbel.out).setCell (p := ⟨w.heap.size, 0, none⟩) (by simp) _)).setCell (p := ⟨w.heap.size, 1, none⟩) (by simp) _)).setCell (p := ⟨w.heap.size + 1, 0, none⟩) (by simp) _)).setCell (p := ⟨w.heap.size + 1, 1, none⟩) (by simp) _)⟩⟩
  case rest =>
    obtain ⟨ki, kj, hst⟩ := hcut
    have HBa := Lib.hid hst.ba; have HBb := Lib.hid hst.bb; have HBr := Lib.hid hst.br; have Hki := Lib.hid hst.hi; have Hkj := Lib.hid hst.hj; have HT := Lib.hid hst.tz; have Hbel := Lib.hid hst.below
    clear hst
    have cHBa0 : World.cell? _ ⟨w.heap.size, 0, none⟩ = some (.bool ki.neg) := HBa.out.cell 0
    have cfHBa0 : World.frozen? _ ⟨w.heap.size, 0, none⟩ = false := HBa.out.frozen 0
    have cHBa1 : World.cell? _ ⟨w.heap.size, 1, none⟩ = some (.slice ki.A ki.k ki.c) := HBa.out.cell 1
    have cfHBa1 : World.frozen? _ ⟨w.heap.size, 1, none⟩ = false := HBa.out.frozen 1
    have cHBb0 : World.cell? _ ⟨w.heap.size + 1, 0, none⟩ = some (.bool kj.neg) := HBb.out.cell 0
    have cfHBb0 : World.frozen? _ ⟨w.heap.size + 1, 0, none⟩ = false := HBb.out.frozen 0
    have cHBb1 : World.cell? _ ⟨w.heap.size + 1, 1, none⟩ = some (.slice kj.A kj.k kj.c) := HBb.out.cell 1
    have cfHBb1 : World.frozen? _ ⟨w.heap.size + 1, 1, none⟩ = false := HBb.out.frozen 1
    have cHBr0 : World.cell? _ ⟨w.heap.size + 1 + 1, 0, none⟩ = some (.bool false) := HBr.out.cell 0
    have cfHBr0 : World.frozen? _ ⟨w.heap.size + 1 + 1, 0, none⟩ = false := HBr.out.frozen 0
    have cHBr1 : World.cell? _ ⟨w.heap.size + 1 + 1, 1, none⟩ = some (.slice none 0 0) := HBr.out.cell 1
    have cfHBr1 : World.frozen? _ ⟨w.heap.size + 1 + 1, 1, none⟩ = false := HBr.out.frozen 1
    have cHBr2 : World.cell? _ ⟨w.heap.size + 1 + 1, 2, none⟩ = some (.bool false) := HBr.out.cell 2
    have cfHBr2 : World.frozen? _ ⟨w.heap.size + 1 + 1, 2, none⟩ = false := HBr.out.frozen 2
    have cHBr3 : World.cell? _ ⟨w.heap.size + 1 + 1, 3, none⟩ = some (.slice none 0 0) := HBr.out.cell 3
    have cfHBr3 : World.frozen? _ ⟨w.heap.size + 1 + 1, 3, none⟩ = false := HBr.out.frozen 3
    go_wp2_with fail
    refine (one_any _ kj d (by first | exact Hkj.out.now | exact Hkj.out.drew.now)).mono ?_
    rintro e w3 ⟨rfl, hb3⟩
    replace HBa := Lib.hid (Blk.below (by exact HBa.out) hb3 (by exact HBa.out.lt))
    obtain ⟨sw3HBa0, sw3HBa1⟩ := Blk.c2 HBa.out
    obtain ⟨fw3HBa0, fw3HBa1⟩ := Blk.f2 HBa.out
    replace HBb := Lib.hid (Blk.below (by exact HBb.out) hb3 (by exact HBb.out.lt))
    obtain ⟨sw3HBb0, sw3HBb1⟩ := Blk.c2 HBb.out
    obtain ⟨fw3HBb0, fw3HBb1⟩ := Blk.f2 HBb.out
    replace HBr := Lib.hid (Blk.below (by exact HBr.out) hb3 (by exact HBr.out.lt))
    obtain ⟨sw3HBr0, sw3HBr1, sw3HBr2, sw3HBr3⟩ := Blk.c4 HBr.out
    obtain ⟨fw3HBr0, fw3HBr1, fw3HBr2, fw3HBr3⟩ := Blk.f4 HBr.out
    replace Hki := Lib.hid (Rests.below (φ := IntN ki x) (by first | exact Hki.out | exact Hki.out.drew) hb3)
    replace Hkj := Lib.hid (Rests.below (φ := IntN kj d) (by first | exact Hkj.out | exact Hkj.out.drew) hb3)
    replace HT := Lib.hid (Rests.below (φ := Tz) (by first | exact HT.out | exact HT.out.drew) hb3)
    replace Hbel := Lib.hid (Below.after (by first | exact Hbel.out | exact Below.drew Hbel.out) hb3)
    clear hb3
    rw [H1.out]
    go_wp2_with fail
    refine (one_any _ kj d (by first | exact Hkj.out.now | exact Hkj.out.drew.now)).mono ?_
    rintro e w4 ⟨rfl, hb4⟩
    replace HBa := Lib.hid (Blk.below (by exact HBa.out) hb4 (by exact HBa.out.lt))
    obtain ⟨sw4HBa0, sw4HBa1⟩ := Blk.c2 HBa.out
    obtain ⟨fw4HBa0, fw4HBa1⟩ := Blk.f2 HBa.out
    replace HBb := Lib.hid (Blk.below (by exact HBb.out) hb4 (by exact HBb.out.lt))
    obtain ⟨sw4HBb0, sw4HBb1⟩ := Blk.c2 HBb.out
    obtain ⟨fw4HBb0, fw4HBb1⟩ := Blk.f2 HBb.out
    replace HBr := Lib.hid (Blk.below (by exact HBr.out) hb4 (by exact HBr.out.lt))
    obtain ⟨sw4HBr0, sw4HBr1, sw4HBr2, sw4HBr3⟩ := Blk.c4 HBr.out
    obtain ⟨fw4HBr0, fw4HBr1, fw4HBr2, fw4HBr3⟩ := Blk.f4 HBr.out
    replace Hki := Lib.hid (Rests.below (φ := IntN ki x) (by first | exact Hki.out | exact Hki.out.drew) hb4)
    replace Hkj := Lib.hid (Rests.below (φ := IntN kj d) (by first | exact Hkj.out | exact Hkj.out.drew) hb4)
    replace HT := Lib.hid (Rests.below (φ := Tz) (by first | exact HT.out | exact HT.out.drew) hb4)
    replace Hbel := Lib.hid (Below.after (by first | exact Hbel.out | exact Below.drew Hbel.out) hb4)
    clear hb4
    rw [H1.out]
    go_wp2_with fail
    have hfin : RetR (Rat.divInt x d) w (.returned (.agg #[.bool ki.neg, .slice ki.A ki.k ki.c, .bool false, .slice none 0 0])) ((((w4.setCell ⟨w.heap.size + 1 + 1, 0, none⟩ (.bool ki.neg)).setCell ⟨w.heap.size + 1 + 1, 1, none⟩ (.slice ki.A ki.k ki.c)).setCell ⟨w.heap.size + 1 + 1, 2, none⟩ (.bool false)).setCell ⟨w.heap.size + 1 + 1, 3, none⟩ (.slice none 0 0)) := ret_boxR (r := ⟨ki, ⟨false, none, 0, 0⟩⟩) (g := w.heap.size + 1 + 1) (w2 := w4) Hbel.out (by omega) (RatN.zero_den Hki.out (low_one Hd1.out).1 (low_one Hd1.out).2) (fun _ h => h)
    have b4 := box4 HBr.out (.bool ki.neg) (.slice ki.A ki.k ki.c) (.bool false) (.slice none 0 0)
    have q0 : World.cell? ((((w4.setCell ⟨w.heap.size + 1 + 1, 0, none⟩ (.bool ki.neg)).setCell ⟨w.heap.size + 1 + 1, 1, none⟩ (.slice ki.A ki.k ki.c)).setCell ⟨w.heap.size + 1 + 1, 2, none⟩ (.bool false)).setCell ⟨w.heap.size + 1 + 1, 3, none⟩ (.slice none 0 0)) ⟨w.heap.size + 1 + 1, 0, none⟩ = some (.bool ki.neg) := b4.cell 0
    have q1 : World.cell? ((((w4.setCell ⟨w.heap.size + 1 + 1, 0, none⟩ (.bool ki.neg)).setCell ⟨w.heap.size + 1 + 1, 1, none⟩ (.slice ki.A ki.k ki.c)).setCell ⟨w.heap.size + 1 + 1, 2, none⟩ (.bool false)).setCell ⟨w.heap.size + 1 + 1, 3, none⟩ (.slice none 0 0)) ⟨w.heap.size + 1 + 1, 1, none⟩ = some (.slice ki.A ki.k ki.c) := b4.cell 1
    have q2 : World.cell? ((((w4.setCell ⟨w.heap.size + 1 + 1, 0, none⟩ (.bool ki.neg)).setCell ⟨w.heap.size + 1 + 1, 1, none⟩ (.slice ki.A ki.k ki.c)).setCell ⟨w.heap.size + 1 + 1, 2, none⟩ (.bool false)).setCell ⟨w.heap.size + 1 + 1, 3, none⟩ (.slice none 0 0)) ⟨w.heap.size + 1 + 1, 2, none⟩ = some (.bool false) := b4.cell 2
    have q3 : World.cell? ((((w4.setCell ⟨w.heap.size + 1 + 1, 0, none⟩ (.bool ki.neg)).setCell ⟨w.heap.size + 1 + 1, 1, none⟩ (.slice ki.A ki.k ki.c)).setCell ⟨w.heap.size + 1 + 1, 2, none⟩ (.bool false)).setCell ⟨w.heap.size + 1 + 1, 3, none⟩ (.slice none 0 0)) ⟨w.heap.size + 1 + 1, 3, none⟩ = some (.slice none 0 0) := b4.cell 3
    clear b4 HBr Hbel
    generalize ((((w4.setCell ⟨w.heap.size + 1 + 1, 0, none⟩ (.bool ki.neg)).setCell ⟨w.heap.size + 1 + 1, 1, none⟩ (.slice ki.A ki.k ki.c)).setCell ⟨w.heap.size + 1 + 1, 2, none⟩ (.bool false)).setCell ⟨w.heap.size + 1 + 1, 3, none⟩ (.slice none 0 0)) = W at *
    exact bodyPost_ret (v := .agg #[.bool ki.neg, .slice ki.A ki.k ki.c, .bool false, .slice none 0 0]) (by simp [results, Tryz.results74, go_sem, q0, q1, q2, q3]) rfl hfin

set_option maxRecDepth 100000 in
set_option maxHeartbeats 4000000 in
theorem lowest_B1 (w : World) (i j : IV) (x d : Int) (n : Nat) (hn : n ≤ 900000000000) (h : IntD i x n w) (h' : IntD j d n w) (hT : Tz w) (hd : 0 < d) (h1 : d ≠ 1) (hg : Nat.gcd x.natAbs d.natAbs = 1) :
    Calls Tryz.prog 74 #[.agg #[.bool i.neg, .slice i.A i.k i.c], .agg #[.bool j.neg, .slice j.A j.k j.c]] w (RetR (Rat.divInt x d) w) := by
  have Hq := Lib.hid (low_num (x := x) hd)
  have HLx := Lib.hid h.lt; have HLd := Lib.hid h'.lt
  obtain ⟨W0, hW0⟩ : ∃ W0, W0 = (((w.alloc (.cells #[.bool i.neg, .slice i.A i.k i.c] 34)).alloc (.cells #[.bool j.neg, .slice j.A j.k j.c] 34)).alloc (.cells #[.bool false, .slice none 0 0, .bool false, .slice none 0 0] 36)) := ⟨_, rfl⟩
  obtain ⟨p0, p1, p2, pb⟩ := lay3 hW0
  have HBa := Lib.hid p0
  have HBb := Lib.hid p1
  have HBr := Lib.hid p2
  have Hbel := Lib.hid pb
  have Hi := Lib.hid (Rests.al3 (h.old) hW0)
  have Hj := Lib.hid (Rests.al3 (h'.old) hW0)
  have HT := Lib.hid (Rests.al3 (hT.old) hW0)
  clear p0 p1 p2 pb
  subst hW0
  have ne01 : w.heap.size ≠ w.heap.size + 1 := by omega
  have ne02 : w.heap.size ≠ w.heap.size + 1 + 1 := by omega
  have ne10 : w.heap.size + 1 ≠ w.heap.size := by omega
  have ne12 : w.heap.size + 1 ≠ w.heap.size + 1 + 1 := by omega
  have ne20 : w.heap.size + 1 + 1 ≠ w.heap.size := by omega
  have ne21 : w.heap.size + 1 + 1 ≠ w.heap.size + 1 := by omega
  have H1 := Lib.hid (decide_eq_false h1)
  have Hd1 := Lib.hid h1
  have Hg := Lib.hid hg
  have HLg := Lib.hid (show ((Nat.gcd x.natAbs d.natAbs : Nat) : Int).natAbs < B64 ^ n from Nat.lt_of_le_of_lt (Nat.gcd_le_right _ (by omega)) h'.lt)
  have Hg0 := Lib.hid (show ((Nat.gcd x.natAbs d.natAbs : Nat) : Int) ≠ 0 from by have : 0 < Nat.gcd x.natAbs d.natAbs := Nat.gcd_pos_of_pos_right _ (by omega); omega)
  have Hg1 := Lib.hid (show decide (((Nat.gcd x.natAbs d.natAbs : Nat) : Int) = 1) = true from decide_eq_true (by omega))
  clear h h' hT hd h1 hg
  go_enter Tryz.func74, Tryz.ntmps74
  go_upto_region 1 with fail
  go_cut [] (fun wx => ∃ ki kj, LowSt w wx ki kj x d)
  case first =>
    go_region_with (first | (go_at_call_of 90 (Value.agg #[.bool i.neg, .slice i.A i.k i.c]); go_must (refine (wnorm_any _ i x n hn (by first | exact Hi.out.now | exact Hi.out.drew.now)).mono ?_; rintro e w1 ⟨ki, rfl, hki, hbw1⟩; have hgl := HBr.out.lt; replace HBa := Lib.hid (Blk.below (by exact HBa.out) hbw1 (by exact HBa.out.lt)); obtain ⟨sw1HBa0, sw1HBa1⟩ := Blk.c2 HBa.out; obtain ⟨fw1HBa0, fw1HBa1⟩ := Blk.f2 HBa.out; replace HBb := Lib.hid (Blk.below (by exact HBb.out) hbw1 (by exact HBb.out.lt)); obtain ⟨sw1HBb0, sw1HBb1⟩ := Blk.c2 HBb.out; obtain ⟨fw1HBb0, fw1HBb1⟩ := Blk.f2 HBb.out; replace HBr := Lib.hid (Blk.below (by exact HBr.out) hbw1 (by exact HBr.out.lt)); obtain ⟨sw1HBr0, sw1HBr1, sw1HBr2, sw1HBr3⟩ := Blk.c4 HBr.out; obtain ⟨fw1HBr0, fw1HBr1, fw1HBr2, fw1HBr3⟩ := Blk.f4 HBr.out; replace Hi := Lib.hid (Rests.below (φ := IntD i x n) (by first | exact Hi.out | exact Hi.out.drew) hbw1); replace Hj := Lib.hid (Rests.below (φ := IntD j d n) (by first | exact Hj.out | exact Hj.out.drew) hbw1); replace HT := Lib.hid (Rests.below (φ := Tz) (by first | exact HT.out | exact HT.out.drew) hbw1); replace Hbel := Lib.hid (Below.after (by first | exact Hbel.out | exact Below.drew Hbel.out) hbw1); have Hki := Lib.hid (hki.mono (G := (w.heap.size + 1 + 1 + 1 ≤ ·)) (fun b hb => Nat.le_trans hgl hb)); clear hki hgl; (try replace Hkj := Lib.hid (Rests.below (φ := IntN kj d) (by first | exact Hkj.out | exact Hkj.out.drew) hbw1)); clear hbw1)) | (go_at_call_of 90 (Value.agg #[.bool j.neg, .slice j.A j.k j.c]); go_must (refine (wnorm_any _ j d n hn (by first | exact Hj.out.now | exact Hj.out.drew.now)).mono ?_; rintro e w2 ⟨kj, rfl, hkj, hbw2⟩; have hgl := HBr.out.lt; replace HBa := Lib.hid (Blk.below (by exact HBa.out) hbw2 (by exact HBa.out.lt)); obtain ⟨sw2HBa0, sw2HBa1⟩ := Blk.c2 HBa.out; obtain ⟨fw2HBa0, fw2HBa1⟩ := Blk.f2 HBa.out; replace HBb := Lib.hid (Blk.below (by exact HBb.out) hbw2 (by exact HBb.out.lt)); obtain ⟨sw2HBb0, sw2HBb1⟩ := Blk.c2 HBb.out; obtain ⟨fw2HBb0, fw2HBb1⟩ := Blk.f2 HBb.out; replace HBr := Lib.hid (Blk.below (by exact HBr.out) hbw2 (by exact HBr.out.lt)); obtain ⟨sw2HBr0, sw2HBr1, sw2HBr2, sw2HBr3⟩ := Blk.c4 HBr.out; obtain ⟨fw2HBr0, fw2HBr1, fw2HBr2, fw2HBr3⟩ := Blk.f4 HBr.out; replace Hi := Lib.hid (Rests.below (φ := IntD i x n) (by first | exact Hi.out | exact Hi.out.drew) hbw2); replace Hj := Lib.hid (Rests.below (φ := IntD j d n) (by first | exact Hj.out | exact Hj.out.drew) hbw2); replace HT := Lib.hid (Rests.below (φ := Tz) (by first | exact HT.out | exact HT.out.drew) hbw2); replace Hbel := Lib.hid (Below.after (by first | exact Hbel.out | exact Below.drew Hbel.out) hbw2); have Hkj := Lib.hid (hkj.mono (G := (w.heap.size + 1 + 1 + 1 ≤ ·)) (fun b hb => Nat.le_trans hgl hb)); clear hkj hgl; (try replace Hki := Lib.hid (Rests.below (φ := IntN ki x) (by first | exact Hki.out | exact Hki.out.drew) hbw2)); clear hbw2)))
    all_goals
      go_wp2_with fail
      go_meet
      exact ⟨ki, kj, ⟨((((((((HBa.out).set_ 0 _)).set_ 1 _)).far (p := ⟨w.heap.size + 1, 0, none⟩) (by exact ne01) _)).far (p := ⟨w.heap.size + 1, 1, none⟩) (by exact ne01) _), ((((((((HBb.out).far (p := ⟨w.heap.size, 0, none⟩) (by exact ne10) _)).far (p := ⟨w.heap.size, 1, none⟩) (by exact ne10) _)).set_ 0 _)).set_ 1 _), ((((((((HBr.out).far (p := ⟨w.heap.size, 0, none⟩) (by exact ne20) _)).far (p := ⟨w.heap.size, 1, none⟩) (by exact ne20) _)).far (p := ⟨w.heap.size + 1, 0, none⟩) (by exact ne21) _)).far (p := ⟨w.heap.size + 1, 1, none⟩) (by exact ne21) _), ((((((((Hki.out).set (a := ⟨w.heap.size, 0, none⟩) (by simp; try omega) _)).set (a := ⟨w.heap.size, 1, none⟩) (by simp; try omega) _)).set (a := ⟨w.heap.size + 1, 0, none⟩) (by simp; try omega) _)).set (a := ⟨w.heap.size + 1, 1, none⟩) (by simp; try omega) _), ((((((((Hkj.out).set (a := ⟨w.heap.size, 0, none⟩) (by simp; try omega) _)).set (a := ⟨w.heap.size, 1, none⟩) (by simp; try omega) _)).set (a := ⟨w.heap.size + 1, 0, none⟩) (by simp; try omega) _)).set (a := ⟨w.heap.size + 1, 1, none⟩) (by simp; try omega) _), ((((((((HT.out).set (a := ⟨w.heap.size, 0, none⟩) (by simp; try omega) _)).set (a := ⟨w.heap.size, 1, none⟩) (by simp; try omega) _)).set (a := ⟨w.heap.size + 1, 0, none⟩) (by simp; try omega) _)).set (a := ⟨w.heap.size + 1, 1, none⟩) (by simp; try omega) _), ((((((((Hbel.out).setCell (p := ⟨w.heap.size, 0, none⟩) (by simp) _)).setCell (p := ⟨w.heap.size, 1, none⟩) (by simp) _)).setCell (p := ⟨w.heap.size + 1, 0, none⟩) (by simp) _)).setCell (p := ⟨w.heap.size + 1, 1, none⟩) (by simp) _)⟩⟩
  case rest =>
    obtain ⟨ki, kj, hst⟩ := hcut
    have HBa := Lib.hid hst.ba; have HBb := Lib.hid hst.bb; have HBr := Lib.hid hst.br; have Hki := Lib.hid hst.hi; have Hkj := Lib.hid hst.hj; have HT := Lib.hid hst.tz; have Hbel := Lib.hid hst.below
    clear hst
    have cHBa0 : World.cell? _ ⟨w.heap.size, 0, none⟩ = some (.bool ki.neg) := HBa.out.cell 0
    have cfHBa0 : World.frozen? _ ⟨w.heap.size, 0, none⟩ = false := HBa.out.frozen 0
    have cHBa1 : World.cell? _ ⟨w.heap.size, 1, none⟩ = some (.slice ki.A ki.k ki.c) := HBa.out.cell 1
    have cfHBa1 : World.frozen? _ ⟨w.heap.size, 1, none⟩ = false := HBa.out.frozen 1
    have cHBb0 : World.cell? _ ⟨w.heap.size + 1, 0, none⟩ = some (.bool kj.neg) := HBb.out.cell 0
    have cfHBb0 : World.frozen? _ ⟨w.heap.size + 1, 0, none⟩ = false := HBb.out.frozen 0
    have cHBb1 : World.cell? _ ⟨w.heap.size + 1, 1, none⟩ = some (.slice kj.A kj.k kj.c) := HBb.out.cell 1
    have cfHBb1 : World.frozen? _ ⟨w.heap.size + 1, 1, none⟩ = false := HBb.out.frozen 1
    have cHBr0 : World.cell? _ ⟨w.heap.size + 1 + 1, 0, none⟩ = some (.bool false) := HBr.out.cell 0
    have cfHBr0 : World.frozen? _ ⟨w.heap.size + 1 + 1, 0, none⟩ = false := HBr.out.frozen 0
    have cHBr1 : World.cell? _ ⟨w.heap.size + 1 + 1, 1, none⟩ = some (.slice none 0 0) := HBr.out.cell 1
    have cfHBr1 : World.frozen? _ ⟨w.heap.size + 1 + 1, 1, none⟩ = false := HBr.out.frozen 1
    have cHBr2 : World.cell? _ ⟨w.heap.size + 1 + 1, 2, none⟩ = some (.bool false) := HBr.out.cell 2
    have cfHBr2 : World.frozen? _ ⟨w.heap.size + 1 + 1, 2, none⟩ = false := HBr.out.frozen 2
    have cHBr3 : World.cell? _ ⟨w.heap.size + 1 + 1, 3, none⟩ = some (.slice none 0 0) := HBr.out.cell 3
    have cfHBr3 : World.frozen? _ ⟨w.heap.size + 1 + 1, 3, none⟩ = false := HBr.out.frozen 3
    go_wp2_with fail
    refine (one_any _ kj d (by first | exact Hkj.out.now | exact Hkj.out.drew.now)).mono ?_
    rintro e w3 ⟨rfl, hb3⟩
    replace HBa := Lib.hid (Blk.below (by exact HBa.out) hb3 (by exact HBa.out.lt))
    obtain ⟨sw3HBa0, sw3HBa1⟩ := Blk.c2 HBa.out
    obtain ⟨fw3HBa0, fw3HBa1⟩ := Blk.f2 HBa.out
    replace HBb := Lib.hid (Blk.below (by exact HBb.out) hb3 (by exact HBb.out.lt))
    obtain ⟨sw3HBb0, sw3HBb1⟩ := Blk.c2 HBb.out
    obtain ⟨fw3HBb0, fw3HBb1⟩ := Blk.f2 HBb.out
    replace HBr := Lib.hid (Blk.below (by exact HBr.out) hb3 (by exact HBr.out.lt))
    obtain ⟨sw3HBr0, sw3HBr1, sw3HBr2, sw3HBr3⟩ := Blk.c4 HBr.out
    obtain ⟨fw3HBr0, fw3HBr1, fw3HBr2, fw3HBr3⟩ := Blk.f4 HBr.out
    replace Hki := Lib.hid (Rests.below (φ := IntN ki x) (by first | exact Hki.out | exact Hki.out.drew) hb3)
    replace Hkj := Lib.hid (Rests.below (φ := IntN kj d) (by first | exact Hkj.out | exact Hkj.out.drew) hb3)
    replace HT := Lib.hid (Rests.below (φ := Tz) (by first | exact HT.out | exact HT.out.drew) hb3)
    replace Hbel := Lib.hid (Below.after (by first | exact Hbel.out | exact Below.drew Hbel.out) hb3)
    clear hb3
    rw [H1.out]
    go_wp2_with fail
    refine (wgcd_any _ ki kj x d n n hn hn (IntN.ofLt (by first | exact Hki.out.now | exact Hki.out.drew.now) HLx.out) (IntN.ofLt (by first | exact Hkj.out.now | exact Hkj.out.drew.now) HLd.out) (by first | exact HT.out.now | exact HT.out.drew.now)).mono ?_
    rintro e w4 ⟨kg, rfl, hkg, hb4⟩
    have hgl := HBr.out.lt
    replace HBa := Lib.hid (Blk.below (by exact HBa.out) hb4 (by exact HBa.out.lt))
    obtain ⟨sw4HBa0, sw4HBa1⟩ := Blk.c2 HBa.out
    obtain ⟨fw4HBa0, fw4HBa1⟩ := Blk.f2 HBa.out
    replace HBb := Lib.hid (Blk.below (by exact HBb.out) hb4 (by exact HBb.out.lt))
    obtain ⟨sw4HBb0, sw4HBb1⟩ := Blk.c2 HBb.out
    obtain ⟨fw4HBb0, fw4HBb1⟩ := Blk.f2 HBb.out
    replace HBr := Lib.hid (Blk.below (by exact HBr.out) hb4 (by exact HBr.out.lt))
    obtain ⟨sw4HBr0, sw4HBr1, sw4HBr2, sw4HBr3⟩ := Blk.c4 HBr.out
    obtain ⟨fw4HBr0, fw4HBr1, fw4HBr2, fw4HBr3⟩ := Blk.f4 HBr.out
    replace Hki := Lib.hid (Rests.below (φ := IntN ki x) (by first | exact Hki.out | exact Hki.out.drew) hb4)
    replace Hkj := Lib.hid (Rests.below (φ := IntN kj d) (by first | exact Hkj.out | exact Hkj.out.drew) hb4)
    replace HT := Lib.hid (Rests.below (φ := Tz) (by first | exact HT.out | exact HT.out.drew) hb4)
    replace Hbel := Lib.hid (Below.after (by first | exact Hbel.out | exact Below.drew Hbel.out) hb4)
    have Hkg := Lib.hid (hkg.mono (G := (w.heap.size + 1 + 1 + 1 ≤ ·)) (fun b hb => Nat.le_trans hgl hb))
    clear hkg hgl
    clear hb4
    have lg : w.heap.size + 1 + 1 < w4.heap.size := HBr.out.lt
    replace HBa := Lib.hid (HBa.out.alloc (.cells #[.bool kg.neg, .slice kg.A kg.k kg.c] 34))
    replace HBb := Lib.hid (HBb.out.alloc (.cells #[.bool kg.neg, .slice kg.A kg.k kg.c] 34))
    replace HBr := Lib.hid (HBr.out.alloc (.cells #[.bool kg.neg, .slice kg.A kg.k kg.c] 34))
    replace Hki := Lib.hid (Hki.out.alloc (.cells #[.bool kg.neg, .slice kg.A kg.k kg.c] 34))
    replace Hkj := Lib.hid (Hkj.out.alloc (.cells #[.bool kg.neg, .slice kg.A kg.k kg.c] 34))
    replace HT := Lib.hid (HT.out.alloc (.cells #[.bool kg.neg, .slice kg.A kg.k kg.c] 34))
    replace Hkg := Lib.hid (Hkg.out.alloc (.cells #[.bool kg.neg, .slice kg.A kg.k kg.c] 34))
    replace Hbel := Lib.hid (Hbel.out.alloc Hbel.out.size (.cells #[.bool kg.neg, .slice kg.A kg.k kg.c] 34))
    have HBg := Lib.hid (Blk.new w4 34 #[.bool kg.neg, .slice kg.A kg.k kg.c])
    have eHBa0 : World.cell? _ ⟨w.heap.size, 0, none⟩ = some (.bool ki.neg) := HBa.out.cell 0
    have efHBa0 : World.frozen? _ ⟨w.heap.size, 0, none⟩ = false := HBa.out.frozen 0
    have eHBa1 : World.cell? _ ⟨w.heap.size, 1, none⟩ = some (.slice ki.A ki.k ki.c) := HBa.out.cell 1
    have efHBa1 : World.frozen? _ ⟨w.heap.size, 1, none⟩ = false := HBa.out.frozen 1
    have eHBb0 : World.cell? _ ⟨w.heap.size + 1, 0, none⟩ = some (.bool kj.neg) := HBb.out.cell 0
    have efHBb0 : World.frozen? _ ⟨w.heap.size + 1, 0, none⟩ = false := HBb.out.frozen 0
    have eHBb1 : World.cell? _ ⟨w.heap.size + 1, 1, none⟩ = some (.slice kj.A kj.k kj.c) := HBb.out.cell 1
    have efHBb1 : World.frozen? _ ⟨w.heap.size + 1, 1, none⟩ = false := HBb.out.frozen 1
    have eHBr0 : World.cell? _ ⟨w.heap.size + 1 + 1, 0, none⟩ = some (.bool false) := HBr.out.cell 0
    have efHBr0 : World.frozen? _ ⟨w.heap.size + 1 + 1, 0, none⟩ = false := HBr.out.frozen 0
    have eHBr1 : World.cell? _ ⟨w.heap.size + 1 + 1, 1, none⟩ = some (.slice none 0 0) := HBr.out.cell 1
    have efHBr1 : World.frozen? _ ⟨w.heap.size + 1 + 1, 1, none⟩ = false := HBr.out.frozen 1
    have eHBr2 : World.cell? _ ⟨w.heap.size + 1 + 1, 2, none⟩ = some (.bool false) := HBr.out.cell 2
    have efHBr2 : World.frozen? _ ⟨w.heap.size + 1 + 1, 2, none⟩ = false := HBr.out.frozen 2
    have eHBr3 : World.cell? _ ⟨w.heap.size + 1 + 1, 3, none⟩ = some (.slice none 0 0) := HBr.out.cell 3
    have efHBr3 : World.frozen? _ ⟨w.heap.size + 1 + 1, 3, none⟩ = false := HBr.out.frozen 3
    have eHBg0 : World.cell? _ ⟨w4.heap.size, 0, none⟩ = some (.bool kg.neg) := HBg.out.cell 0
    have efHBg0 : World.frozen? _ ⟨w4.heap.size, 0, none⟩ = false := HBg.out.frozen 0
    have eHBg1 : World.cell? _ ⟨w4.heap.size, 1, none⟩ = some (.slice kg.A kg.k kg.c) := HBg.out.cell 1
    have efHBg1 : World.frozen? _ ⟨w4.heap.size, 1, none⟩ = false := HBg.out.frozen 1
    go_wp2_with fail
    refine (one_any _ kg (Nat.gcd x.natAbs d.natAbs : Int) (by first | exact Hkg.out.now | exact Hkg.out.drew.now)).mono ?_
    rintro e w5 ⟨rfl, hb5⟩
    replace HBa := Lib.hid (Blk.below (by exact HBa.out) hb5 (by exact HBa.out.lt))
    obtain ⟨sw5HBa0, sw5HBa1⟩ := Blk.c2 HBa.out
    obtain ⟨fw5HBa0, fw5HBa1⟩ := Blk.f2 HBa.out
    replace HBb := Lib.hid (Blk.below (by exact HBb.out) hb5 (by exact HBb.out.lt))
    obtain ⟨sw5HBb0, sw5HBb1⟩ := Blk.c2 HBb.out
    obtain ⟨fw5HBb0, fw5HBb1⟩ := Blk.f2 HBb.out
    replace HBr := Lib.hid (Blk.below (by exact HBr.out) hb5 (by exact HBr.out.lt))
    obtain ⟨sw5HBr0, sw5HBr1, sw5HBr2, sw5HBr3⟩ := Blk.c4 HBr.out
    obtain ⟨fw5HBr0, fw5HBr1, fw5HBr2, fw5HBr3⟩ := Blk.f4 HBr.out
    replace HBg := Lib.hid (Blk.below (by exact HBg.out) hb5 (by exact HBg.out.lt))
    obtain ⟨sw5HBg0, sw5HBg1⟩ := Blk.c2 HBg.out
    replace Hki := Lib.hid (Rests.below (φ := IntN ki x) (by first | exact Hki.out | exact Hki.out.drew) hb5)
    replace Hkj := Lib.hid (Rests.below (φ := IntN kj d) (by first | exact Hkj.out | exact Hkj.out.drew) hb5)
    replace HT := Lib.hid (Rests.below (φ := Tz) (by first | exact HT.out | exact HT.out.drew) hb5)
    replace Hkg := Lib.hid (Rests.below (φ := IntN kg (Nat.gcd x.natAbs d.natAbs : Int)) (by first | exact Hkg.out | exact Hkg.out.drew) hb5)
    replace Hbel := Lib.hid (Below.after (by first | exact Hbel.out | exact Below.drew Hbel.out) hb5)
    clear hb5
    rw [Hg1.out]
    go_wp2_with fail
    refine (one_any _ kj d (by first | exact Hkj.out.now | exact Hkj.out.drew.now)).mono ?_
    rintro e w6 ⟨rfl, hb6⟩
    replace HBa := Lib.hid (Blk.below (by exact HBa.out) hb6 (by exact HBa.out.lt))
    obtain ⟨sw6HBa0, sw6HBa1⟩ := Blk.c2 HBa.out
    obtain ⟨fw6HBa0, fw6HBa1⟩ := Blk.f2 HBa.out
    replace HBb := Lib.hid (Blk.below (by exact HBb.out) hb6 (by exact HBb.out.lt))
    obtain ⟨sw6HBb0, sw6HBb1⟩ := Blk.c2 HBb.out
    obtain ⟨fw6HBb0, fw6HBb1⟩ := Blk.f2 HBb.out
    replace HBr := Lib.hid (Blk.below (by exact HBr.out) hb6 (by exact HBr.out.lt))
    obtain ⟨sw6HBr0, sw6HBr1, sw6HBr2, sw6HBr3⟩ := Blk.c4 HBr.out
    obtain ⟨fw6HBr0, fw6HBr1, fw6HBr2, fw6HBr3⟩ := Blk.f4 HBr.out
    replace HBg := Lib.hid (Blk.below (by exact HBg.out) hb6 (by exact HBg.out.lt))
    obtain ⟨sw6HBg0, sw6HBg1⟩ := Blk.c2 HBg.out
    replace Hki := Lib.hid (Rests.below (φ := IntN ki x) (by first | exact Hki.out | exact Hki.out.drew) hb6)
    replace Hkj := Lib.hid (Rests.below (φ := IntN kj d) (by first | exact Hkj.out | exact Hkj.out.drew) hb6)
    replace HT := Lib.hid (Rests.below (φ := Tz) (by first | exact HT.out | exact HT.out.drew) hb6)
    replace Hkg := Lib.hid (Rests.below (φ := IntN kg (Nat.gcd x.natAbs d.natAbs : Int)) (by first | exact Hkg.out | exact Hkg.out.drew) hb6)
    replace Hbel := Lib.hid (Below.after (by first | exact Hbel.out | exact Below.drew Hbel.out) hb6)
    clear hb6
    rw [H1.out]
    go_wp2_with fail
    have hfin : RetR (Rat.divInt x d) w (.returned (.agg #[.bool ki.neg, .slice ki.A ki.k ki.c, .bool kj.neg, .slice kj.A kj.k kj.c])) ((((w6.setCell ⟨w.heap.size + 1 + 1, 0, none⟩ (.bool ki.neg)).setCell ⟨w.heap.size + 1 + 1, 1, none⟩ (.slice ki.A ki.k ki.c)).setCell ⟨w.heap.size + 1 + 1, 2, none⟩ (.bool kj.neg)).setCell ⟨w.heap.size + 1 + 1, 3, none⟩ (.slice kj.A kj.k kj.c)) := ret_boxR (r := ⟨ki, kj⟩) (g := w.heap.size + 1 + 1) (w2 := w6) Hbel.out (by omega) (RatN.more_den Hki.out Hkj.out (by rw [Hq.out.1, Hg.out]; simp) (by rw [Hq.out.2, Hg.out]; simp) Hd1.out) (fun _ h => h)
    have b4 := box4 HBr.out (.bool ki.neg) (.slice ki.A ki.k ki.c) (.bool kj.neg) (.slice kj.A kj.k kj.c)
    have q0 : World.cell? ((((w6.setCell ⟨w.heap.size + 1 + 1, 0, none⟩ (.bool ki.neg)).setCell ⟨w.heap.size + 1 + 1, 1, none⟩ (.slice ki.A ki.k ki.c)).setCell ⟨w.heap.size + 1 + 1, 2, none⟩ (.bool kj.neg)).setCell ⟨w.heap.size + 1 + 1, 3, none⟩ (.slice kj.A kj.k kj.c)) ⟨w.heap.size + 1 + 1, 0, none⟩ = some (.bool ki.neg) := b4.cell 0
    have q1 : World.cell? ((((w6.setCell ⟨w.heap.size + 1 + 1, 0, none⟩ (.bool ki.neg)).setCell ⟨w.heap.size + 1 + 1, 1, none⟩ (.slice ki.A ki.k ki.c)).setCell ⟨w.heap.size + 1 + 1, 2, none⟩ (.bool kj.neg)).setCell ⟨w.heap.size + 1 + 1, 3, none⟩ (.slice kj.A kj.k kj.c)) ⟨w.heap.size + 1 + 1, 1, none⟩ = some (.slice ki.A ki.k ki.c) := b4.cell 1
    have q2 : World.cell? ((((w6.setCell ⟨w.heap.size + 1 + 1, 0, none⟩ (.bool ki.neg)).setCell ⟨w.heap.size + 1 + 1, 1, none⟩ (.slice ki.A ki.k ki.c)).setCell ⟨w.heap.size + 1 + 1, 2, none⟩ (.bool kj.neg)).setCell ⟨w.heap.size + 1 + 1, 3, none⟩ (.slice kj.A kj.k kj.c)) ⟨w.heap.size + 1 + 1, 2, none⟩ = some (.bool kj.neg) := b4.cell 2
    have q3 : World.cell? ((((w6.setCell ⟨w.heap.size + 1 + 1, 0, none⟩ (.bool ki.neg)).setCell ⟨w.heap.size + 1 + 1, 1, none⟩ (.slice ki.A ki.k ki.c)).setCell ⟨w.heap.size + 1 + 1, 2, none⟩ (.bool kj.neg)).setCell ⟨w.heap.size + 1 + 1, 3, none⟩ (.slice kj.A kj.k kj.c)) ⟨w.heap.size + 1 + 1, 3, none⟩ = some (.slice kj.A kj.k kj.c) := b4.cell 3
    clear b4 HBr Hbel
    generalize ((((w6.setCell ⟨w.heap.size + 1 + 1, 0, none⟩ (.bool ki.neg)).setCell ⟨w.heap.size + 1 + 1, 1, none⟩ (.slice ki.A ki.k ki.c)).setCell ⟨w.heap.size + 1 + 1, 2, none⟩ (.bool kj.neg)).setCell ⟨w.heap.size + 1 + 1, 3, none⟩ (.slice kj.A kj.k kj.c)) = W at *
    exact bodyPost_ret (v := .agg #[.bool ki.neg, .slice ki.A ki.k ki.c, .bool kj.neg, .slice kj.A kj.k kj.c]) (by simp [results, Tryz.results74, go_sem, q0, q1, q2, q3]) rfl hfin

set_option maxRecDepth 100000 in
set_option maxHeartbeats 4000000 in
theorem lowest_B2a (w : World) (i j : IV) (x d : Int) (n : Nat) (hn : n ≤ 900000000000) (h : IntD i x n w) (h' : IntD j d n w) (hT : Tz w) (hd : 0 < d) (h1 : d ≠ 1) (hg : Nat.gcd x.natAbs d.natAbs ≠ 1) (h2 : d / (Nat.gcd x.natAbs d.natAbs : Int) = 1) :
    Calls Tryz.prog 74 #[.agg #[.bool i.neg, .slice i.A i.k i.c], .agg #[.bool j.neg, .slice j.A j.k j.c]] w (RetR (Rat.divInt x d) w) := by
  have Hq := Lib.hid (low_num (x := x) hd)
  have HLx := Lib.hid h.lt; have HLd := Lib.hid h'.lt
  obtain ⟨W0, hW0⟩ : ∃ W0, W0 = (((w.alloc (.cells #[.bool i.neg, .slice i.A i.k i.c] 34)).alloc (.cells #[.bool j.neg, .slice j.A j.k j.c] 34)).alloc (.cells #[.bool false, .slice none 0 0, .bool false, .slice none 0 0] 36)) := ⟨_, rfl⟩
  obtain ⟨p0, p1, p2, pb⟩ := lay3 hW0
  have HBa := Lib.hid p0
  have HBb := Lib.hid p1
  have HBr := Lib.hid p2
  have Hbel := Lib.hid pb
  have Hi := Lib.hid (Rests.al3 (h.old) hW0)
  have Hj := Lib.hid (Rests.al3 (h'.old) hW0)
  have HT := Lib.hid (Rests.al3 (hT.old) hW0)
  clear p0 p1 p2 pb
  subst hW0
  have ne01 : w.heap.size ≠ w.heap.size + 1 := by omega
  have ne02 : w.heap.size ≠ w.heap.size + 1 + 1 := by omega
  have ne10 : w.heap.size + 1 ≠ w.heap.size := by omega
  have ne12 : w.heap.size + 1 ≠ w.heap.size + 1 + 1 := by omega
  have ne20 : w.heap.size + 1 + 1 ≠ w.heap.size := by omega
  have ne21 : w.heap.size + 1 + 1 ≠ w.heap.size + 1 := by omega
  have H1 := Lib.hid (decide_eq_false h1)
  have Hg := Lib.hid hg
  have H2 := Lib.hid h2
  have HLg := Lib.hid (show ((Nat.gcd x.natAbs d.natAbs : Nat) : Int).natAbs < B64 ^ n from Nat.lt_of_le_of_lt (Nat.gcd_le_right _ (by omega)) h'.lt)
  have Hg0 := Lib.hid (show ((Nat.gcd x.natAbs d.natAbs : Nat) : Int) ≠ 0 from by have : 0 < Nat.gcd x.natAbs d.natAbs := Nat.gcd_pos_of_pos_right _ (by omega); omega)
  have Hg1 := Lib.hid (show decide (((Nat.gcd x.natAbs d.natAbs : Nat) : Int) = 1) = false from decide_eq_false (by omega))
  have H2d := Lib.hid (decide_eq_true h2)
  clear h h' hT hd h1 hg h2
  go_enter Tryz.func74, Tryz.ntmps74
  go_upto_region 1 with fail
  go_cut [] (fun wx => ∃ ki kj, LowSt w wx ki kj x d)
  case first =>
    go_region_with (first | (go_at_call_of 90 (Value.agg #[.bool i.neg, .slice i.A i.k i.c]); go_must (refine (wnorm_any _ i x n hn (by first | exact Hi.out.now | exact Hi.out.drew.now)).mono ?_; rintro e w1 ⟨ki, rfl, hki, hbw1⟩; have hgl := HBr.out.lt; replace HBa := Lib.hid (Blk.below (by exact HBa.out) hbw1 (by exact HBa.out.lt)); obtain ⟨sw1HBa0, sw1HBa1⟩ := Blk.c2 HBa.out; obtain ⟨fw1HBa0, fw1HBa1⟩ := Blk.f2 HBa.out; replace HBb := Lib.hid (Blk.below (by exact HBb.out) hbw1 (by exact HBb.out.lt)); obtain ⟨sw1HBb0, sw1HBb1⟩ := Blk.c2 HBb.out; obtain ⟨fw1HBb0, fw1HBb1⟩ := Blk.f2 HBb.out; replace HBr := Lib.hid (Blk.below (by exact HBr.out) hbw1 (by exact HBr.out.lt)); obtain ⟨sw1HBr0, sw1HBr1, sw1HBr2, sw1HBr3⟩ := Blk.c4 HBr.out; obtain ⟨fw1HBr0, fw1HBr1, fw1HBr2, fw1HBr3⟩ := Blk.f4 HBr.out; replace Hi := Lib.hid (Rests.below (φ := IntD i x n) (by first | exact Hi.out | exact Hi.out.drew) hbw1); replace Hj := Lib.hid (Rests.below (φ := IntD j d n) (by first | exact Hj.out | exact Hj.out.drew) hbw1); replace HT := Lib.hid (Rests.below (φ := Tz) (by first | exact HT.out | exact HT.out.drew) hbw1); replace Hbel := Lib.hid (Below.after (by first | exact Hbel.out | exact Below.drew Hbel.out) hbw1); have Hki := Lib.hid (hki.mono (G := (w.heap.size + 1 + 1 + 1 ≤ ·)) (fun b hb => Nat.le_trans hgl hb)); clear hki hgl; (try replace Hkj := Lib.hid (Rests.below (φ := IntN kj d) (by first | exact Hkj.out | exact Hkj.out.drew) hbw1)); clear hbw1)) | (go_at_call_of 90 (Value.agg #[.bool j.neg, .slice j.A j.k j.c]); go_must (refine (wnorm_any _ j d n hn (by first | exact Hj.out.now | exact Hj.out.drew.now)).mono ?_; rintro e w2 ⟨kj, rfl, hkj, hbw2⟩; have hgl := HBr.out.lt; replace HBa := Lib.hid (Blk.below (by exact HBa.out) hbw2 (by exact HBa.out.lt)); obtain ⟨sw2HBa0, sw2HBa1⟩ := Blk.c2 HBa.out; obtain ⟨fw2HBa0, fw2HBa1⟩ := Blk.f2 HBa.out; replace HBb := Lib.hid (Blk.below (by exact HBb.out) hbw2 (by exact HBb.out.lt)); obtain ⟨sw2HBb0, sw2HBb1⟩ := Blk.c2 HBb.out; obtain ⟨fw2HBb0, fw2HBb1⟩ := Blk.f2 HBb.out; replace HBr := Lib.hid (Blk.below (by exact HBr.out) hbw2 (by exact HBr.out.lt)); obtain ⟨sw2HBr0, sw2HBr1, sw2HBr2, sw2HBr3⟩ := Blk.c4 HBr.out; obtain ⟨fw2HBr0, fw2HBr1, fw2HBr2, fw2HBr3⟩ := Blk.f4 HBr.out; replace Hi := Lib.hid (Rests.below (φ := IntD i x n) (by first | exact Hi.out | exact Hi.out.drew) hbw2); replace Hj := Lib.hid (Rests.below (φ := IntD j d n) (by first | exact Hj.out | exact Hj.out.drew) hbw2); replace HT := Lib.hid (Rests.below (φ := Tz) (by first | exact HT.out | exact HT.out.drew) hbw2); replace Hbel := Lib.hid (Below.after (by first | exact Hbel.out | exact Below.drew Hbel.out) hbw2); have Hkj := Lib.hid (hkj.mono (G := (w.heap.size + 1 + 1 + 1 ≤ ·)) (fun b hb => Nat.le_trans hgl hb)); clear hkj hgl; (try replace Hki := Lib.hid (Rests.below (φ := IntN ki x) (by first | exact Hki.out | exact Hki.out.drew) hbw2)); clear hbw2)))
    all_goals
      go_wp2_with fail
      go_meet
      exact ⟨ki, kj, ⟨((((((((HBa.out).set_ 0 _)).set_ 1 _)).far (p := ⟨w.heap.size + 1, 0, none⟩) (by exact ne01) _)).far (p := ⟨w.heap.size + 1, 1, none⟩) (by exact ne01) _), ((((((((HBb.out).far (p := ⟨w.heap.size, 0, none⟩) (by exact ne10) _)).far (p := ⟨w.heap.size, 1, none⟩) (by exact ne10) _)).set_ 0 _)).set_ 1 _), ((((((((HBr.out).far (p := ⟨w.heap.size, 0, none⟩) (by exact ne20) _)).far (p := ⟨w.heap.size, 1, none⟩) (by exact ne20) _)).far (p := ⟨w.heap.size + 1, 0, none⟩) (by exact ne21) _)).far (p := ⟨w.heap.size + 1, 1, none⟩) (by exact ne21) _), ((((((((Hki.out).set (a := ⟨w.heap.size, 0, none⟩) (by simp; try omega) _)).set (a := ⟨w.heap.size, 1, none⟩) (by simp; try omega) _)).set (a := ⟨w.heap.size + 1, 0, none⟩) (by simp; try omega) _)).set (a := ⟨w.heap.size + 1, 1, none⟩) (by simp; try omega) _), ((((((((Hkj.out).set (a := ⟨w.heap.size, 0, none⟩) (by simp; try omega) _)).set (a := ⟨w.heap.size, 1, none⟩) (by simp; try omega) _)).set (a := ⟨w.heap.size + 1, 0, none⟩) (by simp; try omega) _)).set (a := ⟨w.heap.size + 1, 1, none⟩) (by simp; try omega) _), ((((((((HT.out).set (a := ⟨w.heap.size, 0, none⟩) (by simp; try omega) _)).set (a := ⟨w.heap.size, 1, none⟩) (by simp; try omega) _)).set (a := ⟨w.heap.size + 1, 0, none⟩) (by simp; try omega) _)).set (a := ⟨w.heap.size + 1, 1, none⟩) (by simp; try omega) _), ((((((((Hbel.out).setCell (p := ⟨w.heap.size, 0, none⟩) (by simp) _)).setCell (p := ⟨w.heap.size, 1, none⟩) (by simp) _)).setCell (p := ⟨w.heap.size + 1, 0, none⟩) (by simp) _)).setCell (p := ⟨w.heap.size + 1, 1, none⟩) (by simp) _)⟩⟩
  case rest =>
    obtain ⟨ki, kj, hst⟩ := hcut
    have HBa := Lib.hid hst.ba; have HBb := Lib.hid hst.bb; have HBr := Lib.hid hst.br; have Hki := Lib.hid hst.hi; have Hkj := Lib.hid hst.hj; have HT := Lib.hid hst.tz; have Hbel := Lib.hid hst.below
    clear hst
    have cHBa0 : World.cell? _ ⟨w.heap.size, 0, none⟩ = some (.bool ki.neg) := HBa.out.cell 0
    have cfHBa0 : World.frozen? _ ⟨w.heap.size, 0, none⟩ = false := HBa.out.frozen 0
    have cHBa1 : World.cell? _ ⟨w.heap.size, 1, none⟩ = some (.slice ki.A ki.k ki.c) := HBa.out.cell 1
    have cfHBa1 : World.frozen? _ ⟨w.heap.size, 1, none⟩ = false := HBa.out.frozen 1
    have cHBb0 : World.cell? _ ⟨w.heap.size + 1, 0, none⟩ = some (.bool kj.neg) := HBb.out.cell 0
    have cfHBb0 : World.frozen? _ ⟨w.heap.size + 1, 0, none⟩ = false := HBb.out.frozen 0
    have cHBb1 : World.cell? _ ⟨w.heap.size + 1, 1, none⟩ = some (.slice kj.A kj.k kj.c) := HBb.out.cell 1
    have cfHBb1 : World.frozen? _ ⟨w.heap.size + 1, 1, none⟩ = false := HBb.out.frozen 1
    have cHBr0 : World.cell? _ ⟨w.heap.size + 1 + 1, 0, none⟩ = some (.bool false) := HBr.out.cell 0
    have cfHBr0 : World.frozen? _ ⟨w.heap.size + 1 + 1, 0, none⟩ = false := HBr.out.frozen 0
    have cHBr1 : World.cell? _ ⟨w.heap.size + 1 + 1, 1, none⟩ = some (.slice none 0 0) := HBr.out.cell 1
    have cfHBr1 : World.frozen? _ ⟨w.heap.size + 1 + 1, 1, none⟩ = false := HBr.out.frozen 1
    have cHBr2 : World.cell? _ ⟨w.heap.size + 1 + 1, 2, none⟩ = some (.bool false) := HBr.out.cell 2
    have cfHBr2 : World.frozen? _ ⟨w.heap.size + 1 + 1, 2, none⟩ = false := HBr.out.frozen 2
    have cHBr3 : World.cell? _ ⟨w.heap.size + 1 + 1, 3, none⟩ = some (.slice none 0 0) := HBr.out.cell 3
    have cfHBr3 : World.frozen? _ ⟨w.heap.size + 1 + 1, 3, none⟩ = false := HBr.out.frozen 3
    go_wp2_with fail
    refine (one_any _ kj d (by first | exact Hkj.out.now | exact Hkj.out.drew.now)).mono ?_
    rintro e w3 ⟨rfl, hb3⟩
    replace HBa := Lib.hid (Blk.below (by exact HBa.out) hb3 (by exact HBa.out.lt))
    obtain ⟨sw3HBa0, sw3HBa1⟩ := Blk.c2 HBa.out
    obtain ⟨fw3HBa0, fw3HBa1⟩ := Blk.f2 HBa.out
    replace HBb := Lib.hid (Blk.below (by exact HBb.out) hb3 (by exact HBb.out.lt))
    obtain ⟨sw3HBb0, sw3HBb1⟩ := Blk.c2 HBb.out
    obtain ⟨fw3HBb0, fw3HBb1⟩ := Blk.f2 HBb.out
    replace HBr := Lib.hid (Blk.below (by exact HBr.out) hb3 (by exact HBr.out.lt))
    obtain ⟨sw3HBr0, sw3HBr1, sw3HBr2, sw3HBr3⟩ := Blk.c4 HBr.out
    obtain ⟨fw3HBr0, fw3HBr1, fw3HBr2, fw3HBr3⟩ := Blk.f4 HBr.out
    replace Hki := Lib.hid (Rests.below (φ := IntN ki x) (by first | exact Hki.out | exact Hki.out.drew) hb3)
    replace Hkj := Lib.hid (Rests.below (φ := IntN kj d) (by first | exact Hkj.out | exact Hkj.out.drew) hb3)
    replace HT := Lib.hid (Rests.below (φ := Tz) (by first | exact HT.out | exact HT.out.drew) hb3)
    replace Hbel := Lib.hid (Below.after (by first | exact Hbel.out | exact Below.drew Hbel.out) hb3)
    clear hb3
    rw [H1.out]
    go_wp2_with fail
    refine (wgcd_any _ ki kj x d n n hn hn (IntN.ofLt (by first | exact Hki.out.now | exact Hki.out.drew.now) HLx.out) (IntN.ofLt (by first | exact Hkj.out.now | exact Hkj.out.drew.now) HLd.out) (by first | exact HT.out.now | exact HT.out.drew.now)).mono ?_
    rintro e w4 ⟨kg, rfl, hkg, hb4⟩
    have hgl := HBr.out.lt
    replace HBa := Lib.hid (Blk.below (by exact HBa.out) hb4 (by exact HBa.out.lt))
    obtain ⟨sw4HBa0, sw4HBa1⟩ := Blk.c2 HBa.out
    obtain ⟨fw4HBa0, fw4HBa1⟩ := Blk.f2 HBa.out
    replace HBb := Lib.hid (Blk.below (by exact HBb.out) hb4 (by exact HBb.out.lt))
    obtain ⟨sw4HBb0, sw4HBb1⟩ := Blk.c2 HBb.out
    obtain ⟨fw4HBb0, fw4HBb1⟩ := Blk.f2 HBb.out
    replace HBr := Lib.hid (Blk.below (by exact HBr.out) hb4 (by exact HBr.out.lt))
    obtain ⟨sw4HBr0, sw4HBr1, sw4HBr2, sw4HBr3⟩ := Blk.c4 HBr.out
    obtain ⟨fw4HBr0, fw4HBr1, fw4HBr2, fw4HBr3⟩ := Blk.f4 HBr.out
    replace Hki := Lib.hid (Rests.below (φ := IntN ki x) (by first | exact Hki.out | exact Hki.out.drew) hb4)
    replace Hkj := Lib.hid (Rests.below (φ := IntN kj d) (by first | exact Hkj.out | exact Hkj.out.drew) hb4)
    replace HT := Lib.hid (Rests.below (φ := Tz) (by first | exact HT.out | exact HT.out.drew) hb4)
    replace Hbel := Lib.hid (Below.after (by first | exact Hbel.out | exact Below.drew Hbel.out) hb4)
    have Hkg := Lib.hid (hkg.mono (G := (w.heap.size + 1 + 1 + 1 ≤ ·)) (fun b hb => Nat.le_trans hgl hb))
    clear hkg hgl
    clear hb4
    have lg : w.heap.size + 1 + 1 < w4.heap.size := HBr.out.lt
    replace HBa := Lib.hid (HBa.out.alloc (.cells #[.bool kg.neg, .slice kg.A kg.k kg.c] 34))
    replace HBb := Lib.hid (HBb.out.alloc (.cells #[.bool kg.neg, .slice kg.A kg.k kg.c] 34))
    replace HBr := Lib.hid (HBr.out.alloc (.cells #[.bool kg.neg, .slice kg.A kg.k kg.c] 34))
    replace Hki := Lib.hid (Hki.out.alloc (.cells #[.bool kg.neg, .slice kg.A kg.k kg.c] 34))
    replace Hkj := Lib.hid (Hkj.out.alloc (.cells #[.bool kg.neg, .slice kg.A kg.k kg.c] 34))
    replace HT := Lib.hid (HT.out.alloc (.cells #[.bool kg.neg, .slice kg.A kg.k kg.c] 34))
    replace Hkg := Lib.hid (Hkg.out.alloc (.cells #[.bool kg.neg, .slice kg.A kg.k kg.c] 34))
    replace Hbel := Lib.hid (Hbel.out.alloc Hbel.out.size (.cells #[.bool kg.neg, .slice kg.A kg.k kg.c] 34))
    have HBg := Lib.hid (Blk.new w4 34 #[.bool kg.neg, .slice kg.A kg.k kg.c])
    have eHBa0 : World.cell? _ ⟨w.heap.size, 0, none⟩ = some (.bool ki.neg) := HBa.out.cell 0
    have efHBa0 : World.frozen? _ ⟨w.heap.size, 0, none⟩ = false := HBa.out.frozen 0
    have eHBa1 : World.cell? _ ⟨w.heap.size, 1, none⟩ = some (.slice ki.A ki.k ki.c) := HBa.out.cell 1
    have efHBa1 : World.frozen? _ ⟨w.heap.size, 1, none⟩ = false := HBa.out.frozen 1
    have eHBb0 : World.cell? _ ⟨w.heap.size + 1, 0, none⟩ = some (.bool kj.neg) := HBb.out.cell 0
    have efHBb0 : World.frozen? _ ⟨w.heap.size + 1, 0, none⟩ = false := HBb.out.frozen 0
    have eHBb1 : World.cell? _ ⟨w.heap.size + 1, 1, none⟩ = some (.slice kj.A kj.k kj.c) := HBb.out.cell 1
    have efHBb1 : World.frozen? _ ⟨w.heap.size + 1, 1, none⟩ = false := HBb.out.frozen 1
    have eHBr0 : World.cell? _ ⟨w.heap.size + 1 + 1, 0, none⟩ = some (.bool false) := HBr.out.cell 0
    have efHBr0 : World.frozen? _ ⟨w.heap.size + 1 + 1, 0, none⟩ = false := HBr.out.frozen 0
    have eHBr1 : World.cell? _ ⟨w.heap.size + 1 + 1, 1, none⟩ = some (.slice none 0 0) := HBr.out.cell 1
    have efHBr1 : World.frozen? _ ⟨w.heap.size + 1 + 1, 1, none⟩ = false := HBr.out.frozen 1
    have eHBr2 : World.cell? _ ⟨w.heap.size + 1 + 1, 2, none⟩ = some (.bool false) := HBr.out.cell 2
    have efHBr2 : World.frozen? _ ⟨w.heap.size + 1 + 1, 2, none⟩ = false := HBr.out.frozen 2
    have eHBr3 : World.cell? _ ⟨w.heap.size + 1 + 1, 3, none⟩ = some (.slice none 0 0) := HBr.out.cell 3
    have efHBr3 : World.frozen? _ ⟨w.heap.size + 1 + 1, 3, none⟩ = false := HBr.out.frozen 3
    have eHBg0 : World.cell? _ ⟨w4.heap.size, 0, none⟩ = some (.bool kg.neg) := HBg.out.cell 0
    have efHBg0 : World.frozen? _ ⟨w4.heap.size, 0, none⟩ = false := HBg.out.frozen 0
    have eHBg1 : World.cell? _ ⟨w4.heap.size, 1, none⟩ = some (.slice kg.A kg.k kg.c) := HBg.out.cell 1
    have efHBg1 : World.frozen? _ ⟨w4.heap.size, 1, none⟩ = false := HBg.out.frozen 1
    go_wp2_with fail
    refine (one_any _ kg (Nat.gcd x.natAbs d.natAbs : Int) (by first | exact Hkg.out.now | exact Hkg.out.drew.now)).mono ?_
    rintro e w5 ⟨rfl, hb5⟩
    replace HBa := Lib.hid (Blk.below (by exact HBa.out) hb5 (by exact HBa.out.lt))
    obtain ⟨sw5HBa0, sw5HBa1⟩ := Blk.c2 HBa.out
    obtain ⟨fw5HBa0, fw5HBa1⟩ := Blk.f2 HBa.out
    replace HBb := Lib.hid (Blk.below (by exact HBb.out) hb5 (by exact HBb.out.lt))
    obtain ⟨sw5HBb0, sw5HBb1⟩ := Blk.c2 HBb.out
    obtain ⟨fw5HBb0, fw5HBb1⟩ := Blk.f2 HBb.out
    replace HBr := Lib.hid (Blk.below (by exact HBr.out) hb5 (by exact HBr.out.lt))
    obtain ⟨sw5HBr0, sw5HBr1, sw5HBr2, sw5HBr3⟩ := Blk.c4 HBr.out
    obtain ⟨fw5HBr0, fw5HBr1, fw5HBr2, fw5HBr3⟩ := Blk.f4 HBr.out
    replace HBg := Lib.hid (Blk.below (by exact HBg.out) hb5 (by exact HBg.out.lt))
    obtain ⟨sw5HBg0, sw5HBg1⟩ := Blk.c2 HBg.out
    replace Hki := Lib.hid (Rests.below (φ := IntN ki x) (by first | exact Hki.out | exact Hki.out.drew) hb5)
    replace Hkj := Lib.hid (Rests.below (φ := IntN kj d) (by first | exact Hkj.out | exact Hkj.out.drew) hb5)
    replace HT := Lib.hid (Rests.below (φ := Tz) (by first | exact HT.out | exact HT.out.drew) hb5)
    replace Hkg := Lib.hid (Rests.below (φ := IntN kg (Nat.gcd x.natAbs d.natAbs : Int)) (by first | exact Hkg.out | exact Hkg.out.drew) hb5)
    replace Hbel := Lib.hid (Below.after (by first | exact Hbel.out | exact Below.drew Hbel.out) hb5)
    clear hb5
    rw [Hg1.out]
    go_wp2_with fail
    refine (wdivMod_any _ ki kg x (Nat.gcd x.natAbs d.natAbs : Int) n n hn hn (IntN.ofLt (by first | exact Hki.out.now | exact Hki.out.drew.now) HLx.out) (IntN.ofLt (by first | exact Hkg.out.now | exact Hkg.out.drew.now) HLg.out) Hg0.out).mono ?_
    rintro e w6 ⟨p1, p2, rfl, hp1, hp2, hb6⟩
    have hgl := HBr.out.lt
    replace HBa := Lib.hid (Blk.below (by exact HBa.out) hb6 (by exact HBa.out.lt))
    obtain ⟨sw6HBa0, sw6HBa1⟩ := Blk.c2 HBa.out
    obtain ⟨fw6HBa0, fw6HBa1⟩ := Blk.f2 HBa.out
    replace HBb := Lib.hid (Blk.below (by exact HBb.out) hb6 (by exact HBb.out.lt))
    obtain ⟨sw6HBb0, sw6HBb1⟩ := Blk.c2 HBb.out
    obtain ⟨fw6HBb0, fw6HBb1⟩ := Blk.f2 HBb.out
    replace HBr := Lib.hid (Blk.below (by exact HBr.out) hb6 (by exact HBr.out.lt))
    obtain ⟨sw6HBr0, sw6HBr1, sw6HBr2, sw6HBr3⟩ := Blk.c4 HBr.out
    obtain ⟨fw6HBr0, fw6HBr1, fw6HBr2, fw6HBr3⟩ := Blk.f4 HBr.out
    replace HBg := Lib.hid (Blk.below (by exact HBg.out) hb6 (by exact HBg.out.lt))
    obtain ⟨sw6HBg0, sw6HBg1⟩ := Blk.c2 HBg.out
    replace Hki := Lib.hid (Rests.below (φ := IntN ki x) (by first | exact Hki.out | exact Hki.out.drew) hb6)
    replace Hkj := Lib.hid (Rests.below (φ := IntN kj d) (by first | exact Hkj.out | exact Hkj.out.drew) hb6)
    replace HT := Lib.hid (Rests.below (φ := Tz) (by first | exact HT.out | exact HT.out.drew) hb6)
    replace Hkg := Lib.hid (Rests.below (φ := IntN kg (Nat.gcd x.natAbs d.natAbs : Int)) (by first | exact Hkg.out | exact Hkg.out.drew) hb6)
    replace Hbel := Lib.hid (Below.after (by first | exact Hbel.out | exact Below.drew Hbel.out) hb6)
    have Hp1 := Lib.hid (hp1.mono (G := (w.heap.size + 1 + 1 + 1 ≤ ·)) (fun b hb => Nat.le_trans hgl hb))
    clear hp1 hp2 hgl
    clear hb6
    replace HBa := Lib.hid (((((HBa.out).set_ 0 (.bool p1.neg))).set_ 1 (.slice p1.A p1.k p1.c)))
    replace HBb := Lib.hid (((((HBb.out).far (p := ⟨w.heap.size, 0, none⟩) (show w.heap.size + 1 ≠ w.heap.size by omega) (.bool p1.neg))).far (p := ⟨w.heap.size, 1, none⟩) (show w.heap.size + 1 ≠ w.heap.size by omega) (.slice p1.A p1.k p1.c)))
    replace HBr := Lib.hid (((((HBr.out).far (p := ⟨w.heap.size, 0, none⟩) (show w.heap.size + 1 + 1 ≠ w.heap.size by omega) (.bool p1.neg))).far (p := ⟨w.heap.size, 1, none⟩) (show w.heap.size + 1 + 1 ≠ w.heap.size by omega) (.slice p1.A p1.k p1.c)))
    replace HBg := Lib.hid (((((HBg.out).far (p := ⟨w.heap.size, 0, none⟩) (show w4.heap.size ≠ w.heap.size by omega) (.bool p1.neg))).far (p := ⟨w.heap.size, 1, none⟩) (show w4.heap.size ≠ w.heap.size by omega) (.slice p1.A p1.k p1.c)))
    replace Hkj := Lib.hid (((((Hkj.out).set (a := ⟨w.heap.size, 0, none⟩) (by simp; try omega) (.bool p1.neg))).set (a := ⟨w.heap.size, 1, none⟩) (by simp; try omega) (.slice p1.A p1.k p1.c)))
    replace Hkg := Lib.hid (((((Hkg.out).set (a := ⟨w.heap.size, 0, none⟩) (by simp; try omega) (.bool p1.neg))).set (a := ⟨w.heap.size, 1, none⟩) (by simp; try omega) (.slice p1.A p1.k p1.c)))
    replace HT := Lib.hid (((((HT.out).set (a := ⟨w.heap.size, 0, none⟩) (by simp; try omega) (.bool p1.neg))).set (a := ⟨w.heap.size, 1, none⟩) (by simp; try omega) (.slice p1.A p1.k p1.c)))
    replace Hp1 := Lib.hid (((((Hp1.out).set (a := ⟨w.heap.size, 0, none⟩) (by simp; try omega) (.bool p1.neg))).set (a := ⟨w.heap.size, 1, none⟩) (by simp; try omega) (.slice p1.A p1.k p1.c)))
    replace Hbel := Lib.hid (((((Hbel.out).setCell (p := ⟨w.heap.size, 0, none⟩) (by simp) (.bool p1.neg))).setCell (p := ⟨w.heap.size, 1, none⟩) (by simp) (.slice p1.A p1.k p1.c)))
    have gHBa0 : World.cell? _ ⟨w.heap.size, 0, none⟩ = some (.bool p1.neg) := HBa.out.cell 0
    have gfHBa0 : World.frozen? _ ⟨w.heap.size, 0, none⟩ = false := HBa.out.frozen 0
    have gHBa1 : World.cell? _ ⟨w.heap.size, 1, none⟩ = some (.slice p1.A p1.k p1.c) := HBa.out.cell 1
    have gfHBa1 : World.frozen? _ ⟨w.heap.size, 1, none⟩ = false := HBa.out.frozen 1
    have gHBb0 : World.cell? _ ⟨w.heap.size + 1, 0, none⟩ = some (.bool kj.neg) := HBb.out.cell 0
    have gfHBb0 : World.frozen? _ ⟨w.heap.size + 1, 0, none⟩ = false := HBb.out.frozen 0
    have gHBb1 : World.cell? _ ⟨w.heap.size + 1, 1, none⟩ = some (.slice kj.A kj.k kj.c) := HBb.out.cell 1
    have gfHBb1 : World.frozen? _ ⟨w.heap.size + 1, 1, none⟩ = false := HBb.out.frozen 1
    have gHBr0 : World.cell? _ ⟨w.heap.size + 1 + 1, 0, none⟩ = some (.bool false) := HBr.out.cell 0
    have gfHBr0 : World.frozen? _ ⟨w.heap.size + 1 + 1, 0, none⟩ = false := HBr.out.frozen 0
    have gHBr1 : World.cell? _ ⟨w.heap.size + 1 + 1, 1, none⟩ = some (.slice none 0 0) := HBr.out.cell 1
    have gfHBr1 : World.frozen? _ ⟨w.heap.size + 1 + 1, 1, none⟩ = false := HBr.out.frozen 1
    have gHBr2 : World.cell? _ ⟨w.heap.size + 1 + 1, 2, none⟩ = some (.bool false) := HBr.out.cell 2
    have gfHBr2 : World.frozen? _ ⟨w.heap.size + 1 + 1, 2, none⟩ = false := HBr.out.frozen 2
    have gHBr3 : World.cell? _ ⟨w.heap.size + 1 + 1, 3, none⟩ = some (.slice none 0 0) := HBr.out.cell 3
    have gfHBr3 : World.frozen? _ ⟨w.heap.size + 1 + 1, 3, none⟩ = false := HBr.out.frozen 3
    have gHBg0 : World.cell? _ ⟨w4.heap.size, 0, none⟩ = some (.bool kg.neg) := HBg.out.cell 0
    have gfHBg0 : World.frozen? _ ⟨w4.heap.size, 0, none⟩ = false := HBg.out.frozen 0
    have gHBg1 : World.cell? _ ⟨w4.heap.size, 1, none⟩ = some (.slice kg.A kg.k kg.c) := HBg.out.cell 1
    have gfHBg1 : World.frozen? _ ⟨w4.heap.size, 1, none⟩ = false := HBg.out.frozen 1
    go_wp2_with fail
    refine (wdivMod_any _ kj kg d (Nat.gcd x.natAbs d.natAbs : Int) n n hn hn (IntN.ofLt (by first | exact Hkj.out.now | exact Hkj.out.drew.now) HLd.out) (IntN.ofLt (by first | exact Hkg.out.now | exact Hkg.out.drew.now) HLg.out) Hg0.out).mono ?_
    rintro e w7 ⟨p3, p4, rfl, hp3, hp4, hb7⟩
    have hgl := HBr.out.lt
    replace HBa := Lib.hid (Blk.below (by exact HBa.out) hb7 (by exact HBa.out.lt))
    obtain ⟨sw7HBa0, sw7HBa1⟩ := Blk.c2 HBa.out
    obtain ⟨fw7HBa0, fw7HBa1⟩ := Blk.f2 HBa.out
    replace HBb := Lib.hid (Blk.below (by exact HBb.out) hb7 (by exact HBb.out.lt))
    obtain ⟨sw7HBb0, sw7HBb1⟩ := Blk.c2 HBb.out
    obtain ⟨fw7HBb0, fw7HBb1⟩ := Blk.f2 HBb.out
    replace HBr := Lib.hid (Blk.below (by exact HBr.out) hb7 (by exact HBr.out.lt))
    obtain ⟨sw7HBr0, sw7HBr1, sw7HBr2, sw7HBr3⟩ := Blk.c4 HBr.out
    obtain ⟨fw7HBr0, fw7HBr1, fw7HBr2, fw7HBr3⟩ := Blk.f4 HBr.out
    replace HBg := Lib.hid (Blk.below (by exact HBg.out) hb7 (by exact HBg.out.lt))
    obtain ⟨sw7HBg0, sw7HBg1⟩ := Blk.c2 HBg.out
    replace Hkj := Lib.hid (Rests.below (φ := IntN kj d) (by first | exact Hkj.out | exact Hkj.out.drew) hb7)
    replace Hkg := Lib.hid (Rests.below (φ := IntN kg (Nat.gcd x.natAbs d.natAbs : Int)) (by first | exact Hkg.out | exact Hkg.out.drew) hb7)
    replace HT := Lib.hid (Rests.below (φ := Tz) (by first | exact HT.out | exact HT.out.drew) hb7)
    replace Hp1 := Lib.hid (Rests.below (φ := IntN p1 (x / (Nat.gcd x.natAbs d.natAbs : Int))) (by first | exact Hp1.out | exact Hp1.out.drew) hb7)
    replace Hbel := Lib.hid (Below.after (by first | exact Hbel.out | exact Below.drew Hbel.out) hb7)
    have Hp3 := Lib.hid (hp3.mono (G := (w.heap.size + 1 + 1 + 1 ≤ ·)) (fun b hb => Nat.le_trans hgl hb))
    clear hp3 hp4 hgl
    clear hb7
    replace HBb := Lib.hid (((((HBb.out).set_ 0 (.bool p3.neg))).set_ 1 (.slice p3.A p3.k p3.c)))
    replace HBa := Lib.hid (((((HBa.out).far (p := ⟨w.heap.size + 1, 0, none⟩) (show w.heap.size ≠ w.heap.size + 1 by omega) (.bool p3.neg))).far (p := ⟨w.heap.size + 1, 1, none⟩) (show w.heap.size ≠ w.heap.size + 1 by omega) (.slice p3.A p3.k p3.c)))
    replace HBr := Lib.hid (((((HBr.out).far (p := ⟨w.heap.size + 1, 0, none⟩) (show w.heap.size + 1 + 1 ≠ w.heap.size + 1 by omega) (.bool p3.neg))).far (p := ⟨w.heap.size + 1, 1, none⟩) (show w.heap.size + 1 + 1 ≠ w.heap.size + 1 by omega) (.slice p3.A p3.k p3.c)))
    replace HBg := Lib.hid (((((HBg.out).far (p := ⟨w.heap.size + 1, 0, none⟩) (show w4.heap.size ≠ w.heap.size + 1 by omega) (.bool p3.neg))).far (p := ⟨w.heap.size + 1, 1, none⟩) (show w4.heap.size ≠ w.heap.size + 1 by omega) (.slice p3.A p3.k p3.c)))
    replace HT := Lib.hid (((((HT.out).set (a := ⟨w.heap.size + 1, 0, none⟩) (by simp; try omega) (.bool p3.neg))).set (a := ⟨w.heap.size + 1, 1, none⟩) (by simp; try omega) (.slice p3.A p3.k p3.c)))
    replace Hp1 := Lib.hid (((((Hp1.out).set (a := ⟨w.heap.size + 1, 0, none⟩) (by simp; try omega) (.bool p3.neg))).set (a := ⟨w.heap.size + 1, 1, none⟩) (by simp; try omega) (.slice p3.A p3.k p3.c)))
    replace Hp3 := Lib.hid (((((Hp3.out).set (a := ⟨w.heap.size + 1, 0, none⟩) (by simp; try omega) (.bool p3.neg))).set (a := ⟨w.heap.size + 1, 1, none⟩) (by simp; try omega) (.slice p3.A p3.k p3.c)))
    replace Hbel := Lib.hid (((((Hbel.out).setCell (p := ⟨w.heap.size + 1, 0, none⟩) (by simp) (.bool p3.neg))).setCell (p := ⟨w.heap.size + 1, 1, none⟩) (by simp) (.slice p3.A p3.k p3.c)))
    have kHBa0 : World.cell? _ ⟨w.heap.size, 0, none⟩ = some (.bool p1.neg) := HBa.out.cell 0
    have kfHBa0 : World.frozen? _ ⟨w.heap.size, 0, none⟩ = false := HBa.out.frozen 0
    have kHBa1 : World.cell? _ ⟨w.heap.size, 1, none⟩ = some (.slice p1.A p1.k p1.c) := HBa.out.cell 1
    have kfHBa1 : World.frozen? _ ⟨w.heap.size, 1, none⟩ = false := HBa.out.frozen 1
    have kHBb0 : World.cell? _ ⟨w.heap.size + 1, 0, none⟩ = some (.bool p3.neg) := HBb.out.cell 0
    have kfHBb0 : World.frozen? _ ⟨w.heap.size + 1, 0, none⟩ = false := HBb.out.frozen 0
    have kHBb1 : World.cell? _ ⟨w.heap.size + 1, 1, none⟩ = some (.slice p3.A p3.k p3.c) := HBb.out.cell 1
    have kfHBb1 : World.frozen? _ ⟨w.heap.size + 1, 1, none⟩ = false := HBb.out.frozen 1
    have kHBr0 : World.cell? _ ⟨w.heap.size + 1 + 1, 0, none⟩ = some (.bool false) := HBr.out.cell 0
    have kfHBr0 : World.frozen? _ ⟨w.heap.size + 1 + 1, 0, none⟩ = false := HBr.out.frozen 0
    have kHBr1 : World.cell? _ ⟨w.heap.size + 1 + 1, 1, none⟩ = some (.slice none 0 0) := HBr.out.cell 1
    have kfHBr1 : World.frozen? _ ⟨w.heap.size + 1 + 1, 1, none⟩ = false := HBr.out.frozen 1
    have kHBr2 : World.cell? _ ⟨w.heap.size + 1 + 1, 2, none⟩ = some (.bool false) := HBr.out.cell 2
    have kfHBr2 : World.frozen? _ ⟨w.heap.size + 1 + 1, 2, none⟩ = false := HBr.out.frozen 2
    have kHBr3 : World.cell? _ ⟨w.heap.size + 1 + 1, 3, none⟩ = some (.slice none 0 0) := HBr.out.cell 3
    have kfHBr3 : World.frozen? _ ⟨w.heap.size + 1 + 1, 3, none⟩ = false := HBr.out.frozen 3
    go_wp2_with fail
    refine (one_any _ p3 (d / (Nat.gcd x.natAbs d.natAbs : Int)) (by first | exact Hp3.out.now | exact Hp3.out.drew.now)).mono ?_
    rintro e w8 ⟨rfl, hb8⟩
    replace HBa := Lib.hid (Blk.below (by exact HBa.out) hb8 (by exact HBa.out.lt))
    obtain ⟨sw8HBa0, sw8HBa1⟩ := Blk.c2 HBa.out
    obtain ⟨fw8HBa0, fw8HBa1⟩ := Blk.f2 HBa.out
    replace HBb := Lib.hid (Blk.below (by exact HBb.out) hb8 (by exact HBb.out.lt))
    obtain ⟨sw8HBb0, sw8HBb1⟩ := Blk.c2 HBb.out
    obtain ⟨fw8HBb0, fw8HBb1⟩ := Blk.f2 HBb.out
    replace HBr := Lib.hid (Blk.below (by exact HBr.out) hb8 (by exact HBr.out.lt))
    obtain ⟨sw8HBr0, sw8HBr1, sw8HBr2, sw8HBr3⟩ := Blk.c4 HBr.out
    obtain ⟨fw8HBr0, fw8HBr1, fw8HBr2, fw8HBr3⟩ := Blk.f4 HBr.out
    replace HT := Lib.hid (Rests.below (φ := Tz) (by first | exact HT.out | exact HT.out.drew) hb8)
    replace Hp1 := Lib.hid (Rests.below (φ := IntN p1 (x / (Nat.gcd x.natAbs d.natAbs : Int))) (by first | exact Hp1.out | exact Hp1.out.drew) hb8)
    replace Hp3 := Lib.hid (Rests.below (φ := IntN p3 (d / (Nat.gcd x.natAbs d.natAbs : Int))) (by first | exact Hp3.out | exact Hp3.out.drew) hb8)
    replace Hbel := Lib.hid (Below.after (by first | exact Hbel.out | exact Below.drew Hbel.out) hb8)
    clear hb8
    rw [H2d.out]
    go_wp2_with fail
    have hfin : RetR (Rat.divInt x d) w (.returned (.agg #[.bool p1.neg, .slice p1.A p1.k p1.c, .bool false, .slice none 0 0])) ((((w8.setCell ⟨w.heap.size + 1 + 1, 0, none⟩ (.bool p1.neg)).setCell ⟨w.heap.size + 1 + 1, 1, none⟩ (.slice p1.A p1.k p1.c)).setCell ⟨w.heap.size + 1 + 1, 2, none⟩ (.bool false)).setCell ⟨w.heap.size + 1 + 1, 3, none⟩ (.slice none 0 0)) := ret_boxR (r := ⟨p1, ⟨false, none, 0, 0⟩⟩) (g := w.heap.size + 1 + 1) (w2 := w8) Hbel.out (by omega) (RatN.zero_den Hp1.out Hq.out.1 (by have h5 := Hq.out.2; rw [H2.out] at h5; omega)) (fun _ h => h)
    have b4 := box4 HBr.out (.bool p1.neg) (.slice p1.A p1.k p1.c) (.bool false) (.slice none 0 0)
    have q0 : World.cell? ((((w8.setCell ⟨w.heap.size + 1 + 1, 0, none⟩ (.bool p1.neg)).setCell ⟨w.heap.size + 1 + 1, 1, none⟩ (.slice p1.A p1.k p1.c)).setCell ⟨w.heap.size + 1 + 1, 2, none⟩ (.bool false)).setCell ⟨w.heap.size + 1 + 1, 3, none⟩ (.slice none 0 0)) ⟨w.heap.size + 1 + 1, 0, none⟩ = some (.bool p1.neg) := b4.cell 0
    have q1 : World.cell? ((((w8.setCell ⟨w.heap.size + 1 + 1, 0, none⟩ (.bool p1.neg)).setCell ⟨w.heap.size + 1 + 1, 1, none⟩ (.slice p1.A p1.k p1.c)).setCell ⟨w.heap.size + 1 + 1, 2, none⟩ (.bool false)).setCell ⟨w.heap.size + 1 + 1, 3, none⟩ (.slice none 0 0)) ⟨w.heap.size + 1 + 1, 1, none⟩ = some (.slice p1.A p1.k p1.c) := b4.cell 1
    have q2 : World.cell? ((((w8.setCell ⟨w.heap.size + 1 + 1, 0, none⟩ (.bool p1.neg)).setCell ⟨w.heap.size + 1 + 1, 1, none⟩ (.slice p1.A p1.k p1.c)).setCell ⟨w.heap.size + 1 + 1, 2, none⟩ (.bool false)).setCell ⟨w.heap.size + 1 + 1, 3, none⟩ (.slice none 0 0)) ⟨w.heap.size + 1 + 1, 2, none⟩ = some (.bool false) := b4.cell 2
    have q3 : World.cell? ((((w8.setCell ⟨w.heap.size + 1 + 1, 0, none⟩ (.bool p1.neg)).setCell ⟨w.heap.size + 1 + 1, 1, none⟩ (.slice p1.A p1.k p1.c)).setCell ⟨w.heap.size + 1 + 1, 2, none⟩ (.bool false)).setCell ⟨w.heap.size + 1 + 1, 3, none⟩ (.slice none 0 0)) ⟨w.heap.size + 1 + 1, 3, none⟩ = some (.slice none 0 0) := b4.cell 3
    clear b4 HBr Hbel
    generalize ((((w8.setCell ⟨w.heap.size + 1 + 1, 0, none⟩ (.bool p1.neg)).setCell ⟨w.heap.size + 1 + 1, 1, none⟩ (.slice p1.A p1.k p1.c)).setCell ⟨w.heap.size + 1 + 1, 2, none⟩ (.bool false)).setCell ⟨w.heap.size + 1 + 1, 3, none⟩ (.slice none 0 0)) = W at *
    exact bodyPost_ret (v := .agg #[.bool p1.neg, .slice p1.A p1.k p1.c, .bool false, .slice none 0 0]) (by simp [results, Tryz.results74, go_sem, q0, q1, q2, q3]) rfl hfin

set_option maxRecDepth 100000 in
set_option maxHeartbeats 4000000 in
theorem lowest_B2b (w : World) (i j : IV) (x d : Int) (n : Nat) (hn : n ≤ 900000000000) (h : IntD i x n w) (h' : IntD j d n w) (hT : Tz w) (hd : 0 < d) (h1 : d ≠ 1) (hg : Nat.gcd x.natAbs d.natAbs ≠ 1) (h2 : d / (Nat.gcd x.natAbs d.natAbs : Int) ≠ 1) :
    Calls Tryz.prog 74 #[.agg #[.bool i.neg, .slice i.A i.k i.c], .agg #[.bool j.neg, .slice j.A j.k j.c]] w (RetR (Rat.divInt x d) w) := by
  have Hq := Lib.hid (low_num (x := x) hd)
  have HLx := Lib.hid h.lt; have HLd := Lib.hid h'.lt
  obtain ⟨W0, hW0⟩ : ∃ W0, W0 = (((w.alloc (.cells #[.bool i.neg, .slice i.A i.k i.c] 34)).alloc (.cells #[.bool j.neg, .slice j.A j.k j.c] 34)).alloc (.cells #[.bool false, .slice none 0 0, .bool false, .slice none 0 0] 36)) := ⟨_, rfl⟩
  obtain ⟨p0, p1, p2, pb⟩ := lay3 hW0
  have HBa := Lib.hid p0
  have HBb := Lib.hid p1
  have HBr := Lib.hid p2
  have Hbel := Lib.hid pb
  have Hi := Lib.hid (Rests.al3 (h.old) hW0)
  have Hj := Lib.hid (Rests.al3 (h'.old) hW0)
  have HT := Lib.hid (Rests.al3 (hT.old) hW0)
  clear p0 p1 p2 pb
  subst hW0
  have ne01 : w.heap.size ≠ w.heap.size + 1 := by omega
  have ne02 : w.heap.size ≠ w.heap.size + 1 + 1 := by omega
  have ne10 : w.heap.size + 1 ≠ w.heap.size := by omega
  have ne12 : w.heap.size + 1 ≠ w.heap.size + 1 + 1 := by omega
  have ne20 : w.heap.size + 1 + 1 ≠ w.heap.size := by omega
  have ne21 : w.heap.size + 1 + 1 ≠ w.heap.size + 1 := by omega
  have H1 := Lib.hid (decide_eq_false h1)
  have Hg := Lib.hid hg
  have H2 := Lib.hid h2
  have HLg := Lib.hid (show ((Nat.gcd x.natAbs d.natAbs : Nat) : Int).natAbs < B64 ^ n from Nat.lt_of_le_of_lt (Nat.gcd_le_right _ (by omega)) h'.lt)
  have Hg0 := Lib.hid (show ((Nat.gcd x.natAbs d.natAbs : Nat) : Int) ≠ 0 from by have : 0 < Nat.gcd x.natAbs d.natAbs := Nat.gcd_pos_of_pos_right _ (by omega); omega)
  have Hg1 := Lib.hid (show decide (((Nat.gcd x.natAbs d.natAbs : Nat) : Int) = 1) = false from decide_eq_false (by omega))
  have H2d := Lib.hid (decide_eq_false h2)
  clear h h' hT hd h1 hg h2
  go_enter Tryz.func74, Tryz.ntmps74
  go_upto_region 1 with fail
  go_cut [] (fun wx => ∃ ki kj, LowSt w wx ki kj x d)
  case first =>
    go_region_with (first | (go_at_call_of 90 (Value.agg #[.bool i.neg, .slice i.A i.k i.c]); go_must (refine (wnorm_any _ i x n hn (by first | exact Hi.out.now | exact Hi.out.drew.now)).mono ?_; rintro e w1 ⟨ki, rfl, hki, hbw1⟩; have hgl := HBr.out.lt; replace HBa := Lib.hid (Blk.below (by exact HBa.out) hbw1 (by exact HBa.out.lt)); obtain ⟨sw1HBa0, sw1HBa1⟩ := Blk.c2 HBa.out; obtain ⟨fw1HBa0, fw1HBa1⟩ := Blk.f2 HBa.out; replace HBb := Lib.hid (Blk.below (by exact HBb.out) hbw1 (by exact HBb.out.lt)); obtain ⟨sw1HBb0, sw1HBb1⟩ := Blk.c2 HBb.out; obtain ⟨fw1HBb0, fw1HBb1⟩ := Blk.f2 HBb.out; replace HBr := Lib.hid (Blk.below (by exact HBr.out) hbw1 (by exact HBr.out.lt)); obtain ⟨sw1HBr0, sw1HBr1, sw1HBr2, sw1HBr3⟩ := Blk.c4 HBr.out; obtain ⟨fw1HBr0, fw1HBr1, fw1HBr2, fw1HBr3⟩ := Blk.f4 HBr.out; replace Hi := Lib.hid (Rests.below (φ := IntD i x n) (by first | exact Hi.out | exact Hi.out.drew) hbw1); replace Hj := Lib.hid (Rests.below (φ := IntD j d n) (by first | exact Hj.out | exact Hj.out.drew) hbw1); replace HT := Lib.hid (Rests.below (φ := Tz) (by first | exact HT.out | exact HT.out.drew) hbw1); replace Hbel := Lib.hid (Below.after (by first | exact Hbel.out | exact Below.drew Hbel.out) hbw1); have Hki := Lib.hid (hki.mono (G := (w.heap.size + 1 + 1 + 1 ≤ ·)) (fun b hb => Nat.le_trans hgl hb)); clear hki hgl; (try replace Hkj := Lib.hid (Rests.below (φ := IntN kj d) (by first | exact Hkj.out | exact Hkj.out.drew) hbw1)); clear hbw1)) | (go_at_call_of 90 (Value.agg #[.bool j.neg, .slice j.A j.k j.c]); go_must (refine (wnorm_any _ j d n hn (by first | exact Hj.out.now | exact Hj.out.drew.now)).mono ?_; rintro e w2 ⟨kj, rfl, hkj, hbw2⟩; have hgl := HBr.out.lt; replace HBa := Lib.hid (Blk.below (by exact HBa.out) hbw2 (by exact HBa.out.lt)); obtain ⟨sw2HBa0, sw2HBa1⟩ := Blk.c2 HBa.out; obtain ⟨fw2HBa0, fw2HBa1⟩ := Blk.f2 HBa.out; replace HBb := Lib.hid (Blk.below (by exact HBb.out) hbw2 (by exact HBb.out.lt)); obtain ⟨sw2HBb0, sw2HBb1⟩ := Blk.c2 HBb.out; obtain ⟨fw2HBb0, fw2HBb1⟩ := Blk.f2 HBb.out; replace HBr := Lib.hid (Blk.below (by exact HBr.out) hbw2 (by exact HBr.out.lt)); obtain ⟨sw2HBr0, sw2HBr1, sw2HBr2, sw2HBr3⟩ := Blk.c4 HBr.out; obtain ⟨fw2HBr0, fw2HBr1, fw2HBr2, fw2HBr3⟩ := Blk.f4 HBr.out; replace Hi := Lib.hid (Rests.below (φ := IntD i x n) (by first | exact Hi.out | exact Hi.out.drew) hbw2); replace Hj := Lib.hid (Rests.below (φ := IntD j d n) (by first | exact Hj.out | exact Hj.out.drew) hbw2); replace HT := Lib.hid (Rests.below (φ := Tz) (by first | exact HT.out | exact HT.out.drew) hbw2); replace Hbel := Lib.hid (Below.after (by first | exact Hbel.out | exact Below.drew Hbel.out) hbw2); have Hkj := Lib.hid (hkj.mono (G := (w.heap.size + 1 + 1 + 1 ≤ ·)) (fun b hb => Nat.le_trans hgl hb)); clear hkj hgl; (try replace Hki := Lib.hid (Rests.below (φ := IntN ki x) (by first | exact Hki.out | exact Hki.out.drew) hbw2)); clear hbw2)))
    all_goals
      go_wp2_with fail
      go_meet
      exact ⟨ki, kj, ⟨((((((((HBa.out).set_ 0 _)).set_ 1 _)).far (p := ⟨w.heap.size + 1, 0, none⟩) (by exact ne01) _)).far (p := ⟨w.heap.size + 1, 1, none⟩) (by exact ne01) _), ((((((((HBb.out).far (p := ⟨w.heap.size, 0, none⟩) (by exact ne10) _)).far (p := ⟨w.heap.size, 1, none⟩) (by exact ne10) _)).set_ 0 _)).set_ 1 _), ((((((((HBr.out).far (p := ⟨w.heap.size, 0, none⟩) (by exact ne20) _)).far (p := ⟨w.heap.size, 1, none⟩) (by exact ne20) _)).far (p := ⟨w.heap.size + 1, 0, none⟩) (by exact ne21) _)).far (p := ⟨w.heap.size + 1, 1, none⟩) (by exact ne21) _), ((((((((Hki.out).set (a := ⟨w.heap.size, 0, none⟩) (by simp; try omega) _)).set (a := ⟨w.heap.size, 1, none⟩) (by simp; try omega) _)).set (a := ⟨w.heap.size + 1, 0, none⟩) (by simp; try omega) _)).set (a := ⟨w.heap.size + 1, 1, none⟩) (by simp; try omega) _), ((((((((Hkj.out).set (a := ⟨w.heap.size, 0, none⟩) (by simp; try omega) _)).set (a := ⟨w.heap.size, 1, none⟩) (by simp; try omega) _)).set (a := ⟨w.heap.size + 1, 0, none⟩) (by simp; try omega) _)).set (a := ⟨w.heap.size + 1, 1, none⟩) (by simp; try omega) _), ((((((((HT.out).set (a := ⟨w.heap.size, 0, none⟩) (by simp; try omega) _)).set (a := ⟨w.heap.size, 1, none⟩) (by simp; try omega) _)).set (a := ⟨w.heap.size + 1, 0, none⟩) (by simp; try omega) _)).set (a := ⟨w.heap.size + 1, 1, none⟩) (by simp; try omega) _), ((((((((Hbel.out).setCell (p := ⟨w.heap.size, 0, none⟩) (by simp) _)).setCell (p := ⟨w.heap.size, 1, none⟩) (by simp) _)).setCell (p := ⟨w.heap.size + 1, 0, none⟩) (by simp) _)).setCell (p := ⟨w.heap.size + 1, 1, none⟩) (by simp) _)⟩⟩
  case rest =>
    obtain ⟨ki, kj, hst⟩ := hcut
    have HBa := Lib.hid hst.ba; have HBb := Lib.hid hst.bb; have HBr := Lib.hid hst.br; have Hki := Lib.hid hst.hi; have Hkj := Lib.hid hst.hj; have HT := Lib.hid hst.tz; have Hbel := Lib.hid hst.below
    clear hst
    have cHBa0 : World.cell? _ ⟨w.heap.size, 0, none⟩ = some (.bool ki.neg) := HBa.out.cell 0
    have cfHBa0 : World.frozen? _ ⟨w.heap.size, 0, none⟩ = false := HBa.out.frozen 0
    have cHBa1 : World.cell? _ ⟨w.heap.size, 1, none⟩ = some (.slice ki.A ki.k ki.c) := HBa.out.cell 1
    have cfHBa1 : World.frozen? _ ⟨w.heap.size, 1, none⟩ = false := HBa.out.frozen 1
    have cHBb0 : World.cell? _ ⟨w.heap.size + 1, 0, none⟩ = some (.bool kj.neg) := HBb.out.cell 0
    have cfHBb0 : World.frozen? _ ⟨w.heap.size + 1, 0, none⟩ = false := HBb.out.frozen 0
    have cHBb1 : World.cell? _ ⟨w.heap.size + 1, 1, none⟩ = some (.slice kj.A kj.k kj.c) := HBb.out.cell 1
    have cfHBb1 : World.frozen? _ ⟨w.heap.size + 1, 1, none⟩ = false := HBb.out.frozen 1
    have cHBr0 : World.cell? _ ⟨w.heap.size + 1 + 1, 0, none⟩ = some (.bool false) := HBr.out.cell 0
    have cfHBr0 : World.frozen? _ ⟨w.heap.size + 1 + 1, 0, none⟩ = false := HBr.out.frozen 0
    have cHBr1 : World.cell? _ ⟨w.heap.size + 1 + 1, 1, none⟩ = some (.slice none 0 0) := HBr.out.cell 1
    have cfHBr1 : World.frozen? _ ⟨w.heap.size + 1 + 1, 1, none⟩ = false := HBr.out.frozen 1
    have cHBr2 : World.cell? _ ⟨w.heap.size + 1 + 1, 2, none⟩ = some (.bool false) := HBr.out.cell 2
    have cfHBr2 : World.frozen? _ ⟨w.heap.size + 1 + 1, 2, none⟩ = false := HBr.out.frozen 2
    have cHBr3 : World.cell? _ ⟨w.heap.size + 1 + 1, 3, none⟩ = some (.slice none 0 0) := HBr.out.cell 3
    have cfHBr3 : World.frozen? _ ⟨w.heap.size + 1 + 1, 3, none⟩ = false := HBr.out.frozen 3
    go_wp2_with fail
    refine (one_any _ kj d (by first | exact Hkj.out.now | exact Hkj.out.drew.now)).mono ?_
    rintro e w3 ⟨rfl, hb3⟩
    replace HBa := Lib.hid (Blk.below (by exact HBa.out) hb3 (by exact HBa.out.lt))
    obtain ⟨sw3HBa0, sw3HBa1⟩ := Blk.c2 HBa.out
    obtain ⟨fw3HBa0, fw3HBa1⟩ := Blk.f2 HBa.out
    replace HBb := Lib.hid (Blk.below (by exact HBb.out) hb3 (by exact HBb.out.lt))
    obtain ⟨sw3HBb0, sw3HBb1⟩ := Blk.c2 HBb.out
    obtain ⟨fw3HBb0, fw3HBb1⟩ := Blk.f2 HBb.out
    replace HBr := Lib.hid (Blk.below (by exact HBr.out) hb3 (by exact HBr.out.lt))
    obtain ⟨sw3HBr0, sw3HBr1, sw3HBr2, sw3HBr3⟩ := Blk.c4 HBr.out
    obtain ⟨fw3HBr0, fw3HBr1, fw3HBr2, fw3HBr3⟩ := Blk.f4 HBr.out
    replace Hki := Lib.hid (Rests.below (φ := IntN ki x) (by first | exact Hki.out | exact Hki.out.drew) hb3)
    replace Hkj := Lib.hid (Rests.below (φ := IntN kj d) (by first | exact Hkj.out | exact Hkj.out.drew) hb3)
    replace HT := Lib.hid (Rests.below (φ := Tz) (by first | exact HT.out | exact HT.out.drew) hb3)
    replace Hbel := Lib.hid (Below.after (by first | exact Hbel.out | exact Below.drew Hbel.out) hb3)
    clear hb3
    rw [H1.out]
    go_wp2_with fail
    refine (wgcd_any _ ki kj x d n n hn hn (IntN.ofLt (by first | exact Hki.out.now | exact Hki.out.drew.now) HLx.out) (IntN.ofLt (by first | exact Hkj.out.now | exact Hkj.out.drew.now) HLd.out) (by first | exact HT.out.now | exact HT.out.drew.now)).mono ?_
    rintro e w4 ⟨kg, rfl, hkg, hb4⟩
    have hgl := HBr.out.lt
    replace HBa := Lib.hid (Blk.below (by exact HBa.out) hb4 (by exact HBa.out.lt))
    obtain ⟨sw4HBa0, sw4HBa1⟩ := Blk.c2 HBa.out
    obtain ⟨fw4HBa0, fw4HBa1⟩ := Blk.f2 HBa.out
    replace HBb := Lib.hid (Blk.below (by exact HBb.out) hb4 (by exact HBb.out.lt))
    obtain ⟨sw4HBb0, sw4HBb1⟩ := Blk.c2 HBb.out
    obtain ⟨fw4HBb0, fw4HBb1⟩ := Blk.f2 HBb.out
    replace HBr := Lib.hid (Blk.below (by exact HBr.out) hb4 (by exact HBr.out.lt))
    obtain ⟨sw4HBr0, sw4HBr1, sw4HBr2, sw4HBr3⟩ := Blk.c4 HBr.out
    obtain ⟨fw4HBr0, fw4HBr1, fw4HBr2, fw4HBr3⟩ := Blk.f4 HBr.out
    replace Hki := Lib.hid (Rests.below (φ := IntN ki x) (by first | exact Hki.out | exact Hki.out.drew) hb4)
    replace Hkj := Lib.hid (Rests.below (φ := IntN kj d) (by first | exact Hkj.out | exact Hkj.out.drew) hb4)
    replace HT := Lib.hid (Rests.below (φ := Tz) (by first | exact HT.out | exact HT.out.drew) hb4)
    replace Hbel := Lib.hid (Below.after (by first | exact Hbel.out | exact Below.drew Hbel.out) hb4)
    have Hkg := Lib.hid (hkg.mono (G := (w.heap.size + 1 + 1 + 1 ≤ ·)) (fun b hb => Nat.le_trans hgl hb))
    clear hkg hgl
    clear hb4
    have lg : w.heap.size + 1 + 1 < w4.heap.size := HBr.out.lt
    replace HBa := Lib.hid (HBa.out.alloc (.cells #[.bool kg.neg, .slice kg.A kg.k kg.c] 34))
    replace HBb := Lib.hid (HBb.out.alloc (.cells #[.bool kg.neg, .slice kg.A kg.k kg.c] 34))
    replace HBr := Lib.hid (HBr.out.alloc (.cells #[.bool kg.neg, .slice kg.A kg.k kg.c] 34))
    replace Hki := Lib.hid (Hki.out.alloc (.cells #[.bool kg.neg, .slice kg.A kg.k kg.c] 34))
    replace Hkj := Lib.hid (Hkj.out.alloc (.cells #[.bool kg.neg, .slice kg.A kg.k kg.c] 34))
    replace HT := Lib.hid (HT.out.alloc (.cells #[.bool kg.neg, .slice kg.A kg.k kg.c] 34))
    replace Hkg := Lib.hid (Hkg.out.alloc (.cells #[.bool kg.neg, .slice kg.A kg.k kg.c] 34))
    replace Hbel := Lib.hid (Hbel.out.alloc Hbel.out.size (.cells #[.bool kg.neg, .slice kg.A kg.k kg.c] 34))
    have HBg := Lib.hid (Blk.new w4 34 #[.bool kg.neg, .slice kg.A kg.k kg.c])
    have eHBa0 : World.cell? _ ⟨w.heap.size, 0, none⟩ = some (.bool ki.neg) := HBa.out.cell 0
    have efHBa0 : World.frozen? _ ⟨w.heap.size, 0, none⟩ = false := HBa.out.frozen 0
    have eHBa1 : World.cell? _ ⟨w.heap.size, 1, none⟩ = some (.slice ki.A ki.k ki.c) := HBa.out.cell 1
    have efHBa1 : World.frozen? _ ⟨w.heap.size, 1, none⟩ = false := HBa.out.frozen 1
    have eHBb0 : World.cell? _ ⟨w.heap.size + 1, 0, none⟩ = some (.bool kj.neg) := HBb.out.cell 0
    have efHBb0 : World.frozen? _ ⟨w.heap.size + 1, 0, none⟩ = false := HBb.out.frozen 0
    have eHBb1 : World.cell? _ ⟨w.heap.size + 1, 1, none⟩ = some (.slice kj.A kj.k kj.c) := HBb.out.cell 1
    have efHBb1 : World.frozen? _ ⟨w.heap.size + 1, 1, none⟩ = false := HBb.out.frozen 1
    have eHBr0 : World.cell? _ ⟨w.heap.size + 1 + 1, 0, none⟩ = some (.bool false) := HBr.out.cell 0
    have efHBr0 : World.frozen? _ ⟨w.heap.size + 1 + 1, 0, none⟩ = false := HBr.out.frozen 0
    have eHBr1 : World.cell? _ ⟨w.heap.size + 1 + 1, 1, none⟩ = some (.slice none 0 0) := HBr.out.cell 1
    have efHBr1 : World.frozen? _ ⟨w.heap.size + 1 + 1, 1, none⟩ = false := HBr.out.frozen 1
    have eHBr2 : World.cell? _ ⟨w.heap.size + 1 + 1, 2, none⟩ = some (.bool false) := HBr.out.cell 2
    have efHBr2 : World.frozen? _ ⟨w.heap.size + 1 + 1, 2, none⟩ = false := HBr.out.frozen 2
    have eHBr3 : World.cell? _ ⟨w.heap.size + 1 + 1, 3, none⟩ = some (.slice none 0 0) := HBr.out.cell 3
    have efHBr3 : World.frozen? _ ⟨w.heap.size + 1 + 1, 3, none⟩ = false := HBr.out.frozen 3
    have eHBg0 : World.cell? _ ⟨w4.heap.size, 0, none⟩ = some (.bool kg.neg) := HBg.out.cell 0
    have efHBg0 : World.frozen? _ ⟨w4.heap.size, 0, none⟩ = false := HBg.out.frozen 0
    have eHBg1 : World.cell? _ ⟨w4.heap.size, 1, none⟩ = some (.slice kg.A kg.k kg.c) := HBg.out.cell 1
    have efHBg1 : World.frozen? _ ⟨w4.heap.size, 1, none⟩ = false := HBg.out.frozen 1
    go_wp2_with fail
    refine (one_any _ kg (Nat.gcd x.natAbs d.natAbs : Int) (by first | exact Hkg.out.now | exact Hkg.out.drew.now)).mono ?_
    rintro e w5 ⟨rfl, hb5⟩
    replace HBa := Lib.hid (Blk.below (by exact HBa.out) hb5 (by exact HBa.out.lt))
    obtain ⟨sw5HBa0, sw5HBa1⟩ := Blk.c2 HBa.out
    obtain ⟨fw5HBa0, fw5HBa1⟩ := Blk.f2 HBa.out
    replace HBb := Lib.hid (Blk.below (by exact HBb.out) hb5 (by exact HBb.out.lt))
    obtain ⟨sw5HBb0, sw5HBb1⟩ := Blk.c2 HBb.out
    obtain ⟨fw5HBb0, fw5HBb1⟩ := Blk.f2 HBb.out
    replace HBr := Lib.hid (Blk.below (by exact HBr.out) hb5 (by exact HBr.out.lt))
    obtain ⟨sw5HBr0, sw5HBr1, sw5HBr2, sw5HBr3⟩ := Blk.c4 HBr.out
    obtain ⟨fw5HBr0, fw5HBr1, fw5HBr2, fw5HBr3⟩ := Blk.f4 HBr.out
    replace HBg := Lib.hid (Blk.below (by exact HBg.out) hb5 (by exact HBg.out.lt))
    obtain ⟨sw5HBg0, sw5HBg1⟩ := Blk.c2 HBg.out
    replace Hki := Lib.hid (Rests.below (φ := IntN ki x) (by first | exact Hki.out | exact Hki.out.drew) hb5)
    replace Hkj := Lib.hid (Rests.below (φ := IntN kj d) (by first | exact Hkj.out | exact Hkj.out.drew) hb5)
    replace HT := Lib.hid (Rests.below (φ := Tz) (by first | exact HT.out | exact HT.out.drew) hb5)
    replace Hkg := Lib.hid (Rests.below (φ := IntN kg (Nat.gcd x.natAbs d.natAbs : Int)) (by first | exact Hkg.out | exact Hkg.out.drew) hb5)
    replace Hbel := Lib.hid (Below.after (by first | exact Hbel.out | exact Below.drew Hbel.out) hb5)
    clear hb5
    rw [Hg1.out]
    go_wp2_with fail
    refine (wdivMod_any _ ki kg x (Nat.gcd x.natAbs d.natAbs : Int) n n hn hn (IntN.ofLt (by first | exact Hki.out.now | exact Hki.out.drew.now) HLx.out) (IntN.ofLt (by first | exact Hkg.out.now | exact Hkg.out.drew.now) HLg.out) Hg0.out).mono ?_
    rintro e w6 ⟨p1, p2, rfl, hp1, hp2, hb6⟩
    have hgl := HBr.out.lt
    replace HBa := Lib.hid (Blk.below (by exact HBa.out) hb6 (by exact HBa.out.lt))
    obtain ⟨sw6HBa0, sw6HBa1⟩ := Blk.c2 HBa.out
    obtain ⟨fw6HBa0, fw6HBa1⟩ := Blk.f2 HBa.out
    replace HBb := Lib.hid (Blk.below (by exact HBb.out) hb6 (by exact HBb.out.lt))
    obtain ⟨sw6HBb0, sw6HBb1⟩ := Blk.c2 HBb.out
    obtain ⟨fw6HBb0, fw6HBb1⟩ := Blk.f2 HBb.out
    replace HBr := Lib.hid (Blk.below (by exact HBr.out) hb6 (by exact HBr.out.lt))
    obtain ⟨sw6HBr0, sw6HBr1, sw6HBr2, sw6HBr3⟩ := Blk.c4 HBr.out
    obtain ⟨fw6HBr0, fw6HBr1, fw6HBr2, fw6HBr3⟩ := Blk.f4 HBr.out
    replace HBg := Lib.hid (Blk.below (by exact HBg.out) hb6 (by exact HBg.out.lt))
    obtain ⟨sw6HBg0, sw6HBg1⟩ := Blk.c2 HBg.out
    replace Hki := Lib.hid (Rests.below (φ := IntN ki x) (by first | exact Hki.out | exact Hki.out.drew) hb6)
    replace Hkj := Lib.hid (Rests.below (φ := IntN kj d) (by first | exact Hkj.out | exact Hkj.out.drew) hb6)
    replace HT := Lib.hid (Rests.below (φ := Tz) (by first | exact HT.out | exact HT.out.drew) hb6)
    replace Hkg := Lib.hid (Rests.below (φ := IntN kg (Nat.gcd x.natAbs d.natAbs : Int)) (by first | exact Hkg.out | exact Hkg.out.drew) hb6)
    replace Hbel := Lib.hid (Below.after (by first | exact Hbel.out | exact Below.drew Hbel.out) hb6)
    have Hp1 := Lib.hid (hp1.mono (G := (w.heap.size + 1 + 1 + 1 ≤ ·)) (fun b hb => Nat.le_trans hgl hb))
    clear hp1 hp2 hgl
    clear hb6
    replace HBa := Lib.hid (((((HBa.out).set_ 0 (.bool p1.neg))).set_ 1 (.slice p1.A p1.k p1.c)))
    replace HBb := Lib.hid (((((HBb.out).far (p := ⟨w.heap.size, 0, none⟩) (show w.heap.size + 1 ≠ w.heap.size by omega) (.bool p1.neg))).far (p := ⟨w.heap.size, 1, none⟩) (show w.heap.size + 1 ≠ w.heap.size by omega) (.slice p1.A p1.k p1.c)))
    replace HBr := Lib.hid (((((HBr.out).far (p := ⟨w.heap.size, 0, none⟩) (show w.heap.size + 1 + 1 ≠ w.heap.size by omega) (.bool p1.neg))).far (p := ⟨w.heap.size, 1, none⟩) (show w.heap.size + 1 + 1 ≠ w.heap.size by omega) (.slice p1.A p1.k p1.c)))
    replace HBg := Lib.hid (((((HBg.out).far (p := ⟨w.heap.size, 0, none⟩) (show w4.heap.size ≠ w.heap.size by omega) (.bool p1.neg))).far (p := ⟨w.heap.size, 1, none⟩) (show w4.heap.size ≠ w.heap.size by omega) (.slice p1.A p1.k p1.c)))
    replace Hkj := Lib.hid (((((Hkj.out).set (a := ⟨w.heap.size, 0, none⟩) (by simp; try omega) (.bool p1.neg))).set (a := ⟨w.heap.size, 1, none⟩) (by simp; try omega) (.slice p1.A p1.k p1.c)))
    replace Hkg := Lib.hid (((((Hkg.out).set (a := ⟨w.heap.size, 0, none⟩) (by simp; try omega) (.bool p1.neg))).set (a := ⟨w.heap.size, 1, none⟩) (by simp; try omega) (.slice p1.A p1.k p1.c)))
    replace HT := Lib.hid (((((HT.out).set (a := ⟨w.heap.size, 0, none⟩) (by simp; try omega) (.bool p1.neg))).set (a := ⟨w.heap.size, 1, none⟩) (by simp; try omega) (.slice p1.A p1.k p1.c)))
    replace Hp1 := Lib.hid (((((Hp1.out).set (a := ⟨w.heap.size, 0, none⟩) (by simp; try omega) (.bool p1.neg))).set (a := ⟨w.heap.size, 1, none⟩) (by simp; try omega) (.slice p1.A p1.k p1.c)))
    replace Hbel := Lib.hid (((((Hbel.out).setCell (p := ⟨w.heap.size, 0, none⟩) (by simp) (.bool p1.neg))).setCell (p := ⟨w.heap.size, 1, none⟩) (by simp) (.slice p1.A p1.k p1.c)))
    have gHBa0 : World.cell? _ ⟨w.heap.size, 0, none⟩ = some (.bool p1.neg) := HBa.out.cell 0
    have gfHBa0 : World.frozen? _ ⟨w.heap.size, 0, none⟩ = false := HBa.out.frozen 0
    have gHBa1 : World.cell? _ ⟨w.heap.size, 1, none⟩ = some (.slice p1.A p1.k p1.c) := HBa.out.cell 1
    have gfHBa1 : World.frozen? _ ⟨w.heap.size, 1, none⟩ = false := HBa.out.frozen 1
    have gHBb0 : World.cell? _ ⟨w.heap.size + 1, 0, none⟩ = some (.bool kj.neg) := HBb.out.cell 0
    have gfHBb0 : World.frozen? _ ⟨w.heap.size + 1, 0, none⟩ = false := HBb.out.frozen 0
    have gHBb1 : World.cell? _ ⟨w.heap.size + 1, 1, none⟩ = some (.slice kj.A kj.k kj.c) := HBb.out.cell 1
    have gfHBb1 : World.frozen? _ ⟨w.heap.size + 1, 1, none⟩ = false := HBb.out.frozen 1
    have gHBr0 : World.cell? _ ⟨w.heap.size + 1 + 1, 0, none⟩ = some (.bool false) := HBr.out.cell 0
    have gfHBr0 : World.frozen? _ ⟨w.heap.size + 1 + 1, 0, none⟩ = false := HBr.out.frozen 0
    have gHBr1 : World.cell? _ ⟨w.heap.size + 1 + 1, 1, none⟩ = some (.slice none 0 0) := HBr.out.cell 1
    have gfHBr1 : World.frozen? _ ⟨w.heap.size + 1 + 1, 1, none⟩ = false := HBr.out.frozen 1
    have gHBr2 : World.cell? _ ⟨w.heap.size + 1 + 1, 2, none⟩ = some (.bool false) := HBr.out.cell 2
    have gfHBr2 : World.frozen? _ ⟨w.heap.size + 1 + 1, 2, none⟩ = false := HBr.out.frozen 2
    have gHBr3 : World.cell? _ ⟨w.heap.size + 1 + 1, 3, none⟩ = some (.slice none 0 0) := HBr.out.cell 3
    have gfHBr3 : World.frozen? _ ⟨w.heap.size + 1 + 1, 3, none⟩ = false := HBr.out.frozen 3
    have gHBg0 : World.cell? _ ⟨w4.heap.size, 0, none⟩ = some (.bool kg.neg) := HBg.out.cell 0
    have gfHBg0 : World.frozen? _ ⟨w4.heap.size, 0, none⟩ = false := HBg.out.frozen 0
    have gHBg1 : World.cell? _ ⟨w4.heap.size, 1, none⟩ = some (.slice kg.A kg.k kg.c) := HBg.out.cell 1
    have gfHBg1 : World.frozen? _ ⟨w4.heap.size, 1, none⟩ = false := HBg.out.frozen 1
    go_wp2_with fail
    refine (wdivMod_any _ kj kg d (Nat.gcd x.natAbs d.natAbs : Int) n n hn hn (IntN.ofLt (by first | exact Hkj.out.now | exact Hkj.out.drew.now) HLd.out) (IntN.ofLt (by first | exact Hkg.out.now | exact Hkg.out.drew.now) HLg.out) Hg0.out).mono ?_
    rintro e w7 ⟨p3, p4, rfl, hp3, hp4, hb7⟩
    have hgl := HBr.out.lt
    replace HBa := Lib.hid (Blk.below (by exact HBa.out) hb7 (by exact HBa.out.lt))
    obtain ⟨sw7HBa0, sw7HBa1⟩ := Blk.c2 HBa.out
    obtain ⟨fw7HBa0, fw7HBa1⟩ := Blk.f2 HBa.out
    replace HBb := Lib.hid (Blk.below (by exact HBb.out) hb7 (by exact HBb.out.lt))
    obtain ⟨sw7HBb0, sw7HBb1⟩ := Blk.c2 HBb.out
    obtain ⟨fw7HBb0, fw7HBb1⟩ := Blk.f2 HBb.out
    replace HBr := Lib.hid (Blk.below (by exact HBr.out) hb7 (by exact HBr.out.lt))
    obtain ⟨sw7HBr0, sw7HBr1, sw7HBr2, sw7HBr3⟩ := Blk.c4 HBr.out
    obtain ⟨fw7HBr0, fw7HBr1, fw7HBr2, fw7HBr3⟩ := Blk.f4 HBr.out
    replace HBg := Lib.hid (Blk.below (by exact HBg.out) hb7 (by exact HBg.out.lt))
    obtain ⟨sw7HBg0, sw7HBg1⟩ := Blk.c2 HBg.out
    replace Hkj := Lib.hid (Rests.below (φ := IntN kj d) (by first | exact Hkj.out | exact Hkj.out.drew) hb7)
    replace Hkg := Lib.hid (Rests.below (φ := IntN kg (Nat.gcd x.natAbs d.natAbs : Int)) (by first | exact Hkg.out | exact Hkg.out.drew) hb7)
    replace HT := Lib.hid (Rests.below (φ := Tz) (by first | exact HT.out | exact HT.out.drew) hb7)
    replace Hp1 := Lib.hid (Rests.below (φ := IntN p1 (x / (Nat.gcd x.natAbs d.natAbs : Int))) (by first | exact Hp1.out | exact Hp1.out.drew) hb7)
    replace Hbel := Lib.hid (Below.after (by first | exact Hbel.out | exact Below.drew Hbel.out) hb7)
    have Hp3 := Lib.hid (hp3.mono (G := (w.heap.size + 1 + 1 + 1 ≤ ·)) (fun b hb => Nat.le_trans hgl hb))
    clear hp3 hp4 hgl
    clear hb7
    replace HBb := Lib.hid (((((HBb.out).set_ 0 (.bool p3.neg))).set_ 1 (.slice p3.A p3.k p3.c)))
    replace HBa := Lib.hid (((((HBa.out).far (p := ⟨w.heap.size + 1, 0, none⟩) (show w.heap.size ≠ w.heap.size + 1 by omega) (.bool p3.neg))).far (p := ⟨w.heap.size + 1, 1, none⟩) (show w.heap.size ≠ w.heap.size + 1 by omega) (.slice p3.A p3.k p3.c)))
    replace HBr := Lib.hid (((((HBr.out).far (p := ⟨w.heap.size + 1, 0, none⟩) (show w.heap.size + 1 + 1 ≠ w.heap.size + 1 by omega) (.bool p3.neg))).far (p := ⟨w.heap.size + 1, 1, none⟩) (show w.heap.size + 1 + 1 ≠ w.heap.size + 1 by omega) (.slice p3.A p3.k p3.c)))
    replace HBg := Lib.hid (((((HBg.out).far (p := ⟨w.heap.size + 1, 0, none⟩) (show w4.heap.size ≠ w.heap.size + 1 by omega) (.bool p3.neg))).far (p := ⟨w.heap.size + 1, 1, none⟩) (show w4.heap.size ≠ w.heap.size + 1 by omega) (.slice p3.A p3.k p3.c)))
    replace HT := Lib.hid (((((HT.out).set (a := ⟨w.heap.size + 1, 0, none⟩) (by simp; try omega) (.bool p3.neg))).set (a := ⟨w.heap.size + 1, 1, none⟩) (by simp; try omega) (.slice p3.A p3.k p3.c)))
    replace Hp1 := Lib.hid (((((Hp1.out).set (a := ⟨w.heap.size + 1, 0, none⟩) (by simp; try omega) (.bool p3.neg))).set (a := ⟨w.heap.size + 1, 1, none⟩) (by simp; try omega) (.slice p3.A p3.k p3.c)))
    replace Hp3 := Lib.hid (((((Hp3.out).set (a := ⟨w.heap.size + 1, 0, none⟩) (by simp; try omega) (.bool p3.neg))).set (a := ⟨w.heap.size + 1, 1, none⟩) (by simp; try omega) (.slice p3.A p3.k p3.c)))
    replace Hbel := Lib.hid (((((Hbel.out).setCell (p := ⟨w.heap.size + 1, 0, none⟩) (by simp) (.bool p3.neg))).setCell (p := ⟨w.heap.size + 1, 1, none⟩) (by simp) (.slice p3.A p3.k p3.c)))
    have kHBa0 : World.cell? _ ⟨w.heap.size, 0, none⟩ = some (.bool p1.neg) := HBa.out.cell 0
    have kfHBa0 : World.frozen? _ ⟨w.heap.size, 0, none⟩ = false := HBa.out.frozen 0
    have kHBa1 : World.cell? _ ⟨w.heap.size, 1, none⟩ = some (.slice p1.A p1.k p1.c) := HBa.out.cell 1
    have kfHBa1 : World.frozen? _ ⟨w.heap.size, 1, none⟩ = false := HBa.out.frozen 1
    have kHBb0 : World.cell? _ ⟨w.heap.size + 1, 0, none⟩ = some (.bool p3.neg) := HBb.out.cell 0
    have kfHBb0 : World.frozen? _ ⟨w.heap.size + 1, 0, none⟩ = false := HBb.out.frozen 0
    have kHBb1 : World.cell? _ ⟨w.heap.size + 1, 1, none⟩ = some (.slice p3.A p3.k p3.c) := HBb.out.cell 1
    have kfHBb1 : World.frozen? _ ⟨w.heap.size + 1, 1, none⟩ = false := HBb.out.frozen 1
    have kHBr0 : World.cell? _ ⟨w.heap.size + 1 + 1, 0, none⟩ = some (.bool false) := HBr.out.cell 0
    have kfHBr0 : World.frozen? _ ⟨w.heap.size + 1 + 1, 0, none⟩ = false := HBr.out.frozen 0
    have kHBr1 : World.cell? _ ⟨w.heap.size + 1 + 1, 1, none⟩ = some (.slice none 0 0) := HBr.out.cell 1
    have kfHBr1 : World.frozen? _ ⟨w.heap.size + 1 + 1, 1, none⟩ = false := HBr.out.frozen 1
    have kHBr2 : World.cell? _ ⟨w.heap.size + 1 + 1, 2, none⟩ = some (.bool false) := HBr.out.cell 2
    have kfHBr2 : World.frozen? _ ⟨w.heap.size + 1 + 1, 2, none⟩ = false := HBr.out.frozen 2
    have kHBr3 : World.cell? _ ⟨w.heap.size + 1 + 1, 3, none⟩ = some (.slice none 0 0) := HBr.out.cell 3
    have kfHBr3 : World.frozen? _ ⟨w.heap.size + 1 + 1, 3, none⟩ = false := HBr.out.frozen 3
    go_wp2_with fail
    refine (one_any _ p3 (d / (Nat.gcd x.natAbs d.natAbs : Int)) (by first | exact Hp3.out.now | exact Hp3.out.drew.now)).mono ?_
    rintro e w8 ⟨rfl, hb8⟩
    replace HBa := Lib.hid (Blk.below (by exact HBa.out) hb8 (by exact HBa.out.lt))
    obtain ⟨sw8HBa0, sw8HBa1⟩ := Blk.c2 HBa.out
    obtain ⟨fw8HBa0, fw8HBa1⟩ := Blk.f2 HBa.out
    replace HBb := Lib.hid (Blk.below (by exact HBb.out) hb8 (by exact HBb.out.lt))
    obtain ⟨sw8HBb0, sw8HBb1⟩ := Blk.c2 HBb.out
    obtain ⟨fw8HBb0, fw8HBb1⟩ := Blk.f2 HBb.out
    replace HBr := Lib.hid (Blk.below (by exact HBr.out) hb8 (by exact HBr.out.lt))
    obtain ⟨sw8HBr0, sw8HBr1, sw8HBr2, sw8HBr3⟩ := Blk.c4 HBr.out
    obtain ⟨fw8HBr0, fw8HBr1, fw8HBr2, fw8HBr3⟩ := Blk.f4 HBr.out
    replace HT := Lib.hid (Rests.below (φ := Tz) (by first | exact HT.out | exact HT.out.drew) hb8)
    replace Hp1 := Lib.hid (Rests.below (φ := IntN p1 (x / (Nat.gcd x.natAbs d.natAbs : Int))) (by first | exact Hp1.out | exact Hp1.out.drew) hb8)
    replace Hp3 := Lib.hid (Rests.below (φ := IntN p3 (d / (Nat.gcd x.natAbs d.natAbs : Int))) (by first | exact Hp3.out | exact Hp3.out.drew) hb8)
    replace Hbel := Lib.hid (Below.after (by first | exact Hbel.out | exact Below.drew Hbel.out) hb8)
    clear hb8
    rw [H2d.out]
    go_wp2_with fail
    have hfin : RetR (Rat.divInt x d) w (.returned (.agg #[.bool p1.neg, .slice p1.A p1.k p1.c, .bool p3.neg, .slice p3.A p3.k p3.c])) ((((w8.setCell ⟨w.heap.size + 1 + 1, 0, none⟩ (.bool p1.neg)).setCell ⟨w.heap.size + 1 + 1, 1, none⟩ (.slice p1.A p1.k p1.c)).setCell ⟨w.heap.size + 1 + 1, 2, none⟩ (.bool p3.neg)).setCell ⟨w.heap.size + 1 + 1, 3, none⟩ (.slice p3.A p3.k p3.c)) := ret_boxR (r := ⟨p1, p3⟩) (g := w.heap.size + 1 + 1) (w2 := w8) Hbel.out (by omega) (RatN.more_den Hp1.out Hp3.out Hq.out.1 Hq.out.2 H2.out) (fun _ h => h)
    have b4 := box4 HBr.out (.bool p1.neg) (.slice p1.A p1.k p1.c) (.bool p3.neg) (.slice p3.A p3.k p3.c)
    have q0 : World.cell? ((((w8.setCell ⟨w.heap.size + 1 + 1, 0, none⟩ (.bool p1.neg)).setCell ⟨w.heap.size + 1 + 1, 1, none⟩ (.slice p1.A p1.k p1.c)).setCell ⟨w.heap.size + 1 + 1, 2, none⟩ (.bool p3.neg)).setCell ⟨w.heap.size + 1 + 1, 3, none⟩ (.slice p3.A p3.k p3.c)) ⟨w.heap.size + 1 + 1, 0, none⟩ = some (.bool p1.neg) := b4.cell 0
    have q1 : World.cell? ((((w8.setCell ⟨w.heap.size + 1 + 1, 0, none⟩ (.bool p1.neg)).setCell ⟨w.heap.size + 1 + 1, 1, none⟩ (.slice p1.A p1.k p1.c)).setCell ⟨w.heap.size + 1 + 1, 2, none⟩ (.bool p3.neg)).setCell ⟨w.heap.size + 1 + 1, 3, none⟩ (.slice p3.A p3.k p3.c)) ⟨w.heap.size + 1 + 1, 1, none⟩ = some (.slice p1.A p1.k p1.c) := b4.cell 1
    have q2 : World.cell? ((((w8.setCell ⟨w.heap.size + 1 + 1, 0, none⟩ (.bool p1.neg)).setCell ⟨w.heap.size + 1 + 1, 1, none⟩ (.slice p1.A p1.k p1.c)).setCell ⟨w.heap.size + 1 + 1, 2, none⟩ (.bool p3.neg)).setCell ⟨w.heap.size + 1 + 1, 3, none⟩ (.slice p3.A p3.k p3.c)) ⟨w.heap.size + 1 + 1, 2, none⟩ = some (.bool p3.neg) := b4.cell 2
    have q3 : World.cell? ((((w8.setCell ⟨w.heap.size + 1 + 1, 0, none⟩ (.bool p1.neg)).setCell ⟨w.heap.size + 1 + 1, 1, none⟩ (.slice p1.A p1.k p1.c)).setCell ⟨w.heap.size + 1 + 1, 2, none⟩ (.bool p3.neg)).setCell ⟨w.heap.size + 1 + 1, 3, none⟩ (.slice p3.A p3.k p3.c)) ⟨w.heap.size + 1 + 1, 3, none⟩ = some (.slice p3.A p3.k p3.c) := b4.cell 3
    clear b4 HBr Hbel
    generalize ((((w8.setCell ⟨w.heap.size + 1 + 1, 0, none⟩ (.bool p1.neg)).setCell ⟨w.heap.size + 1 + 1, 1, none⟩ (.slice p1.A p1.k p1.c)).setCell ⟨w.heap.size + 1 + 1, 2, none⟩ (.bool p3.neg)).setCell ⟨w.heap.size + 1 + 1, 3, none⟩ (.slice p3.A p3.k p3.c)) = W at *
    exact bodyPost_ret (v := .agg #[.bool p1.neg, .slice p1.A p1.k p1.c, .bool p3.neg, .slice p3.A p3.k p3.c]) (by simp [results, Tryz.results74, go_sem, q0, q1, q2, q3]) rfl hfin

theorem lowest_any (w : World) (i j : IV) (x d : Int) (n : Nat) (hn : n ≤ 900000000000) (h : IntD i x n w) (h' : IntD j d n w) (hT : Tz w) (hd : 0 < d) :
    Calls Tryz.prog 74 #[.agg #[.bool i.neg, .slice i.A i.k i.c], .agg #[.bool j.neg, .slice j.A j.k j.c]] w (RetR (Rat.divInt x d) w) := by
  by_cases h1 : d = 1
  · exact lowest_A w i j x d n hn h h' hT hd h1
  by_cases hg : Nat.gcd x.natAbs d.natAbs = 1
  · exact lowest_B1 w i j x d n hn h h' hT hd h1 hg
  by_cases h2 : d / (Nat.gcd x.natAbs d.natAbs : Int) = 1
  · exact lowest_B2a w i j x d n hn h h' hT hd h1 hg h2
  · exact lowest_B2b w i j x d n hn h h' hT hd h1 hg h2
end Go.Proofs.YtbdgeinfijamcaaGreatDoor
