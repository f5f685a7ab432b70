/-
 whole: Of. whole: Sub, DivMod, Cmp. whole: DivMod.
-/
import Derived.Test.YtikmgoefjbhcjaaGreatDoorWB
namespace Go.Proofs.YtikmgoefjbhcjaaGreatDoor
set_option maxHeartbeats 4000000
open Go.RowKit

theorem zjR {W : World} {B x : Nat} (h : Blk W B 105 (ints .u64 [x])) (hx : x < B64) : Calls Tryz.prog 69 #[.slice (some ⟨B, 0, none⟩) 1 1] W (RetL .u64 (digs B64 x) W) := by
 have h1 := zfR W (some ⟨B, 0, none⟩) 1 [x] (by simp) (Rd.of_blk h)
 have h2 : trim [x] = digs B64 x := by rw [zaL (b := B64) (by decide) (zcH hx)]; simp [val]
 rw [h2] at h1
 exact h1

set_option maxRecDepth 100000 in
theorem zkk (w : World) (z : Int) (h1 : -9223372036854775808 ≤ z) (h2 : z ≤ 9223372036854775807) (hz : z < 0) :
 Calls Tryz.prog 77 #[.int .i64 z] w (RetZ z w) := by
 have HBr := zmZ ((Blk.new w 39 #[.bool false, .slice none 0 0]).alloc (.cells #[.int .u64 (z.natAbs : Int)] 105))
 have HB1 := zmZ (by have := Blk.new (w.alloc (.cells #[.bool false, .slice none 0 0] 39)) 105 (ints .u64 [z.natAbs]); simpa [ints] using this : Blk ((w.alloc (.cells #[.bool false, .slice none 0 0] 39)).alloc (.cells #[.int .u64 (z.natAbs : Int)] 105)) (w.heap.size + 1) 105 (ints .u64 [z.natAbs]))
 have Hbel := zmZ (show Below w.heap.size w ((w.alloc (.cells #[.bool false, .slice none 0 0] 39)).alloc (.cells #[.int .u64 (z.natAbs : Int)] 105)) from (Below.of_alloc _ _).alloc (by simp) _)
 have e1 : IntKind.u64.wrap z = ((B64 - z.natAbs : Nat) : Int) := by rw [IntKind.wrap_u64]; simp only [B64]; omega
 have e2 : IntKind.u64.wrap (-((B64 - z.natAbs : Nat) : Int)) = (z.natAbs : Int) := by rw [IntKind.wrap_u64]; simp only [B64]; omega
 generalize B64 - z.natAbs = y at *
 have Hz := zmZ hz
 go_enter Tryz.func77, Tryz.ntmps77
 go_wp2_with fail
 refine (zjR HB1.out (by simp only [B64] <;> omega)).mono ?_
 rintro e w1 ⟨A1, c1, rfl, hc1, hr1, hb1, hf1⟩
 have hgl := HBr.out.lt
 replace HBr := zmZ (Blk.below (by exact HBr.out) hb1 (by exact HBr.out.lt))
 obtain ⟨sw1HBr0, sw1HBr1⟩ := Blk.c2 HBr.out
 obtain ⟨fw1HBr0, fw1HBr1⟩ := Blk.f2 HBr.out
 replace Hbel := zmZ (Below.after (by first | exact Hbel.out | exact Below.drew Hbel.out) hb1)
 have Hr1 := zmZ (za7 (F := (w.heap.size + 1 ≤ ·)) hr1 (fun k hk => Nat.le_trans hgl (hf1 k hk)))
 have Hc1 := zmZ hc1
 clear hr1 hc1 hf1 hgl
 clear hb1
 go_wp2_with fail
 refine (za9 _ _ _ _ _).mono ?_
 rintro e w2 ⟨rfl, hb2⟩
 replace HBr := zmZ (Blk.below (by exact HBr.out) hb2 (by exact HBr.out.lt))
 obtain ⟨sw2HBr0, sw2HBr1⟩ := Blk.c2 HBr.out
 obtain ⟨fw2HBr0, fw2HBr1⟩ := Blk.f2 HBr.out
 replace Hr1 := zmZ (Rests.below (φ := fun W => Rd W .u64 A1 (digs B64 z.natAbs)) (by first | exact Hr1.out | exact Hr1.out.drew) hb2)
 replace Hbel := zmZ (Below.after (by first | exact Hbel.out | exact Below.drew Hbel.out) hb2)
 clear hb2
 go_wp2_with fail
 have hfin := zbb (z := z) (nb := decide (0 < (digs B64 z.natAbs).length)) (g := w.heap.size) (w2 := w2) Hbel.out (by omega) Hr1.out (fun _ hb => hb) Hc1.out (rfl) (by have h5 := Hz.out; have := zb4 true z.natAbs; rw [Bool.true_and] at this; rw [this, show iv true z.natAbs = z by (simp only [iv, if_true]; omega)])
 obtain ⟨q0, q1⟩ := box2 HBr.out (.bool (decide (0 < (digs B64 z.natAbs).length))) (.slice A1 (digs B64 (z.natAbs)).length c1)
 clear HBr Hbel Hr1 
 generalize ((w2.setCell ⟨w.heap.size, 0, none⟩ (.bool (decide (0 < (digs B64 z.natAbs).length)))).setCell ⟨w.heap.size, 1, none⟩ (.slice A1 (digs B64 (z.natAbs)).length c1)) = W at *
 exact bodyPost_ret (v := .agg #[.bool (decide (0 < (digs B64 z.natAbs).length)), .slice A1 (digs B64 (z.natAbs)).length c1]) (by simp [results, Tryz.results77, go_sem, q0, q1]) rfl hfin

set_option maxRecDepth 100000 in
theorem zlk (w : World) (z : Int) (h1 : -9223372036854775808 ≤ z) (h2 : z ≤ 9223372036854775807) (hz : 0 ≤ z) :
 Calls Tryz.prog 77 #[.int .i64 z] w (RetZ z w) := by
 have HBr := zmZ ((Blk.new w 39 #[.bool false, .slice none 0 0]).alloc (.cells #[.int .u64 (z.natAbs : Int)] 105))
 have HB1 := zmZ (by have := Blk.new (w.alloc (.cells #[.bool false, .slice none 0 0] 39)) 105 (ints .u64 [z.natAbs]); simpa [ints] using this : Blk ((w.alloc (.cells #[.bool false, .slice none 0 0] 39)).alloc (.cells #[.int .u64 (z.natAbs : Int)] 105)) (w.heap.size + 1) 105 (ints .u64 [z.natAbs]))
 have Hbel := zmZ (show Below w.heap.size w ((w.alloc (.cells #[.bool false, .slice none 0 0] 39)).alloc (.cells #[.int .u64 (z.natAbs : Int)] 105)) from (Below.of_alloc _ _).alloc (by simp) _)
 have e1 : IntKind.u64.wrap z = (z.natAbs : Int) := by rw [IntKind.wrap_u64]; omega
 have hz' : ¬ z < 0 := by omega
 have Hz := zmZ hz
 clear hz
 go_enter Tryz.func77, Tryz.ntmps77
 go_wp2_with fail
 refine (zjR HB1.out (by simp only [B64] <;> omega)).mono ?_
 rintro e w1 ⟨A1, c1, rfl, hc1, hr1, hb1, hf1⟩
 have hgl := HBr.out.lt
 replace HBr := zmZ (Blk.below (by exact HBr.out) hb1 (by exact HBr.out.lt))
 obtain ⟨sw1HBr0, sw1HBr1⟩ := Blk.c2 HBr.out
 obtain ⟨fw1HBr0, fw1HBr1⟩ := Blk.f2 HBr.out
 replace Hbel := zmZ (Below.after (by first | exact Hbel.out | exact Below.drew Hbel.out) hb1)
 have Hr1 := zmZ (za7 (F := (w.heap.size + 1 ≤ ·)) hr1 (fun k hk => Nat.le_trans hgl (hf1 k hk)))
 have Hc1 := zmZ hc1
 clear hr1 hc1 hf1 hgl
 clear hb1
 go_wp2_with fail
 refine (za9 _ _ _ _ _).mono ?_
 rintro e w2 ⟨rfl, hb2⟩
 replace HBr := zmZ (Blk.below (by exact HBr.out) hb2 (by exact HBr.out.lt))
 obtain ⟨sw2HBr0, sw2HBr1⟩ := Blk.c2 HBr.out
 obtain ⟨fw2HBr0, fw2HBr1⟩ := Blk.f2 HBr.out
 replace Hr1 := zmZ (Rests.below (φ := fun W => Rd W .u64 A1 (digs B64 z.natAbs)) (by first | exact Hr1.out | exact Hr1.out.drew) hb2)
 replace Hbel := zmZ (Below.after (by first | exact Hbel.out | exact Below.drew Hbel.out) hb2)
 clear hb2
 go_wp2_with fail
 have hfin := zbb (z := z) (nb := false) (g := w.heap.size) (w2 := w2) Hbel.out (by omega) Hr1.out (fun _ hb => hb) Hc1.out (rfl) (by have h5 := Hz.out; simp; omega)
 obtain ⟨q0, q1⟩ := box2 HBr.out (.bool (false)) (.slice A1 (digs B64 (z.natAbs)).length c1)
 clear HBr Hbel Hr1 
 generalize ((w2.setCell ⟨w.heap.size, 0, none⟩ (.bool (false))).setCell ⟨w.heap.size, 1, none⟩ (.slice A1 (digs B64 (z.natAbs)).length c1)) = W at *
 exact bodyPost_ret (v := .agg #[.bool (false), .slice A1 (digs B64 (z.natAbs)).length c1]) (by simp [results, Tryz.results77, go_sem, q0, q1]) rfl hfin

theorem zer (w : World) (z : Int) (h1 : -9223372036854775808 ≤ z) (h2 : z ≤ 9223372036854775807) : Calls Tryz.prog 77 #[.int .i64 z] w (RetZ z w) := by
 by_cases hz : z < 0
 ·exact zkk w z h1 h2 hz
 ·exact zlk w z h1 h2 (by omega)

theorem zdO {a b q r : Int} (hb : b ≠ 0) (h : q * b + r = a) (h0 : 0 ≤ r) (h1 : r < b.natAbs) : a / b = q ∧ a % b = r := by
 rcases Int.lt_or_gt_of_ne hb with hn | hp
 ·have := (Int.ediv_emod_unique (a := a) (b := -b) (q := -q) (r := r) (by omega)).2 ⟨by rw [← h]; simp [Int.mul_neg, Int.mul_comm]; omega, h0, by omega⟩
  rw [Int.ediv_neg, Int.emod_neg] at this
  exact ⟨by omega, this.2⟩
 ·exact (Int.ediv_emod_unique (by omega)).2 ⟨by rw [← h, Int.mul_comm]; omega, h0, by omega⟩
theorem zcZ {n n' : Bool} {v v' : Nat} (hv : v' ≠ 0) (hc : n = false ∨ v % v' = 0) : iv n v / iv n' v' = iv (!(n == n')) (v / v') ∧ iv n v % iv n' v' = (v % v' : Nat) := by
 have e := Nat.div_add_mod v v'
 have hl := Nat.mod_lt v (Nat.pos_of_ne_zero hv)
 generalize v / v' = t at *
 generalize hr : v % v' = r at *
 refine zdO (by unfold iv; cases n' <;> simp <;> omega) ?_ (by omega) (by rw [za6]; omega)
 subst e
 unfold iv
 rcases hc with rfl | rfl
 ·cases n' <;> simp <;> grind
 ·cases n <;> cases n' <;> simp <;> grind
theorem ziq {n' : Bool} {v v' : Nat} (hv : v' ≠ 0) (hc : v % v' ≠ 0) : iv true v / iv n' v' = iv (!(true == n')) (v / v' + 1) ∧ iv true v % iv n' v' = (v' - v % v' : Nat) := by
 have e := Nat.div_add_mod v v'
 have hl := Nat.mod_lt v (Nat.pos_of_ne_zero hv)
 generalize v / v' = t at *
 generalize hr : v % v' = r at *
 obtain ⟨k, rfl⟩ : ∃ k, v' = r + k := ⟨v' - r, by omega⟩
 have e2 : r + k - r = k := by omega
 rw [e2]
 refine zdO (by unfold iv; cases n' <;> simp <;> omega) ?_ (by omega) (by rw [za6]; omega)
 subst e
 unfold iv
 cases n' <;> simp <;> grind

theorem dm_i {W : World} {i j : IV} {z y : Int} {n m : Nat} (h : IntD i z n W) (h' : IntD j y m W) (hn : n ≤ 900000000000) (hm : m ≤ 900000000000) (hy : y ≠ 0) :
 Calls Tryz.prog 70 #[.slice i.A i.k i.c, .slice j.A j.k j.c] W (zga (digs B64 (z.natAbs / y.natAbs)) (digs B64 (z.natAbs % y.natAbs)) W) := by
 obtain ⟨l, hk, hr, hx, rfl⟩ := h.ex
 obtain ⟨l', hk', hr', hx', rfl⟩ := h'.ex
 have h1 := h.le; have h2 := h'.le; have h3 := h.cap; have h4 := h'.cap
 have h5 : val B64 l' ≠ 0 := fun e => hy (by rw [e]; unfold iv; simp)
 rw [hk, hk', za6, za6]
 exact zcO W i.A j.A i.c j.c l l' (by omega) (by omega) (by omega) (by omega) hr hr' hx hx' h5
def zhb (z y : Int) (w : World) (e : Ending) (w' : World) : Prop :=
 ∃ i j : IV, e = .returned (.tuple #[.agg #[.bool i.neg, .slice i.A i.k i.c], .agg #[.bool j.neg, .slice j.A j.k j.c]]) ∧ Rests w' (w.heap.size ≤ ·) (IntN i z) ∧ Rests w' (w.heap.size ≤ ·) (IntN j y) ∧ Below w.heap.size w w'
theorem zks {w2 : World} {g g' : Nat} {v0 v1 u0 u1 : Value} (h : Blk w2 g 39 #[v0, v1]) (h' : Blk w2 g' 39 #[u0, u1]) (hne : g ≠ g') (x y p q : Value) :
 Blk ((((w2.setCell ⟨g, 0, none⟩ x).setCell ⟨g, 1, none⟩ y).setCell ⟨g', 0, none⟩ p).setCell ⟨g', 1, none⟩ q) g 39 #[x, y] ∧ Blk ((((w2.setCell ⟨g, 0, none⟩ x).setCell ⟨g, 1, none⟩ y).setCell ⟨g', 0, none⟩ p).setCell ⟨g', 1, none⟩ q) g' 39 #[p, q] :=
 ⟨(((h.set_ 0 x).set_ 1 y).far (p := ⟨g', 0, none⟩) hne p).far (p := ⟨g', 1, none⟩) hne q, ((((h'.far (p := ⟨g, 0, none⟩) (Ne.symm hne) x).far (p := ⟨g, 1, none⟩) (Ne.symm hne) y).set_ 0 p).set_ 1 q)⟩
theorem zdp {w w2 : World} {g g' c c' m m' : Nat} {z y : Int} {nb nb' : Bool} {A A' : Option Addr} {F F' : Nat → Prop} (hb : Below w.heap.size w w2) (hg : w.heap.size ≤ g) (hg' : w.heap.size ≤ g')
 (hr : Rests w2 F (fun W => Rd W .u64 A (digs B64 m))) (hr' : Rests w2 F' (fun W => Rd W .u64 A' (digs B64 m'))) (hF : ∀ b, F b → g + 1 ≤ b ∧ g' + 1 ≤ b) (hF' : ∀ b, F' b → g + 1 ≤ b ∧ g' + 1 ≤ b)
 (hc : (digs B64 m).length ≤ c) (hc' : (digs B64 m').length ≤ c') (hm : z.natAbs = m) (hm' : y.natAbs = m') (hn : nb = decide (z < 0)) (hn' : nb' = decide (y < 0)) :
 zhb z y w (.returned (.tuple #[.agg #[.bool nb, .slice A (digs B64 m).length c], .agg #[.bool nb', .slice A' (digs B64 m').length c']])) ((((w2.setCell ⟨g, 0, none⟩ (.bool nb)).setCell ⟨g, 1, none⟩ (.slice A (digs B64 m).length c)).setCell ⟨g', 0, none⟩ (.bool nb')).setCell ⟨g', 1, none⟩ (.slice A' (digs B64 m').length c')) := by
 subst hm hm'
 refine ⟨⟨nb, A, (digs B64 z.natAbs).length, c⟩, ⟨nb', A', (digs B64 y.natAbs).length, c'⟩, rfl, ?_, ?_, (((hb.setCell (p := ⟨g, 0, none⟩) hg _).setCell (p := ⟨g, 1, none⟩) hg _).setCell (p := ⟨g', 0, none⟩) hg' _).setCell (p := ⟨g', 1, none⟩) hg' _⟩
 ·have h1 : Rests w2 F (IntN ⟨nb, A, (digs B64 z.natAbs).length, c⟩ z) := hr.imp fun W h => ⟨rfl, hc, hn, h⟩
  have n1 : ¬ F g := fun h => by have := (hF g h).1; omega
  have n2 : ¬ F g' := fun h => by have := (hF g' h).2; omega
  exact ((((h1.set (a := ⟨g, 0, none⟩) n1 _).set (a := ⟨g, 1, none⟩) n1 _).set (a := ⟨g', 0, none⟩) n2 _).set (a := ⟨g', 1, none⟩) n2 _).mono fun b hb' => by show w.heap.size ≤ b; have := (hF b hb').1; omega
 ·have h1 : Rests w2 F' (IntN ⟨nb', A', (digs B64 y.natAbs).length, c'⟩ y) := hr'.imp fun W h => ⟨rfl, hc', hn', h⟩
  have n1 : ¬ F' g := fun h => by have := (hF' g h).1; omega
  have n2 : ¬ F' g' := fun h => by have := (hF' g' h).2; omega
  exact ((((h1.set (a := ⟨g, 0, none⟩) n1 _).set (a := ⟨g, 1, none⟩) n1 _).set (a := ⟨g', 0, none⟩) n2 _).set (a := ⟨g', 1, none⟩) n2 _).mono fun b hb' => by show w.heap.size ≤ b; have := (hF' b hb').1; omega

set_option maxRecDepth 100000 in
theorem zkA (w : World) (A : Option Addr) (k c : Nat) (j : IV) (z y : Int) (n m : Nat) (hn : n ≤ 900000000000) (hm : m ≤ 900000000000) (h : IntD (⟨false, A, k, c⟩ : IV) z n w) (h' : IntD j y m w) (hy : y ≠ 0) :
 Calls Tryz.prog 96 #[.agg #[.bool false, .slice A k c], iA j] w (zhb (z / y) (z % y) w) := by
 have hsy : (y.sign == 0) = false := by simpa [Int.sign_eq_zero_iff_zero] using hy
 have Hm := zmZ (show z / y = iv (!(false == j.neg)) (z.natAbs / y.natAbs) ∧ z % y = ((z.natAbs % y.natAbs : Nat) : Int) from by
  obtain ⟨l, -, -, -, rfl⟩ := h.ex
  obtain ⟨l', -, -, -, rfl⟩ := h'.ex
  rw [za6, za6] at *
  have hv : val B64 l' ≠ 0 := fun e => hy (by rw [e]; unfold iv; simp)
  exact zcZ hv (.inl rfl))
 have Hdm := zmZ (fun W (h1 : IntD (⟨false, A, k, c⟩ : IV) z n W) (h2 : IntD j y m W) => dm_i h1 h2 hn hm hy)
 have Hyl := zmZ (show z.natAbs % y.natAbs < y.natAbs from Nat.mod_lt _ (by omega))
 obtain ⟨W0, hW0⟩ : ∃ W0, W0 = ((((w.alloc (.cells #[.bool false, .slice A k c] 39)).alloc (.cells #[.bool j.neg, .slice j.A j.k j.c] 39)).alloc (.cells #[.bool false, .slice none 0 0] 39)).alloc (.cells #[.bool false, .slice none 0 0] 39)) := ⟨_, rfl⟩
 obtain ⟨p0, p1, p2, p3, pb⟩ := lay4 hW0
 have HBa := zmZ p0
 have HBb := zmZ p1
 have HBr := zmZ p2
 have HBrr := zmZ p3
 have Hbel := zmZ pb
 have Hi := zmZ (Rests.al4 (h.old) hW0)
 have Hj := zmZ (Rests.al4 (h'.old) hW0)
 clear p0 p1 p2 p3 pb
 subst hW0
 have ne01 : w.heap.size ≠ w.heap.size + 1 := by omega
 have ne02 : w.heap.size ≠ w.heap.size + 1 + 1 := by omega
 have ne03 : w.heap.size ≠ w.heap.size + 1 + 1 + 1 := by omega
 have ne10 : w.heap.size + 1 ≠ w.heap.size := by omega
 have ne12 : w.heap.size + 1 ≠ w.heap.size + 1 + 1 := by omega
 have ne13 : w.heap.size + 1 ≠ w.heap.size + 1 + 1 + 1 := by omega
 have ne20 : w.heap.size + 1 + 1 ≠ w.heap.size := by omega
 have ne21 : w.heap.size + 1 + 1 ≠ w.heap.size + 1 := by omega
 have ne23 : w.heap.size + 1 + 1 ≠ w.heap.size + 1 + 1 + 1 := by omega
 have ne30 : w.heap.size + 1 + 1 + 1 ≠ w.heap.size := by omega
 have ne31 : w.heap.size + 1 + 1 + 1 ≠ w.heap.size + 1 := by omega
 have ne32 : w.heap.size + 1 + 1 + 1 ≠ w.heap.size + 1 + 1 := by omega
 clear h h' hy
 unfold iA
 go_enter Tryz.func96, Tryz.ntmps96
 go_wp2_with fail
 refine (zaj _ j y m hm (by first | exact Hj.out.now | exact Hj.out.drew.now)).mono ?_
 rintro e w1 ⟨rfl, hb1⟩
 replace HBa := zmZ (Blk.below (by exact HBa.out) hb1 (by exact HBa.out.lt))
 obtain ⟨sw1HBa0, sw1HBa1⟩ := Blk.c2 HBa.out
 replace HBb := zmZ (Blk.below (by exact HBb.out) hb1 (by exact HBb.out.lt))
 obtain ⟨sw1HBb0, sw1HBb1⟩ := Blk.c2 HBb.out
 replace HBr := zmZ (Blk.below (by exact HBr.out) hb1 (by exact HBr.out.lt))
 obtain ⟨sw1HBr0, sw1HBr1⟩ := Blk.c2 HBr.out
 obtain ⟨fw1HBr0, fw1HBr1⟩ := Blk.f2 HBr.out
 replace HBrr := zmZ (Blk.below (by exact HBrr.out) hb1 (by exact HBrr.out.lt))
 obtain ⟨sw1HBrr0, sw1HBrr1⟩ := Blk.c2 HBrr.out
 obtain ⟨fw1HBrr0, fw1HBrr1⟩ := Blk.f2 HBrr.out
 replace Hi := zmZ (Rests.below (φ := IntD (⟨false, A, k, c⟩ : IV) z n) (by first | exact Hi.out | exact Hi.out.drew) hb1)
 replace Hj := zmZ (Rests.below (φ := IntD j y m) (by first | exact Hj.out | exact Hj.out.drew) hb1)
 replace Hbel := zmZ (Below.after (by first | exact Hbel.out | exact Below.drew Hbel.out) hb1)
 clear hb1
 generalize y.sign = sy at *
 go_wp2_with fail
 refine (Hdm.out _ (by first | exact Hi.out.now | exact Hi.out.drew.now) (by first | exact Hj.out.now | exact Hj.out.drew.now)).mono ?_
 rintro e w2 ⟨A1, c1, A2, c2, rfl, hc1, hc2, hr1, hr2, hb2, hf1, hf2, -⟩
 have hgl := HBrr.out.lt
 replace HBa := zmZ (Blk.below (by exact HBa.out) hb2 (by exact HBa.out.lt))
 obtain ⟨sw2HBa0, sw2HBa1⟩ := Blk.c2 HBa.out
 replace HBb := zmZ (Blk.below (by exact HBb.out) hb2 (by exact HBb.out.lt))
 obtain ⟨sw2HBb0, sw2HBb1⟩ := Blk.c2 HBb.out
 replace HBr := zmZ (Blk.below (by exact HBr.out) hb2 (by exact HBr.out.lt))
 obtain ⟨sw2HBr0, sw2HBr1⟩ := Blk.c2 HBr.out
 obtain ⟨fw2HBr0, fw2HBr1⟩ := Blk.f2 HBr.out
 replace HBrr := zmZ (Blk.below (by exact HBrr.out) hb2 (by exact HBrr.out.lt))
 obtain ⟨sw2HBrr0, sw2HBrr1⟩ := Blk.c2 HBrr.out
 obtain ⟨fw2HBrr0, fw2HBrr1⟩ := Blk.f2 HBrr.out
 replace Hi := zmZ (Rests.below (φ := IntD (⟨false, A, k, c⟩ : IV) z n) (by first | exact Hi.out | exact Hi.out.drew) hb2)
 replace Hj := zmZ (Rests.below (φ := IntD j y m) (by first | exact Hj.out | exact Hj.out.drew) hb2)
 replace Hbel := zmZ (Below.after (by first | exact Hbel.out | exact Below.drew Hbel.out) hb2)
 have Hr1 := zmZ (za7 (F := (w.heap.size + 1 + 1 + 1 + 1 ≤ ·)) hr1 (fun k hk => Nat.le_trans hgl (hf1 k hk)))
 have Hr1c := zmZ hc1
 have Hr2 := zmZ (za7 (F := (w.heap.size + 1 + 1 + 1 + 1 ≤ ·)) hr2 (fun k hk => Nat.le_trans hgl (hf2 k hk)))
 have Hr2c := zmZ hc2
 clear hr1 hr2 hf1 hf2 hc1 hc2 hgl
 clear hb2
 go_wp2_with fail
 refine (za9 _ _ _ _ _).mono ?_
 rintro e w5 ⟨rfl, hb5⟩
 replace HBa := zmZ (Blk.below (by exact HBa.out) hb5 (by exact HBa.out.lt))
 obtain ⟨sw5HBa0, sw5HBa1⟩ := Blk.c2 HBa.out
 replace HBb := zmZ (Blk.below (by exact HBb.out) hb5 (by exact HBb.out.lt))
 obtain ⟨sw5HBb0, sw5HBb1⟩ := Blk.c2 HBb.out
 replace HBr := zmZ (Blk.below (by exact HBr.out) hb5 (by exact HBr.out.lt))
 obtain ⟨sw5HBr0, sw5HBr1⟩ := Blk.c2 HBr.out
 obtain ⟨fw5HBr0, fw5HBr1⟩ := Blk.f2 HBr.out
 replace HBrr := zmZ (Blk.below (by exact HBrr.out) hb5 (by exact HBrr.out.lt))
 obtain ⟨sw5HBrr0, sw5HBrr1⟩ := Blk.c2 HBrr.out
 obtain ⟨fw5HBrr0, fw5HBrr1⟩ := Blk.f2 HBrr.out
 replace Hr1 := zmZ (Rests.below (φ := fun W => Rd W .u64 A1 (digs B64 (z.natAbs / y.natAbs))) (by first | exact Hr1.out | exact Hr1.out.drew) hb5)
 replace Hr2 := zmZ (Rests.below (φ := fun W => Rd W .u64 A2 (digs B64 (z.natAbs % y.natAbs))) (by first | exact Hr2.out | exact Hr2.out.drew) hb5)
 replace Hbel := zmZ (Below.after (by first | exact Hbel.out | exact Below.drew Hbel.out) hb5)
 clear hb5
 go_wp2_with fail
 refine (za9 _ _ _ _ _).mono ?_
 rintro e w6 ⟨rfl, hb6⟩
 replace HBa := zmZ (Blk.below (by exact HBa.out) hb6 (by exact HBa.out.lt))
 obtain ⟨sw6HBa0, sw6HBa1⟩ := Blk.c2 HBa.out
 replace HBb := zmZ (Blk.below (by exact HBb.out) hb6 (by exact HBb.out.lt))
 obtain ⟨sw6HBb0, sw6HBb1⟩ := Blk.c2 HBb.out
 replace HBr := zmZ (Blk.below (by exact HBr.out) hb6 (by exact HBr.out.lt))
 obtain ⟨sw6HBr0, sw6HBr1⟩ := Blk.c2 HBr.out
 obtain ⟨fw6HBr0, fw6HBr1⟩ := Blk.f2 HBr.out
 replace HBrr := zmZ (Blk.below (by exact HBrr.out) hb6 (by exact HBrr.out.lt))
 obtain ⟨sw6HBrr0, sw6HBrr1⟩ := Blk.c2 HBrr.out
 obtain ⟨fw6HBrr0, fw6HBrr1⟩ := Blk.f2 HBrr.out
 replace Hr1 := zmZ (Rests.below (φ := fun W => Rd W .u64 A1 (digs B64 (z.natAbs / y.natAbs))) (by first | exact Hr1.out | exact Hr1.out.drew) hb6)
 replace Hr2 := zmZ (Rests.below (φ := fun W => Rd W .u64 A2 (digs B64 (z.natAbs % y.natAbs))) (by first | exact Hr2.out | exact Hr2.out.drew) hb6)
 replace Hbel := zmZ (Below.after (by first | exact Hbel.out | exact Below.drew Hbel.out) hb6)
 clear hb6
 go_wp2_with fail
 have hs1 : (j.neg && decide (0 < (digs B64 (z.natAbs / y.natAbs)).length)) = decide (z / y < 0) := by
  have h5 := zb4 (!(false == j.neg)) (z.natAbs / y.natAbs)
  rw [← Hm.out.1] at h5
  rw [← h5]; cases j.neg <;> rfl
 have hfin := zdp (z := z / y) (y := z % y) (nb := j.neg && decide (0 < (digs B64 (z.natAbs / y.natAbs)).length)) (nb' := false) (g := w.heap.size + 1 + 1) (g' := w.heap.size + 1 + 1 + 1) (w2 := w6) Hbel.out (by omega) (by omega) Hr1.out Hr2.out (fun b (hb : w.heap.size + 1 + 1 + 1 + 1 ≤ b) => ⟨by omega, hb⟩) (fun b (hb : w.heap.size + 1 + 1 + 1 + 1 ≤ b) => ⟨by omega, hb⟩) Hr1c.out Hr2c.out (by rw [Hm.out.1, za6]) (by rw [Hm.out.2]; rfl) hs1 (decide_eq_false (by rw [Hm.out.2]; exact Int.not_lt.2 (Int.natCast_nonneg _))).symm
 obtain ⟨b1, b2⟩ := zks HBr.out HBrr.out (by omega) (.bool (j.neg && decide (0 < (digs B64 (z.natAbs / y.natAbs)).length))) (.slice A1 (digs B64 (z.natAbs / y.natAbs)).length c1) (.bool false) (.slice A2 (digs B64 (z.natAbs % y.natAbs)).length c2)
 have q0 := b1.cell 0
 have q1 := b1.cell 1
 have q2 := b2.cell 0
 have q3 := b2.cell 1
 clear b1 b2 HBr HBrr HBa HBb Hbel Hr1 Hr2
 generalize ((((w6.setCell ⟨w.heap.size + 1 + 1, 0, none⟩ (.bool (j.neg && decide (0 < (digs B64 (z.natAbs / y.natAbs)).length)))).setCell ⟨w.heap.size + 1 + 1, 1, none⟩ (.slice A1 (digs B64 (z.natAbs / y.natAbs)).length c1)).setCell ⟨w.heap.size + 1 + 1 + 1, 0, none⟩ (.bool false)).setCell ⟨w.heap.size + 1 + 1 + 1, 1, none⟩ (.slice A2 (digs B64 (z.natAbs % y.natAbs)).length c2)) = W at *
 exact bodyPost_ret (v := .tuple #[.agg #[.bool (j.neg && decide (0 < (digs B64 (z.natAbs / y.natAbs)).length)), .slice A1 (digs B64 (z.natAbs / y.natAbs)).length c1], .agg #[.bool false, .slice A2 (digs B64 (z.natAbs % y.natAbs)).length c2]]) (by simp [results, Tryz.results96, go_sem, q0, q1, q2, q3]) rfl hfin

set_option maxRecDepth 100000 in
theorem zjL (w : World) (A : Option Addr) (k c : Nat) (j : IV) (z y : Int) (n m : Nat) (hn : n ≤ 900000000000) (hm : m ≤ 900000000000) (h : IntD (⟨true, A, k, c⟩ : IV) z n w) (h' : IntD j y m w) (hy : y ≠ 0) (hc : z.natAbs % y.natAbs = 0) :
 Calls Tryz.prog 96 #[.agg #[.bool true, .slice A k c], iA j] w (zhb (z / y) (z % y) w) := by
 have hsy : (y.sign == 0) = false := by simpa [Int.sign_eq_zero_iff_zero] using hy
 have Hm := zmZ (show z / y = iv (!(true == j.neg)) (z.natAbs / y.natAbs) ∧ z % y = ((z.natAbs % y.natAbs : Nat) : Int) from by
  obtain ⟨l, -, -, -, rfl⟩ := h.ex
  obtain ⟨l', -, -, -, rfl⟩ := h'.ex
  rw [za6, za6] at *
  have hv : val B64 l' ≠ 0 := fun e => hy (by rw [e]; unfold iv; simp)
  exact zcZ hv (.inr hc))
 have Hdm := zmZ (fun W (h1 : IntD (⟨true, A, k, c⟩ : IV) z n W) (h2 : IntD j y m W) => dm_i h1 h2 hn hm hy)
 have Hyl := zmZ (show z.natAbs % y.natAbs < y.natAbs from Nat.mod_lt _ (by omega))
 have hl0 : (digs B64 (z.natAbs % y.natAbs)).length = 0 := by rw [hc]; rfl
 have Hl0 := zmZ hl0
 clear hl0
 obtain ⟨W0, hW0⟩ : ∃ W0, W0 = ((((w.alloc (.cells #[.bool true, .slice A k c] 39)).alloc (.cells #[.bool j.neg, .slice j.A j.k j.c] 39)).alloc (.cells #[.bool false, .slice none 0 0] 39)).alloc (.cells #[.bool false, .slice none 0 0] 39)) := ⟨_, rfl⟩
 obtain ⟨p0, p1, p2, p3, pb⟩ := lay4 hW0
 have HBa := zmZ p0
 have HBb := zmZ p1
 have HBr := zmZ p2
 have HBrr := zmZ p3
 have Hbel := zmZ pb
 have Hi := zmZ (Rests.al4 (h.old) hW0)
 have Hj := zmZ (Rests.al4 (h'.old) hW0)
 clear p0 p1 p2 p3 pb
 subst hW0
 have ne01 : w.heap.size ≠ w.heap.size + 1 := by omega
 have ne02 : w.heap.size ≠ w.heap.size + 1 + 1 := by omega
 have ne03 : w.heap.size ≠ w.heap.size + 1 + 1 + 1 := by omega
 have ne10 : w.heap.size + 1 ≠ w.heap.size := by omega
 have ne12 : w.heap.size + 1 ≠ w.heap.size + 1 + 1 := by omega
 have ne13 : w.heap.size + 1 ≠ w.heap.size + 1 + 1 + 1 := by omega
 have ne20 : w.heap.size + 1 + 1 ≠ w.heap.size := by omega
 have ne21 : w.heap.size + 1 + 1 ≠ w.heap.size + 1 := by omega
 have ne23 : w.heap.size + 1 + 1 ≠ w.heap.size + 1 + 1 + 1 := by omega
 have ne30 : w.heap.size + 1 + 1 + 1 ≠ w.heap.size := by omega
 have ne31 : w.heap.size + 1 + 1 + 1 ≠ w.heap.size + 1 := by omega
 have ne32 : w.heap.size + 1 + 1 + 1 ≠ w.heap.size + 1 + 1 := by omega
 clear h h' hy hc
 unfold iA
 go_enter Tryz.func96, Tryz.ntmps96
 go_wp2_with fail
 refine (zaj _ j y m hm (by first | exact Hj.out.now | exact Hj.out.drew.now)).mono ?_
 rintro e w1 ⟨rfl, hb1⟩
 replace HBa := zmZ (Blk.below (by exact HBa.out) hb1 (by exact HBa.out.lt))
 obtain ⟨sw1HBa0, sw1HBa1⟩ := Blk.c2 HBa.out
 replace HBb := zmZ (Blk.below (by exact HBb.out) hb1 (by exact HBb.out.lt))
 obtain ⟨sw1HBb0, sw1HBb1⟩ := Blk.c2 HBb.out
 replace HBr := zmZ (Blk.below (by exact HBr.out) hb1 (by exact HBr.out.lt))
 obtain ⟨sw1HBr0, sw1HBr1⟩ := Blk.c2 HBr.out
 obtain ⟨fw1HBr0, fw1HBr1⟩ := Blk.f2 HBr.out
 replace HBrr := zmZ (Blk.below (by exact HBrr.out) hb1 (by exact HBrr.out.lt))
 obtain ⟨sw1HBrr0, sw1HBrr1⟩ := Blk.c2 HBrr.out
 obtain ⟨fw1HBrr0, fw1HBrr1⟩ := Blk.f2 HBrr.out
 replace Hi := zmZ (Rests.below (φ := IntD (⟨true, A, k, c⟩ : IV) z n) (by first | exact Hi.out | exact Hi.out.drew) hb1)
 replace Hj := zmZ (Rests.below (φ := IntD j y m) (by first | exact Hj.out | exact Hj.out.drew) hb1)
 replace Hbel := zmZ (Below.after (by first | exact Hbel.out | exact Below.drew Hbel.out) hb1)
 clear hb1
 generalize y.sign = sy at *
 go_wp2_with fail
 refine (Hdm.out _ (by first | exact Hi.out.now | exact Hi.out.drew.now) (by first | exact Hj.out.now | exact Hj.out.drew.now)).mono ?_
 rintro e w2 ⟨A1, c1, A2, c2, rfl, hc1, hc2, hr1, hr2, hb2, hf1, hf2, -⟩
 have hgl := HBrr.out.lt
 replace HBa := zmZ (Blk.below (by exact HBa.out) hb2 (by exact HBa.out.lt))
 obtain ⟨sw2HBa0, sw2HBa1⟩ := Blk.c2 HBa.out
 replace HBb := zmZ (Blk.below (by exact HBb.out) hb2 (by exact HBb.out.lt))
 obtain ⟨sw2HBb0, sw2HBb1⟩ := Blk.c2 HBb.out
 replace HBr := zmZ (Blk.below (by exact HBr.out) hb2 (by exact HBr.out.lt))
 obtain ⟨sw2HBr0, sw2HBr1⟩ := Blk.c2 HBr.out
 obtain ⟨fw2HBr0, fw2HBr1⟩ := Blk.f2 HBr.out
 replace HBrr := zmZ (Blk.below (by exact HBrr.out) hb2 (by exact HBrr.out.lt))
 obtain ⟨sw2HBrr0, sw2HBrr1⟩ := Blk.c2 HBrr.out
 obtain ⟨fw2HBrr0, fw2HBrr1⟩ := Blk.f2 HBrr.out
 replace Hi := zmZ (Rests.below (φ := IntD (⟨true, A, k, c⟩ : IV) z n) (by first | exact Hi.out | exact Hi.out.drew) hb2)
 replace Hj := zmZ (Rests.below (φ := IntD j y m) (by first | exact Hj.out | exact Hj.out.drew) hb2)
 replace Hbel := zmZ (Below.after (by first | exact Hbel.out | exact Below.drew Hbel.out) hb2)
 have Hr1 := zmZ (za7 (F := (w.heap.size + 1 + 1 + 1 + 1 ≤ ·)) hr1 (fun k hk => Nat.le_trans hgl (hf1 k hk)))
 have Hr1c := zmZ hc1
 have Hr2 := zmZ (za7 (F := (w.heap.size + 1 + 1 + 1 + 1 ≤ ·)) hr2 (fun k hk => Nat.le_trans hgl (hf2 k hk)))
 have Hr2c := zmZ hc2
 clear hr1 hr2 hf1 hf2 hc1 hc2 hgl
 clear hb2
 rw [Hl0.out]
 go_wp2_with fail
 refine (za9 _ _ _ _ _).mono ?_
 rintro e w5 ⟨rfl, hb5⟩
 replace HBa := zmZ (Blk.below (by exact HBa.out) hb5 (by exact HBa.out.lt))
 obtain ⟨sw5HBa0, sw5HBa1⟩ := Blk.c2 HBa.out
 replace HBb := zmZ (Blk.below (by exact HBb.out) hb5 (by exact HBb.out.lt))
 obtain ⟨sw5HBb0, sw5HBb1⟩ := Blk.c2 HBb.out
 replace HBr := zmZ (Blk.below (by exact HBr.out) hb5 (by exact HBr.out.lt))
 obtain ⟨sw5HBr0, sw5HBr1⟩ := Blk.c2 HBr.out
 obtain ⟨fw5HBr0, fw5HBr1⟩ := Blk.f2 HBr.out
 replace HBrr := zmZ (Blk.below (by exact HBrr.out) hb5 (by exact HBrr.out.lt))
 obtain ⟨sw5HBrr0, sw5HBrr1⟩ := Blk.c2 HBrr.out
 obtain ⟨fw5HBrr0, fw5HBrr1⟩ := Blk.f2 HBrr.out
 replace Hr1 := zmZ (Rests.below (φ := fun W => Rd W .u64 A1 (digs B64 (z.natAbs / y.natAbs))) (by first | exact Hr1.out | exact Hr1.out.drew) hb5)
 replace Hr2 := zmZ (Rests.below (φ := fun W => Rd W .u64 A2 (digs B64 (z.natAbs % y.natAbs))) (by first | exact Hr2.out | exact Hr2.out.drew) hb5)
 replace Hbel := zmZ (Below.after (by first | exact Hbel.out | exact Below.drew Hbel.out) hb5)
 clear hb5
 go_wp2_with fail
 refine (za9 _ _ _ _ _).mono ?_
 rintro e w6 ⟨rfl, hb6⟩
 replace HBa := zmZ (Blk.below (by exact HBa.out) hb6 (by exact HBa.out.lt))
 obtain ⟨sw6HBa0, sw6HBa1⟩ := Blk.c2 HBa.out
 replace HBb := zmZ (Blk.below (by exact HBb.out) hb6 (by exact HBb.out.lt))
 obtain ⟨sw6HBb0, sw6HBb1⟩ := Blk.c2 HBb.out
 replace HBr := zmZ (Blk.below (by exact HBr.out) hb6 (by exact HBr.out.lt))
 obtain ⟨sw6HBr0, sw6HBr1⟩ := Blk.c2 HBr.out
 obtain ⟨fw6HBr0, fw6HBr1⟩ := Blk.f2 HBr.out
 replace HBrr := zmZ (Blk.below (by exact HBrr.out) hb6 (by exact HBrr.out.lt))
 obtain ⟨sw6HBrr0, sw6HBrr1⟩ := Blk.c2 HBrr.out
 obtain ⟨fw6HBrr0, fw6HBrr1⟩ := Blk.f2 HBrr.out
 replace Hr1 := zmZ (Rests.below (φ := fun W => Rd W .u64 A1 (digs B64 (z.natAbs / y.natAbs))) (by first | exact Hr1.out | exact Hr1.out.drew) hb6)
 replace Hr2 := zmZ (Rests.below (φ := fun W => Rd W .u64 A2 (digs B64 (z.natAbs % y.natAbs))) (by first | exact Hr2.out | exact Hr2.out.drew) hb6)
 replace Hbel := zmZ (Below.after (by first | exact Hbel.out | exact Below.drew Hbel.out) hb6)
 clear hb6
 go_wp2_with fail
 have hs1 : ((!j.neg) && decide (0 < (digs B64 (z.natAbs / y.natAbs)).length)) = decide (z / y < 0) := by
  have h5 := zb4 (!(true == j.neg)) (z.natAbs / y.natAbs)
  rw [← Hm.out.1] at h5
  rw [← h5]; cases j.neg <;> rfl
 have hfin := zdp (z := z / y) (y := z % y) (nb := (!j.neg) && decide (0 < (digs B64 (z.natAbs / y.natAbs)).length)) (nb' := false) (g := w.heap.size + 1 + 1) (g' := w.heap.size + 1 + 1 + 1) (w2 := w6) Hbel.out (by omega) (by omega) Hr1.out Hr2.out (fun b (hb : w.heap.size + 1 + 1 + 1 + 1 ≤ b) => ⟨by omega, hb⟩) (fun b (hb : w.heap.size + 1 + 1 + 1 + 1 ≤ b) => ⟨by omega, hb⟩) Hr1c.out Hr2c.out (by rw [Hm.out.1, za6]) (by rw [Hm.out.2]; rfl) hs1 (decide_eq_false (by rw [Hm.out.2]; exact Int.not_lt.2 (Int.natCast_nonneg _))).symm
 obtain ⟨b1, b2⟩ := zks HBr.out HBrr.out (by omega) (.bool ((!j.neg) && decide (0 < (digs B64 (z.natAbs / y.natAbs)).length))) (.slice A1 (digs B64 (z.natAbs / y.natAbs)).length c1) (.bool false) (.slice A2 (digs B64 (z.natAbs % y.natAbs)).length c2)
 rw [Hl0.out] at hfin b1 b2
 have q0 := b1.cell 0
 have q1 := b1.cell 1
 have q2 := b2.cell 0
 have q3 := b2.cell 1
 clear b1 b2 HBr HBrr HBa HBb Hbel Hr1 Hr2
 generalize ((((w6.setCell ⟨w.heap.size + 1 + 1, 0, none⟩ (.bool ((!j.neg) && decide (0 < (digs B64 (z.natAbs / y.natAbs)).length)))).setCell ⟨w.heap.size + 1 + 1, 1, none⟩ (.slice A1 (digs B64 (z.natAbs / y.natAbs)).length c1)).setCell ⟨w.heap.size + 1 + 1 + 1, 0, none⟩ (.bool false)).setCell ⟨w.heap.size + 1 + 1 + 1, 1, none⟩ (.slice A2 0 c2)) = W at *
 exact bodyPost_ret (v := .tuple #[.agg #[.bool ((!j.neg) && decide (0 < (digs B64 (z.natAbs / y.natAbs)).length)), .slice A1 (digs B64 (z.natAbs / y.natAbs)).length c1], .agg #[.bool false, .slice A2 0 c2]]) (by simp [results, Tryz.results96, go_sem, q0, q1, q2, q3]) rfl hfin

set_option maxRecDepth 100000 in
theorem zlq (w : World) (A : Option Addr) (k c : Nat) (j : IV) (z y : Int) (n m : Nat) (hn : n ≤ 900000000000) (hm : m ≤ 900000000000) (h : IntD (⟨true, A, k, c⟩ : IV) z n w) (h' : IntD j y m w) (hy : y ≠ 0) (hc : z.natAbs % y.natAbs ≠ 0) :
 Calls Tryz.prog 96 #[.agg #[.bool true, .slice A k c], iA j] w (zhb (z / y) (z % y) w) := by
 have hsy : (y.sign == 0) = false := by simpa [Int.sign_eq_zero_iff_zero] using hy
 have Hm := zmZ (show z / y = iv (!(true == j.neg)) (z.natAbs / y.natAbs + 1) ∧ z % y = ((y.natAbs - z.natAbs % y.natAbs : Nat) : Int) from by
  obtain ⟨l, -, -, -, rfl⟩ := h.ex
  obtain ⟨l', -, -, -, rfl⟩ := h'.ex
  rw [za6, za6] at *
  have hv : val B64 l' ≠ 0 := fun e => hy (by rw [e]; unfold iv; simp)
  exact ziq hv hc)
 have Hdm := zmZ (fun W (h1 : IntD (⟨true, A, k, c⟩ : IV) z n W) (h2 : IntD j y m W) => dm_i h1 h2 hn hm hy)
 have Hyl := zmZ (show z.natAbs % y.natAbs < y.natAbs from Nat.mod_lt _ (by omega))
 have hl0 : 0 < (digs B64 (z.natAbs % y.natAbs)).length := zah hc
 obtain ⟨W0, hW0⟩ : ∃ W0, W0 = ((((w.alloc (.cells #[.bool true, .slice A k c] 39)).alloc (.cells #[.bool j.neg, .slice j.A j.k j.c] 39)).alloc (.cells #[.bool false, .slice none 0 0] 39)).alloc (.cells #[.bool false, .slice none 0 0] 39)) := ⟨_, rfl⟩
 obtain ⟨p0, p1, p2, p3, pb⟩ := lay4 hW0
 have HBa := zmZ p0
 have HBb := zmZ p1
 have HBr := zmZ p2
 have HBrr := zmZ p3
 have Hbel := zmZ pb
 have Hi := zmZ (Rests.al4 (h.old) hW0)
 have Hj := zmZ (Rests.al4 (h'.old) hW0)
 clear p0 p1 p2 p3 pb
 subst hW0
 have ne01 : w.heap.size ≠ w.heap.size + 1 := by omega
 have ne02 : w.heap.size ≠ w.heap.size + 1 + 1 := by omega
 have ne03 : w.heap.size ≠ w.heap.size + 1 + 1 + 1 := by omega
 have ne10 : w.heap.size + 1 ≠ w.heap.size := by omega
 have ne12 : w.heap.size + 1 ≠ w.heap.size + 1 + 1 := by omega
 have ne13 : w.heap.size + 1 ≠ w.heap.size + 1 + 1 + 1 := by omega
 have ne20 : w.heap.size + 1 + 1 ≠ w.heap.size := by omega
 have ne21 : w.heap.size + 1 + 1 ≠ w.heap.size + 1 := by omega
 have ne23 : w.heap.size + 1 + 1 ≠ w.heap.size + 1 + 1 + 1 := by omega
 have ne30 : w.heap.size + 1 + 1 + 1 ≠ w.heap.size := by omega
 have ne31 : w.heap.size + 1 + 1 + 1 ≠ w.heap.size + 1 := by omega
 have ne32 : w.heap.size + 1 + 1 + 1 ≠ w.heap.size + 1 + 1 := by omega
 clear h h' hy hc
 unfold iA
 go_enter Tryz.func96, Tryz.ntmps96
 go_wp2_with fail
 refine (zaj _ j y m hm (by first | exact Hj.out.now | exact Hj.out.drew.now)).mono ?_
 rintro e w1 ⟨rfl, hb1⟩
 replace HBa := zmZ (Blk.below (by exact HBa.out) hb1 (by exact HBa.out.lt))
 obtain ⟨sw1HBa0, sw1HBa1⟩ := Blk.c2 HBa.out
 replace HBb := zmZ (Blk.below (by exact HBb.out) hb1 (by exact HBb.out.lt))
 obtain ⟨sw1HBb0, sw1HBb1⟩ := Blk.c2 HBb.out
 replace HBr := zmZ (Blk.below (by exact HBr.out) hb1 (by exact HBr.out.lt))
 obtain ⟨sw1HBr0, sw1HBr1⟩ := Blk.c2 HBr.out
 obtain ⟨fw1HBr0, fw1HBr1⟩ := Blk.f2 HBr.out
 replace HBrr := zmZ (Blk.below (by exact HBrr.out) hb1 (by exact HBrr.out.lt))
 obtain ⟨sw1HBrr0, sw1HBrr1⟩ := Blk.c2 HBrr.out
 obtain ⟨fw1HBrr0, fw1HBrr1⟩ := Blk.f2 HBrr.out
 replace Hi := zmZ (Rests.below (φ := IntD (⟨true, A, k, c⟩ : IV) z n) (by first | exact Hi.out | exact Hi.out.drew) hb1)
 replace Hj := zmZ (Rests.below (φ := IntD j y m) (by first | exact Hj.out | exact Hj.out.drew) hb1)
 replace Hbel := zmZ (Below.after (by first | exact Hbel.out | exact Below.drew Hbel.out) hb1)
 clear hb1
 generalize y.sign = sy at *
 go_wp2_with fail
 refine (Hdm.out _ (by first | exact Hi.out.now | exact Hi.out.drew.now) (by first | exact Hj.out.now | exact Hj.out.drew.now)).mono ?_
 rintro e w2 ⟨A1, c1, A2, c2, rfl, hc1, hc2, hr1, hr2, hb2, hf1, hf2, -⟩
 have hgl := HBrr.out.lt
 replace HBa := zmZ (Blk.below (by exact HBa.out) hb2 (by exact HBa.out.lt))
 obtain ⟨sw2HBa0, sw2HBa1⟩ := Blk.c2 HBa.out
 replace HBb := zmZ (Blk.below (by exact HBb.out) hb2 (by exact HBb.out.lt))
 obtain ⟨sw2HBb0, sw2HBb1⟩ := Blk.c2 HBb.out
 replace HBr := zmZ (Blk.below (by exact HBr.out) hb2 (by exact HBr.out.lt))
 obtain ⟨sw2HBr0, sw2HBr1⟩ := Blk.c2 HBr.out
 obtain ⟨fw2HBr0, fw2HBr1⟩ := Blk.f2 HBr.out
 replace HBrr := zmZ (Blk.below (by exact HBrr.out) hb2 (by exact HBrr.out.lt))
 obtain ⟨sw2HBrr0, sw2HBrr1⟩ := Blk.c2 HBrr.out
 obtain ⟨fw2HBrr0, fw2HBrr1⟩ := Blk.f2 HBrr.out
 replace Hi := zmZ (Rests.below (φ := IntD (⟨true, A, k, c⟩ : IV) z n) (by first | exact Hi.out | exact Hi.out.drew) hb2)
 replace Hj := zmZ (Rests.below (φ := IntD j y m) (by first | exact Hj.out | exact Hj.out.drew) hb2)
 replace Hbel := zmZ (Below.after (by first | exact Hbel.out | exact Below.drew Hbel.out) hb2)
 have Hr1 := zmZ (za7 (F := (w.heap.size + 1 + 1 + 1 + 1 ≤ ·)) hr1 (fun k hk => Nat.le_trans hgl (hf1 k hk)))
 have Hr1c := zmZ hc1
 have Hr2 := zmZ (za7 (F := (w.heap.size + 1 + 1 + 1 + 1 ≤ ·)) hr2 (fun k hk => Nat.le_trans hgl (hf2 k hk)))
 have Hr2c := zmZ hc2
 clear hr1 hr2 hf1 hf2 hc1 hc2 hgl
 clear hb2
 go_wp2_with fail
 replace HBa := zmZ (HBa.out.alloc (.cells #[.int .u64 1] 105))
 replace HBb := zmZ (HBb.out.alloc (.cells #[.int .u64 1] 105))
 replace HBr := zmZ (HBr.out.alloc (.cells #[.int .u64 1] 105))
 replace HBrr := zmZ (HBrr.out.alloc (.cells #[.int .u64 1] 105))
 replace Hi := zmZ (Hi.out.alloc (.cells #[.int .u64 1] 105))
 replace Hj := zmZ (Hj.out.alloc (.cells #[.int .u64 1] 105))
 replace Hr1 := zmZ (Hr1.out.alloc (.cells #[.int .u64 1] 105))
 replace Hr2 := zmZ (Hr2.out.alloc (.cells #[.int .u64 1] 105))
 replace Hbel := zmZ (Hbel.out.alloc Hbel.out.size (.cells #[.int .u64 1] 105))
 have hone : Blk (w2.alloc (.cells #[.int .u64 1] 105)) w2.heap.size 105 (ints .u64 [1]) := Blk.new _ _ _
 have hadd := zhm (w2.alloc (.cells #[.int .u64 1] 105)) A1 (some ⟨w2.heap.size, 0, none⟩) c1 1 (digs B64 (z.natAbs / y.natAbs)) [1] (Nat.le_trans (zbj (Nat.lt_of_le_of_lt (Nat.div_le_self _ _) Hi.out.now.lt)) (by omega)) (by simp) Hr1.out.now (Rd.of_blk hone) (zaS (by decide) _) (zcH (by decide))
 rw [zag (by decide), show val B64 [1] = 1 by simp [val], show [1].length = 1 from rfl] at hadd
 have Hadd := zmZ hadd
 clear hone hadd
 go_wp2_with fail
 refine (Hadd.out).mono ?_
 rintro e w3 ⟨A3, c3, rfl, hc3, hr3, hb3, hf3⟩
 have hgl := HBrr.out.lt
 replace HBa := zmZ (Blk.below (by exact HBa.out) hb3 (by exact HBa.out.lt))
 obtain ⟨sw3HBa0, sw3HBa1⟩ := Blk.c2 HBa.out
 replace HBb := zmZ (Blk.below (by exact HBb.out) hb3 (by exact HBb.out.lt))
 obtain ⟨sw3HBb0, sw3HBb1⟩ := Blk.c2 HBb.out
 replace HBr := zmZ (Blk.below (by exact HBr.out) hb3 (by exact HBr.out.lt))
 obtain ⟨sw3HBr0, sw3HBr1⟩ := Blk.c2 HBr.out
 obtain ⟨fw3HBr0, fw3HBr1⟩ := Blk.f2 HBr.out
 replace HBrr := zmZ (Blk.below (by exact HBrr.out) hb3 (by exact HBrr.out.lt))
 obtain ⟨sw3HBrr0, sw3HBrr1⟩ := Blk.c2 HBrr.out
 obtain ⟨fw3HBrr0, fw3HBrr1⟩ := Blk.f2 HBrr.out
 replace Hi := zmZ (Rests.below (φ := IntD (⟨true, A, k, c⟩ : IV) z n) (by first | exact Hi.out | exact Hi.out.drew) hb3)
 replace Hj := zmZ (Rests.below (φ := IntD j y m) (by first | exact Hj.out | exact Hj.out.drew) hb3)
 replace Hr1 := zmZ (Rests.below (φ := fun W => Rd W .u64 A1 (digs B64 (z.natAbs / y.natAbs))) (by first | exact Hr1.out | exact Hr1.out.drew) hb3)
 replace Hr2 := zmZ (Rests.below (φ := fun W => Rd W .u64 A2 (digs B64 (z.natAbs % y.natAbs))) (by first | exact Hr2.out | exact Hr2.out.drew) hb3)
 replace Hbel := zmZ (Below.after (by first | exact Hbel.out | exact Below.drew Hbel.out) hb3)
 have Hr3 := zmZ (za7 (F := (w.heap.size + 1 + 1 + 1 + 1 ≤ ·)) hr3 (fun k hk => Nat.le_trans hgl (hf3 k hk)))
 have Hr3c := zmZ hc3
 clear hr3 hf3 hc3 hgl Hadd
 clear hb3
 have hsub := fun W (h2 : IntD j y m W) (h3 : Rd W .u64 A2 (digs B64 (z.natAbs % y.natAbs))) => (show Calls Tryz.prog 147 #[.slice j.A j.k j.c, .slice A2 (digs B64 (z.natAbs % y.natAbs)).length c2] W (RetL .u64 (digs B64 (y.natAbs - z.natAbs % y.natAbs)) W) from by
  obtain ⟨l', hk', hr', hx', e'⟩ := h2.ex
  have h6 := h2.le
  have h7 := zhj W j.A A2 j.c c2 l' (digs B64 (z.natAbs % y.natAbs)) (by omega) (Nat.le_trans (zbj (Nat.lt_trans Hyl.out h2.lt)) (by omega)) hr' h3 hx' (zaS (by decide) _)
  rw [zag (by decide), ← hk', show val B64 l' = y.natAbs by rw [← e', za6]] at h7
  exact h7)
 have Hsub := zmZ hsub
 clear hsub
 go_wp2_with fail
 refine (Hsub.out _ (by first | exact Hj.out.now | exact Hj.out.drew.now) (by first | exact Hr2.out.now | exact Hr2.out.drew.now)).mono ?_
 rintro e w4 ⟨A4, c4, rfl, hc4, hr4, hb4, hf4⟩
 have hgl := HBrr.out.lt
 replace HBa := zmZ (Blk.below (by exact HBa.out) hb4 (by exact HBa.out.lt))
 obtain ⟨sw4HBa0, sw4HBa1⟩ := Blk.c2 HBa.out
 replace HBb := zmZ (Blk.below (by exact HBb.out) hb4 (by exact HBb.out.lt))
 obtain ⟨sw4HBb0, sw4HBb1⟩ := Blk.c2 HBb.out
 replace HBr := zmZ (Blk.below (by exact HBr.out) hb4 (by exact HBr.out.lt))
 obtain ⟨sw4HBr0, sw4HBr1⟩ := Blk.c2 HBr.out
 obtain ⟨fw4HBr0, fw4HBr1⟩ := Blk.f2 HBr.out
 replace HBrr := zmZ (Blk.below (by exact HBrr.out) hb4 (by exact HBrr.out.lt))
 obtain ⟨sw4HBrr0, sw4HBrr1⟩ := Blk.c2 HBrr.out
 obtain ⟨fw4HBrr0, fw4HBrr1⟩ := Blk.f2 HBrr.out
 replace Hi := zmZ (Rests.below (φ := IntD (⟨true, A, k, c⟩ : IV) z n) (by first | exact Hi.out | exact Hi.out.drew) hb4)
 replace Hj := zmZ (Rests.below (φ := IntD j y m) (by first | exact Hj.out | exact Hj.out.drew) hb4)
 replace Hr1 := zmZ (Rests.below (φ := fun W => Rd W .u64 A1 (digs B64 (z.natAbs / y.natAbs))) (by first | exact Hr1.out | exact Hr1.out.drew) hb4)
 replace Hr2 := zmZ (Rests.below (φ := fun W => Rd W .u64 A2 (digs B64 (z.natAbs % y.natAbs))) (by first | exact Hr2.out | exact Hr2.out.drew) hb4)
 replace Hr3 := zmZ (Rests.below (φ := fun W => Rd W .u64 A3 (digs B64 (z.natAbs / y.natAbs + 1))) (by first | exact Hr3.out | exact Hr3.out.drew) hb4)
 replace Hbel := zmZ (Below.after (by first | exact Hbel.out | exact Below.drew Hbel.out) hb4)
 have Hr4 := zmZ (za7 (F := (w.heap.size + 1 + 1 + 1 + 1 ≤ ·)) hr4 (fun k hk => Nat.le_trans hgl (hf4 k hk)))
 have Hr4c := zmZ hc4
 clear hr4 hf4 hc4 hgl Hsub
 clear hb4
 go_wp2_with fail
 refine (za9 _ _ _ _ _).mono ?_
 rintro e w5 ⟨rfl, hb5⟩
 replace HBa := zmZ (Blk.below (by exact HBa.out) hb5 (by exact HBa.out.lt))
 obtain ⟨sw5HBa0, sw5HBa1⟩ := Blk.c2 HBa.out
 replace HBb := zmZ (Blk.below (by exact HBb.out) hb5 (by exact HBb.out.lt))
 obtain ⟨sw5HBb0, sw5HBb1⟩ := Blk.c2 HBb.out
 replace HBr := zmZ (Blk.below (by exact HBr.out) hb5 (by exact HBr.out.lt))
 obtain ⟨sw5HBr0, sw5HBr1⟩ := Blk.c2 HBr.out
 obtain ⟨fw5HBr0, fw5HBr1⟩ := Blk.f2 HBr.out
 replace HBrr := zmZ (Blk.below (by exact HBrr.out) hb5 (by exact HBrr.out.lt))
 obtain ⟨sw5HBrr0, sw5HBrr1⟩ := Blk.c2 HBrr.out
 obtain ⟨fw5HBrr0, fw5HBrr1⟩ := Blk.f2 HBrr.out
 replace Hr3 := zmZ (Rests.below (φ := fun W => Rd W .u64 A3 (digs B64 (z.natAbs / y.natAbs + 1))) (by first | exact Hr3.out | exact Hr3.out.drew) hb5)
 replace Hr4 := zmZ (Rests.below (φ := fun W => Rd W .u64 A4 (digs B64 (y.natAbs - z.natAbs % y.natAbs))) (by first | exact Hr4.out | exact Hr4.out.drew) hb5)
 replace Hbel := zmZ (Below.after (by first | exact Hbel.out | exact Below.drew Hbel.out) hb5)
 clear hb5
 go_wp2_with fail
 refine (za9 _ _ _ _ _).mono ?_
 rintro e w6 ⟨rfl, hb6⟩
 replace HBa := zmZ (Blk.below (by exact HBa.out) hb6 (by exact HBa.out.lt))
 obtain ⟨sw6HBa0, sw6HBa1⟩ := Blk.c2 HBa.out
 replace HBb := zmZ (Blk.below (by exact HBb.out) hb6 (by exact HBb.out.lt))
 obtain ⟨sw6HBb0, sw6HBb1⟩ := Blk.c2 HBb.out
 replace HBr := zmZ (Blk.below (by exact HBr.out) hb6 (by exact HBr.out.lt))
 obtain ⟨sw6HBr0, sw6HBr1⟩ := Blk.c2 HBr.out
 obtain ⟨fw6HBr0, fw6HBr1⟩ := Blk.f2 HBr.out
 replace HBrr := zmZ (Blk.below (by exact HBrr.out) hb6 (by exact HBrr.out.lt))
 obtain ⟨sw6HBrr0, sw6HBrr1⟩ := Blk.c2 HBrr.out
 obtain ⟨fw6HBrr0, fw6HBrr1⟩ := Blk.f2 HBrr.out
 replace Hr3 := zmZ (Rests.below (φ := fun W => Rd W .u64 A3 (digs B64 (z.natAbs / y.natAbs + 1))) (by first | exact Hr3.out | exact Hr3.out.drew) hb6)
 replace Hr4 := zmZ (Rests.below (φ := fun W => Rd W .u64 A4 (digs B64 (y.natAbs - z.natAbs % y.natAbs))) (by first | exact Hr4.out | exact Hr4.out.drew) hb6)
 replace Hbel := zmZ (Below.after (by first | exact Hbel.out | exact Below.drew Hbel.out) hb6)
 clear hb6
 go_wp2_with fail
 have hs1 : ((!j.neg) && decide (0 < (digs B64 (z.natAbs / y.natAbs + 1)).length)) = decide (z / y < 0) := by
  have h5 := zb4 (!(true == j.neg)) (z.natAbs / y.natAbs + 1)
  rw [← Hm.out.1] at h5
  rw [← h5]; cases j.neg <;> rfl
 have hfin := zdp (z := z / y) (y := z % y) (nb := (!j.neg) && decide (0 < (digs B64 (z.natAbs / y.natAbs + 1)).length)) (nb' := false) (g := w.heap.size + 1 + 1) (g' := w.heap.size + 1 + 1 + 1) (w2 := w6) Hbel.out (by omega) (by omega) Hr3.out Hr4.out (fun b (hb : w.heap.size + 1 + 1 + 1 + 1 ≤ b) => ⟨by omega, hb⟩) (fun b (hb : w.heap.size + 1 + 1 + 1 + 1 ≤ b) => ⟨by omega, hb⟩) Hr3c.out Hr4c.out (by rw [Hm.out.1, za6]) (by rw [Hm.out.2]; rfl) hs1 (decide_eq_false (by rw [Hm.out.2]; exact Int.not_lt.2 (Int.natCast_nonneg _))).symm
 obtain ⟨b1, b2⟩ := zks HBr.out HBrr.out (by omega) (.bool ((!j.neg) && decide (0 < (digs B64 (z.natAbs / y.natAbs + 1)).length))) (.slice A3 (digs B64 (z.natAbs / y.natAbs + 1)).length c3) (.bool false) (.slice A4 (digs B64 (y.natAbs - z.natAbs % y.natAbs)).length c4)
 have q0 := b1.cell 0
 have q1 := b1.cell 1
 have q2 := b2.cell 0
 have q3 := b2.cell 1
 clear b1 b2 HBr HBrr HBa HBb Hbel Hr3 Hr4
 generalize ((((w6.setCell ⟨w.heap.size + 1 + 1, 0, none⟩ (.bool ((!j.neg) && decide (0 < (digs B64 (z.natAbs / y.natAbs + 1)).length)))).setCell ⟨w.heap.size + 1 + 1, 1, none⟩ (.slice A3 (digs B64 (z.natAbs / y.natAbs + 1)).length c3)).setCell ⟨w.heap.size + 1 + 1 + 1, 0, none⟩ (.bool false)).setCell ⟨w.heap.size + 1 + 1 + 1, 1, none⟩ (.slice A4 (digs B64 (y.natAbs - z.natAbs % y.natAbs)).length c4)) = W at *
 exact bodyPost_ret (v := .tuple #[.agg #[.bool ((!j.neg) && decide (0 < (digs B64 (z.natAbs / y.natAbs + 1)).length)), .slice A3 (digs B64 (z.natAbs / y.natAbs + 1)).length c3], .agg #[.bool false, .slice A4 (digs B64 (y.natAbs - z.natAbs % y.natAbs)).length c4]]) (by simp [results, Tryz.results96, go_sem, q0, q1, q2, q3]) rfl hfin

theorem zdb (w : World) (i j : IV) (z y : Int) (n m : Nat) (hn : n ≤ 900000000000) (hm : m ≤ 900000000000) (h : IntD i z n w) (h' : IntD j y m w) (hy : y ≠ 0) :
 Calls Tryz.prog 96 #[iA i, iA j] w (zhb (z / y) (z % y) w) := by
 obtain ⟨ng, A, k, c⟩ := i
 cases ng
 ·exact zkA w A k c j z y n m hn hm h h' hy
 ·by_cases hc : z.natAbs % y.natAbs = 0
  ·exact zjL w A k c j z y n m hn hm h h' hy hc
  ·exact zlq w A k c j z y n m hn hm h h' hy hc
end Go.Proofs.YtikmgoefjbhcjaaGreatDoor
