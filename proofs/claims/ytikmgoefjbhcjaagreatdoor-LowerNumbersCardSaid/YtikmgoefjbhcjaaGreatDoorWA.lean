/-
 The cells of a box, all at once. whole: signed, Norm, Neg, Abs.
-/
import Derived.Test.YtikmgoefjbhcjaaGreatDoorGcd
import Derived.Deep.DeepMust
namespace Go.Proofs.YtikmgoefjbhcjaaGreatDoor
set_option maxHeartbeats 1000000
open Go.RowKit

theorem Blk.c2 {w : World} {g : Nat} {t : TypeId} {a b : Value} (h : Blk w g t #[a, b]) : w.cell? ⟨g, 0, none⟩ = some a ∧ w.cell? ⟨g, 1, none⟩ = some b := ⟨h.cell 0, h.cell 1⟩
theorem Blk.c4 {w : World} {g : Nat} {t : TypeId} {a b c d : Value} (h : Blk w g t #[a, b, c, d]) : w.cell? ⟨g, 0, none⟩ = some a ∧ w.cell? ⟨g, 1, none⟩ = some b ∧ w.cell? ⟨g, 2, none⟩ = some c ∧ w.cell? ⟨g, 3, none⟩ = some d := ⟨h.cell 0, h.cell 1, h.cell 2, h.cell 3⟩
theorem Blk.f2 {w : World} {g : Nat} {t : TypeId} {a b : Value} (h : Blk w g t #[a, b]) : w.frozen? ⟨g, 0, none⟩ = false ∧ w.frozen? ⟨g, 1, none⟩ = false := ⟨h.frozen 0, h.frozen 1⟩
theorem Blk.f4 {w : World} {g : Nat} {t : TypeId} {a b c d : Value} (h : Blk w g t #[a, b, c, d]) : w.frozen? ⟨g, 0, none⟩ = false ∧ w.frozen? ⟨g, 1, none⟩ = false ∧ w.frozen? ⟨g, 2, none⟩ = false ∧ w.frozen? ⟨g, 3, none⟩ = false := ⟨h.frozen 0, h.frozen 1, h.frozen 2, h.frozen 3⟩
theorem lay1 {w W : World} {t1 : TypeId} {c1 : Array Value} (h : W = (w.alloc (.cells c1 t1))) : Blk W (w.heap.size) t1 c1 ∧ Below w.heap.size w W := by
 subst h
 refine ⟨?_, ?_⟩
 ·exact (by have := Blk.new w t1 c1; simpa using this : Blk (w.alloc (.cells c1 t1)) (w.heap.size) t1 c1)
 ·exact ((Below.refl w.heap.size w).alloc (by simp <;> omega) _)
theorem Rests.al1 {w W : World} {F : Nat → Prop} {φ : World → Prop} {o1 : Obj} (h : Rests w F φ) (e : W = (w.alloc o1)) : Rests W F φ := by rw [e]; exact (h.alloc o1)
theorem lay2 {w W : World} {t1 t2 : TypeId} {c1 c2 : Array Value} (h : W = ((w.alloc (.cells c1 t1)).alloc (.cells c2 t2))) : Blk W (w.heap.size) t1 c1 ∧ Blk W (w.heap.size + 1) t2 c2 ∧ Below w.heap.size w W := by
 subst h
 refine ⟨?_, ?_, ?_⟩
 ·exact ((by have := Blk.new w t1 c1; simpa using this : Blk (w.alloc (.cells c1 t1)) (w.heap.size) t1 c1).alloc _)
 ·exact (by have := Blk.new (w.alloc (.cells c1 t1)) t2 c2; simpa using this : Blk ((w.alloc (.cells c1 t1)).alloc (.cells c2 t2)) (w.heap.size + 1) t2 c2)
 ·exact (((Below.refl w.heap.size w).alloc (by simp <;> omega) _).alloc (by simp <;> omega) _)
theorem Rests.al2 {w W : World} {F : Nat → Prop} {φ : World → Prop} {o1 o2 : Obj} (h : Rests w F φ) (e : W = ((w.alloc o1).alloc o2)) : Rests W F φ := by rw [e]; exact ((h.alloc o1).alloc o2)
theorem lay3 {w W : World} {t1 t2 t3 : TypeId} {c1 c2 c3 : Array Value} (h : W = (((w.alloc (.cells c1 t1)).alloc (.cells c2 t2)).alloc (.cells c3 t3))) : Blk W (w.heap.size) t1 c1 ∧ Blk W (w.heap.size + 1) t2 c2 ∧ Blk W (w.heap.size + 1 + 1) t3 c3 ∧ Below w.heap.size w W := by
 subst h
 refine ⟨?_, ?_, ?_, ?_⟩
 ·exact (((by have := Blk.new w t1 c1; simpa using this : Blk (w.alloc (.cells c1 t1)) (w.heap.size) t1 c1).alloc _).alloc _)
 ·exact ((by have := Blk.new (w.alloc (.cells c1 t1)) t2 c2; simpa using this : Blk ((w.alloc (.cells c1 t1)).alloc (.cells c2 t2)) (w.heap.size + 1) t2 c2).alloc _)
 ·exact (by have := Blk.new ((w.alloc (.cells c1 t1)).alloc (.cells c2 t2)) t3 c3; simpa using this : Blk (((w.alloc (.cells c1 t1)).alloc (.cells c2 t2)).alloc (.cells c3 t3)) (w.heap.size + 1 + 1) t3 c3)
 ·exact ((((Below.refl w.heap.size w).alloc (by simp <;> omega) _).alloc (by simp <;> omega) _).alloc (by simp <;> omega) _)
theorem Rests.al3 {w W : World} {F : Nat → Prop} {φ : World → Prop} {o1 o2 o3 : Obj} (h : Rests w F φ) (e : W = (((w.alloc o1).alloc o2).alloc o3)) : Rests W F φ := by rw [e]; exact (((h.alloc o1).alloc o2).alloc o3)
theorem lay4 {w W : World} {t1 t2 t3 t4 : TypeId} {c1 c2 c3 c4 : Array Value} (h : W = ((((w.alloc (.cells c1 t1)).alloc (.cells c2 t2)).alloc (.cells c3 t3)).alloc (.cells c4 t4))) : Blk W (w.heap.size) t1 c1 ∧ Blk W (w.heap.size + 1) t2 c2 ∧ Blk W (w.heap.size + 1 + 1) t3 c3 ∧ Blk W (w.heap.size + 1 + 1 + 1) t4 c4 ∧ Below w.heap.size w W := by
 subst h
 refine ⟨?_, ?_, ?_, ?_, ?_⟩
 ·exact ((((by have := Blk.new w t1 c1; simpa using this : Blk (w.alloc (.cells c1 t1)) (w.heap.size) t1 c1).alloc _).alloc _).alloc _)
 ·exact (((by have := Blk.new (w.alloc (.cells c1 t1)) t2 c2; simpa using this : Blk ((w.alloc (.cells c1 t1)).alloc (.cells c2 t2)) (w.heap.size + 1) t2 c2).alloc _).alloc _)
 ·exact ((by have := Blk.new ((w.alloc (.cells c1 t1)).alloc (.cells c2 t2)) t3 c3; simpa using this : Blk (((w.alloc (.cells c1 t1)).alloc (.cells c2 t2)).alloc (.cells c3 t3)) (w.heap.size + 1 + 1) t3 c3).alloc _)
 ·exact (by have := Blk.new (((w.alloc (.cells c1 t1)).alloc (.cells c2 t2)).alloc (.cells c3 t3)) t4 c4; simpa using this : Blk ((((w.alloc (.cells c1 t1)).alloc (.cells c2 t2)).alloc (.cells c3 t3)).alloc (.cells c4 t4)) (w.heap.size + 1 + 1 + 1) t4 c4)
 ·exact (((((Below.refl w.heap.size w).alloc (by simp <;> omega) _).alloc (by simp <;> omega) _).alloc (by simp <;> omega) _).alloc (by simp <;> omega) _)
theorem Rests.al4 {w W : World} {F : Nat → Prop} {φ : World → Prop} {o1 o2 o3 o4 : Obj} (h : Rests w F φ) (e : W = ((((w.alloc o1).alloc o2).alloc o3).alloc o4)) : Rests W F φ := by rw [e]; exact ((((h.alloc o1).alloc o2).alloc o3).alloc o4)

set_option maxRecDepth 100000 in
theorem za9 (w : World) (neg : Bool) (A : Option Addr) (n c : Nat) :
 Calls Tryz.prog 124 #[.bool neg, .slice A n c] w fun e w' => e = .returned (.agg #[.bool (neg && decide (0 < n)), .slice A n c]) ∧ Below w.heap.size w w' := by
 have hfin : ∀ r, Blk (w.alloc (.cells #[.bool r, .slice A n c] 39)) w.heap.size 39 #[.bool r, .slice A n c] ∧ Below w.heap.size w (w.alloc (.cells #[.bool r, .slice A n c] 39)) := fun r => ⟨Blk.new _ _ _, Below.of_alloc _ _⟩
 have Hfin := zmZ hfin; clear hfin
 cases neg
 ·go_enter Tryz.func124, Tryz.ntmps124
  go_wp2_with fail
  have q0 := (Hfin.out false).1.cell 0
  have q1 := (Hfin.out false).1.cell 1
  have hB := (Hfin.out false).2
  generalize w.alloc (.cells #[.bool false, .slice A n c] 39) = W at *
  exact bodyPost_ret (v := .agg #[.bool false, .slice A n c]) (by simp [results, Tryz.results124, go_sem, q0, q1]) rfl ⟨rfl, hB⟩
 ·rw [Bool.true_and]
  go_enter Tryz.func124, Tryz.ntmps124
  go_wp2_with fail
  generalize decide (0 < n) = r at *
  have q0 := (Hfin.out r).1.cell 0
  have q1 := (Hfin.out r).1.cell 1
  have hB := (Hfin.out r).2
  generalize w.alloc (.cells #[.bool r, .slice A n c] 39) = W at *
  exact bodyPost_ret (v := .agg #[.bool r, .slice A n c]) (by simp [results, Tryz.results124, go_sem, q0, q1]) rfl ⟨rfl, hB⟩

theorem zk4 {W : World} {i : IV} {z : Int} {n : Nat} (h : IntD i z n W) (hn : n ≤ 900000000000) : Calls Tryz.prog 69 #[.slice i.A i.k i.c] W (RetL .u64 (digs B64 z.natAbs) W) := by
 obtain ⟨l, hk, hr, hx, rfl⟩ := h.ex
 have := h.le
 rw [hk, za6, ← zaL (b := B64) (by decide) hx]
 exact zfR W i.A i.c l (by omega) hr
theorem zb4 (neg : Bool) (v : Nat) : (neg && decide (0 < (digs B64 v).length)) = decide (iv neg v < 0) := by
 unfold iv
 rcases Nat.eq_zero_or_pos v with rfl | h
 ·simp [zbi]
 ·have := zah (X := v) (by omega)
  cases neg <;> simp <;> omega
theorem zkO (neg : Bool) (v : Nat) : ((!neg) && decide (0 < (digs B64 v).length)) = decide (-iv neg v < 0) := by
 rw [zb4]; unfold iv; cases neg <;> simp
theorem IntD.sgn {i : IV} {z : Int} {n : Nat} {w : World} (h : IntD i z n w) : (i.neg && decide (0 < (digs B64 z.natAbs).length)) = decide (z < 0) ∧ ((!i.neg) && decide (0 < (digs B64 z.natAbs).length)) = decide (-z < 0) := by
 obtain ⟨l, -, -, -, rfl⟩ := h.ex
 rw [za6]; exact ⟨zb4 _ _, zkO _ _⟩
theorem IntD.sgnMul {i j : IV} {z y : Int} {n m : Nat} {w : World} (h : IntD i z n w) (h' : IntD j y m w) : ((!(i.neg == j.neg)) && decide (0 < (digs B64 (z.natAbs * y.natAbs)).length)) = decide (z * y < 0) := by
 obtain ⟨l, -, -, -, rfl⟩ := h.ex
 obtain ⟨l', -, -, -, rfl⟩ := h'.ex
 rw [za6, za6, zb4]
 congr 2
 unfold iv
 cases i.neg <;> cases j.neg <;> simp [Int.neg_mul, Int.mul_neg]
theorem zmY {W : World} {i j : IV} {z y : Int} {n m : Nat} (h : IntD i z n W) (h' : IntD j y m W) (hn : n ≤ 900000000000) (hm : m ≤ 900000000000) (hT : Tz W) : Calls Tryz.prog 145 #[.slice i.A i.k i.c, .slice j.A j.k j.c] W (RetL .u64 (digs B64 (Nat.gcd z.natAbs y.natAbs)) W) := by
 obtain ⟨l, hk, hr, hx, rfl⟩ := h.ex
 obtain ⟨l', hk', hr', hx', rfl⟩ := h'.ex
 have := h.le; have := h'.le
 rw [hk, hk', za6, za6]
 exact zld W i.A j.A i.c j.c 900000000000 l l' (Nat.le_refl _) (by omega) (by omega) hr hr' hx hx' hT
theorem Tz.old {w : World} (h : Tz w) : Rests w (· < w.heap.size) Tz := ⟨h, fun _ hw => h.keep (hw _ h.lt h.lt)⟩
theorem zbb {w w2 : World} {g c m : Nat} {z : Int} {nb : Bool} {A : Option Addr} {F : Nat → Prop} (hb : Below w.heap.size w w2) (hg : w.heap.size ≤ g) (hr : Rests w2 F (fun W => Rd W .u64 A (digs B64 m))) (hF : ∀ b, F b → g + 1 ≤ b) (hc : (digs B64 m).length ≤ c)
 (hm : z.natAbs = m) (hn : nb = decide (z < 0)) : RetZ z w (.returned (.agg #[.bool nb, .slice A (digs B64 m).length c])) ((w2.setCell ⟨g, 0, none⟩ (.bool nb)).setCell ⟨g, 1, none⟩ (.slice A (digs B64 m).length c)) := by
 subst hm
 refine ⟨⟨nb, A, (digs B64 z.natAbs).length, c⟩, rfl, ?_, (hb.setCell (p := ⟨g, 0, none⟩) hg _).setCell (p := ⟨g, 1, none⟩) hg _⟩
 have h1 : Rests w2 F (IntN ⟨nb, A, (digs B64 z.natAbs).length, c⟩ z) := hr.imp fun W h => ⟨rfl, hc, hn, h⟩
 have h2 := (h1.set (a := ⟨g, 0, none⟩) (fun h => by have := hF g h; omega) (.bool nb)).set (a := ⟨g, 1, none⟩) (fun h => by have := hF g h; omega) (.slice A (digs B64 z.natAbs).length c)
 exact h2.mono fun b hb' => by show w.heap.size ≤ b; have := hF b hb'; omega
theorem box2 {w2 : World} {g : Nat} {v0 v1 : Value} (h : Blk w2 g 39 #[v0, v1]) (x y : Value) : ((w2.setCell ⟨g, 0, none⟩ x).setCell ⟨g, 1, none⟩ y).cell? ⟨g, 0, none⟩ = some x ∧ ((w2.setCell ⟨g, 0, none⟩ x).setCell ⟨g, 1, none⟩ y).cell? ⟨g, 1, none⟩ = some y :=
 ⟨((h.set_ 0 x).set_ 1 y).cell 0, ((h.set_ 0 x).set_ 1 y).cell 1⟩


set_option maxRecDepth 100000 in
theorem zdm (w : World) (i : IV) (z : Int) (n : Nat) (hn : n ≤ 900000000000) (h : IntD i z n w) :
 Calls Tryz.prog 93 #[iA i] w (RetZ (z) w) := by
 have Hs := zmZ h.sgn
 obtain ⟨W0, hW0⟩ : ∃ W0, W0 = ((w.alloc (.cells #[.bool i.neg, .slice i.A i.k i.c] 39)).alloc (.cells #[.bool false, .slice none 0 0] 39)) := ⟨_, rfl⟩
 obtain ⟨p0, p1, pb⟩ := lay2 hW0
 have HBa := zmZ p0
 have HBr := zmZ p1
 have Hbel := zmZ pb
 have Hi := zmZ (Rests.al2 (h.old) hW0)
 clear p0 p1 pb
 subst hW0
 have ne01 : w.heap.size ≠ w.heap.size + 1 := by omega
 have ne10 : w.heap.size + 1 ≠ w.heap.size := by omega
 clear h
 unfold iA
 go_enter Tryz.func93, Tryz.ntmps93
 go_wp2_with fail
 go_region_held3 (fun W => W.cell? ⟨w.heap.size, 0, none⟩ = some (.bool i.neg) ∧ W.cell? ⟨w.heap.size, 1, none⟩ = some (.slice i.A i.k i.c)) (go_keep)
  (first
   | (go_at_call 69; go_must (refine (zk4 (i := i) (z := z) (n := n) (by first | exact Hi.out.now | exact Hi.out.drew.now) hn).mono ?_; rintro e w1 ⟨A1, c1, rfl, hc1, hr1, hb1, hf1⟩; have hgl := HBr.out.lt; replace HBa := zmZ (Blk.below (by exact HBa.out) hb1 (by exact HBa.out.lt)); obtain ⟨sw1HBa0, sw1HBa1⟩ := Blk.c2 HBa.out; replace HBr := zmZ (Blk.below (by exact HBr.out) hb1 (by exact HBr.out.lt)); obtain ⟨sw1HBr0, sw1HBr1⟩ := Blk.c2 HBr.out; obtain ⟨fw1HBr0, fw1HBr1⟩ := Blk.f2 HBr.out; replace Hi := zmZ (Rests.below (φ := IntD i z n) (by first | exact Hi.out | exact Hi.out.drew) hb1); replace Hbel := zmZ (Below.after (by first | exact Hbel.out | exact Below.drew Hbel.out) hb1); have Hr1 := zmZ (za7 (F := (w.heap.size + 1 + 1 ≤ ·)) hr1 (fun k hk => Nat.le_trans hgl (hf1 k hk))); have Hc1 := zmZ hc1; clear hr1 hc1 hf1 hgl; clear hb1))
   | (go_at_call 124; go_must (refine (za9 _ _ _ _ _).mono ?_; rintro e w2 ⟨rfl, hb2⟩; replace HBa := zmZ (Blk.below (by exact HBa.out) hb2 (by exact HBa.out.lt)); obtain ⟨sw2HBa0, sw2HBa1⟩ := Blk.c2 HBa.out; replace HBr := zmZ (Blk.below (by exact HBr.out) hb2 (by exact HBr.out.lt)); obtain ⟨sw2HBr0, sw2HBr1⟩ := Blk.c2 HBr.out; obtain ⟨fw2HBr0, fw2HBr1⟩ := Blk.f2 HBr.out; replace Hi := zmZ (Rests.below (φ := IntD i z n) (by first | exact Hi.out | exact Hi.out.drew) hb2); replace Hr1 := zmZ (Rests.below (φ := fun W => Rd W .u64 A1 (digs B64 z.natAbs)) (by first | exact Hr1.out | exact Hr1.out.drew) hb2); replace Hbel := zmZ (Below.after (by first | exact Hbel.out | exact Below.drew Hbel.out) hb2); clear hb2)))
 all_goals
  go_wp2_with fail
  have hfin := zbb (z := z) (nb := i.neg && decide (0 < (digs B64 z.natAbs).length)) (g := w.heap.size + 1) (w2 := w2) Hbel.out (by omega) Hr1.out (fun _ hb => hb) Hc1.out (by omega) (Hs.out.1)
  obtain ⟨q0, q1⟩ := box2 HBr.out (.bool (i.neg && decide (0 < (digs B64 z.natAbs).length))) (.slice A1 (digs B64 (z.natAbs)).length c1)
  clear HBr Hbel Hr1 
  generalize ((w2.setCell ⟨w.heap.size + 1, 0, none⟩ (.bool (i.neg && decide (0 < (digs B64 z.natAbs).length)))).setCell ⟨w.heap.size + 1, 1, none⟩ (.slice A1 (digs B64 (z.natAbs)).length c1)) = W at *
  exact bodyPost_ret (v := .agg #[.bool (i.neg && decide (0 < (digs B64 z.natAbs).length)), .slice A1 (digs B64 (z.natAbs)).length c1]) (by simp [results, Tryz.results93, go_sem, q0, q1]) rfl hfin

set_option maxRecDepth 100000 in
theorem zfY (w : World) (i : IV) (z : Int) (n : Nat) (hn : n ≤ 900000000000) (h : IntD i z n w) :
 Calls Tryz.prog 148 #[iA i] w (RetZ (-z) w) := by
 have Hs := zmZ h.sgn
 obtain ⟨W0, hW0⟩ : ∃ W0, W0 = ((w.alloc (.cells #[.bool i.neg, .slice i.A i.k i.c] 39)).alloc (.cells #[.bool false, .slice none 0 0] 39)) := ⟨_, rfl⟩
 obtain ⟨p0, p1, pb⟩ := lay2 hW0
 have HBa := zmZ p0
 have HBr := zmZ p1
 have Hbel := zmZ pb
 have Hi := zmZ (Rests.al2 (h.old) hW0)
 clear p0 p1 pb
 subst hW0
 have ne01 : w.heap.size ≠ w.heap.size + 1 := by omega
 have ne10 : w.heap.size + 1 ≠ w.heap.size := by omega
 clear h
 unfold iA
 go_enter Tryz.func148, Tryz.ntmps148
 go_wp2_with fail
 go_region_held3 (fun W => W.cell? ⟨w.heap.size, 0, none⟩ = some (.bool i.neg) ∧ W.cell? ⟨w.heap.size, 1, none⟩ = some (.slice i.A i.k i.c)) (go_keep)
  (first
   | (go_at_call 69; go_must (refine (zk4 (i := i) (z := z) (n := n) (by first | exact Hi.out.now | exact Hi.out.drew.now) hn).mono ?_; rintro e w1 ⟨A1, c1, rfl, hc1, hr1, hb1, hf1⟩; have hgl := HBr.out.lt; replace HBa := zmZ (Blk.below (by exact HBa.out) hb1 (by exact HBa.out.lt)); obtain ⟨sw1HBa0, sw1HBa1⟩ := Blk.c2 HBa.out; replace HBr := zmZ (Blk.below (by exact HBr.out) hb1 (by exact HBr.out.lt)); obtain ⟨sw1HBr0, sw1HBr1⟩ := Blk.c2 HBr.out; obtain ⟨fw1HBr0, fw1HBr1⟩ := Blk.f2 HBr.out; replace Hi := zmZ (Rests.below (φ := IntD i z n) (by first | exact Hi.out | exact Hi.out.drew) hb1); replace Hbel := zmZ (Below.after (by first | exact Hbel.out | exact Below.drew Hbel.out) hb1); have Hr1 := zmZ (za7 (F := (w.heap.size + 1 + 1 ≤ ·)) hr1 (fun k hk => Nat.le_trans hgl (hf1 k hk))); have Hc1 := zmZ hc1; clear hr1 hc1 hf1 hgl; clear hb1))
   | (go_at_call 124; go_must (refine (za9 _ _ _ _ _).mono ?_; rintro e w2 ⟨rfl, hb2⟩; replace HBa := zmZ (Blk.below (by exact HBa.out) hb2 (by exact HBa.out.lt)); obtain ⟨sw2HBa0, sw2HBa1⟩ := Blk.c2 HBa.out; replace HBr := zmZ (Blk.below (by exact HBr.out) hb2 (by exact HBr.out.lt)); obtain ⟨sw2HBr0, sw2HBr1⟩ := Blk.c2 HBr.out; obtain ⟨fw2HBr0, fw2HBr1⟩ := Blk.f2 HBr.out; replace Hi := zmZ (Rests.below (φ := IntD i z n) (by first | exact Hi.out | exact Hi.out.drew) hb2); replace Hr1 := zmZ (Rests.below (φ := fun W => Rd W .u64 A1 (digs B64 z.natAbs)) (by first | exact Hr1.out | exact Hr1.out.drew) hb2); replace Hbel := zmZ (Below.after (by first | exact Hbel.out | exact Below.drew Hbel.out) hb2); clear hb2)))
 all_goals
  go_wp2_with fail
  have hfin := zbb (z := -z) (nb := (!i.neg) && decide (0 < (digs B64 z.natAbs).length)) (g := w.heap.size + 1) (w2 := w2) Hbel.out (by omega) Hr1.out (fun _ hb => hb) Hc1.out (by omega) (Hs.out.2)
  obtain ⟨q0, q1⟩ := box2 HBr.out (.bool ((!i.neg) && decide (0 < (digs B64 z.natAbs).length))) (.slice A1 (digs B64 (z.natAbs)).length c1)
  clear HBr Hbel Hr1 
  generalize ((w2.setCell ⟨w.heap.size + 1, 0, none⟩ (.bool ((!i.neg) && decide (0 < (digs B64 z.natAbs).length)))).setCell ⟨w.heap.size + 1, 1, none⟩ (.slice A1 (digs B64 (z.natAbs)).length c1)) = W at *
  exact bodyPost_ret (v := .agg #[.bool ((!i.neg) && decide (0 < (digs B64 z.natAbs).length)), .slice A1 (digs B64 (z.natAbs)).length c1]) (by simp [results, Tryz.results148, go_sem, q0, q1]) rfl hfin


set_option maxRecDepth 100000 in
theorem zje (w : World) (i j : IV) (z y : Int) (n m : Nat) (hn : n ≤ 900000000000) (hm : m ≤ 900000000000) (h : IntD i z n w) (h' : IntD j y m w) (hT : Tz w) :
 Calls Tryz.prog 95 #[iA i, iA j] w (RetZ ((Nat.gcd z.natAbs y.natAbs : Int)) w) := by
 have Hs := zmZ (IntD.sgnMul h h')
 obtain ⟨W0, hW0⟩ : ∃ W0, W0 = (((w.alloc (.cells #[.bool i.neg, .slice i.A i.k i.c] 39)).alloc (.cells #[.bool j.neg, .slice j.A j.k j.c] 39)).alloc (.cells #[.bool false, .slice none 0 0] 39)) := ⟨_, rfl⟩
 obtain ⟨p0, p1, p2, pb⟩ := lay3 hW0
 have HBa := zmZ p0
 have HBb := zmZ p1
 have HBr := zmZ p2
 have Hbel := zmZ pb
 have Hi := zmZ (Rests.al3 (h.old) hW0)
 have Hj := zmZ (Rests.al3 (h'.old) hW0)
 have HT := zmZ (Rests.al3 (hT.old) hW0)
 clear p0 p1 p2 pb
 subst hW0
 have ne01 : w.heap.size ≠ w.heap.size + 1 := by omega
 have ne02 : w.heap.size ≠ w.heap.size + 1 + 1 := by omega
 have ne10 : w.heap.size + 1 ≠ w.heap.size := by omega
 have ne12 : w.heap.size + 1 ≠ w.heap.size + 1 + 1 := by omega
 have ne20 : w.heap.size + 1 + 1 ≠ w.heap.size := by omega
 have ne21 : w.heap.size + 1 + 1 ≠ w.heap.size + 1 := by omega
 clear h h' hT
 unfold iA
 go_enter Tryz.func95, Tryz.ntmps95
 go_wp2_with fail
 refine (zmY (i := i) (j := j) (z := z) (y := y) (n := n) (m := m) (by first | exact Hi.out.now | exact Hi.out.drew.now) (by first | exact Hj.out.now | exact Hj.out.drew.now) hn hm (by first | exact HT.out.now | exact HT.out.drew.now)).mono ?_
 rintro e w1 ⟨A1, c1, rfl, hc1, hr1, hb1, hf1⟩
 have hgl := HBr.out.lt
 replace HBa := zmZ (Blk.below (by exact HBa.out) hb1 (by exact HBa.out.lt))
 obtain ⟨sw1HBa0, sw1HBa1⟩ := Blk.c2 HBa.out
 replace HBb := zmZ (Blk.below (by exact HBb.out) hb1 (by exact HBb.out.lt))
 obtain ⟨sw1HBb0, sw1HBb1⟩ := Blk.c2 HBb.out
 replace HBr := zmZ (Blk.below (by exact HBr.out) hb1 (by exact HBr.out.lt))
 obtain ⟨sw1HBr0, sw1HBr1⟩ := Blk.c2 HBr.out
 obtain ⟨fw1HBr0, fw1HBr1⟩ := Blk.f2 HBr.out
 replace Hi := zmZ (Rests.below (φ := IntD i z n) (by first | exact Hi.out | exact Hi.out.drew) hb1)
 replace Hj := zmZ (Rests.below (φ := IntD j y m) (by first | exact Hj.out | exact Hj.out.drew) hb1)
 replace HT := zmZ (Rests.below (φ := Tz) (by first | exact HT.out | exact HT.out.drew) hb1)
 replace Hbel := zmZ (Below.after (by first | exact Hbel.out | exact Below.drew Hbel.out) hb1)
 have Hr1 := zmZ (za7 (F := (w.heap.size + 1 + 1 + 1 ≤ ·)) hr1 (fun k hk => Nat.le_trans hgl (hf1 k hk)))
 have Hc1 := zmZ hc1
 clear hr1 hc1 hf1 hgl
 clear hb1
 go_wp2_with fail
 refine (za9 _ _ _ _ _).mono ?_
 rintro e w2 ⟨rfl, hb2⟩
 replace HBa := zmZ (Blk.below (by exact HBa.out) hb2 (by exact HBa.out.lt))
 obtain ⟨sw2HBa0, sw2HBa1⟩ := Blk.c2 HBa.out
 replace HBb := zmZ (Blk.below (by exact HBb.out) hb2 (by exact HBb.out.lt))
 obtain ⟨sw2HBb0, sw2HBb1⟩ := Blk.c2 HBb.out
 replace HBr := zmZ (Blk.below (by exact HBr.out) hb2 (by exact HBr.out.lt))
 obtain ⟨sw2HBr0, sw2HBr1⟩ := Blk.c2 HBr.out
 obtain ⟨fw2HBr0, fw2HBr1⟩ := Blk.f2 HBr.out
 replace Hi := zmZ (Rests.below (φ := IntD i z n) (by first | exact Hi.out | exact Hi.out.drew) hb2)
 replace Hj := zmZ (Rests.below (φ := IntD j y m) (by first | exact Hj.out | exact Hj.out.drew) hb2)
 replace HT := zmZ (Rests.below (φ := Tz) (by first | exact HT.out | exact HT.out.drew) hb2)
 replace Hr1 := zmZ (Rests.below (φ := fun W => Rd W .u64 A1 (digs B64 (Nat.gcd z.natAbs y.natAbs))) (by first | exact Hr1.out | exact Hr1.out.drew) hb2)
 replace Hbel := zmZ (Below.after (by first | exact Hbel.out | exact Below.drew Hbel.out) hb2)
 clear hb2
 all_goals
  go_wp2_with fail
  have hfin := zbb (z := (Nat.gcd z.natAbs y.natAbs : Int)) (nb := false) (g := w.heap.size + 1 + 1) (w2 := w2) Hbel.out (by omega) Hr1.out (fun _ hb => hb) Hc1.out (by simp) (by simp)
  obtain ⟨q0, q1⟩ := box2 HBr.out (.bool (false)) (.slice A1 (digs B64 (Nat.gcd z.natAbs y.natAbs)).length c1)
  clear HBr Hbel Hr1 
  generalize ((w2.setCell ⟨w.heap.size + 1 + 1, 0, none⟩ (.bool (false))).setCell ⟨w.heap.size + 1 + 1, 1, none⟩ (.slice A1 (digs B64 (Nat.gcd z.natAbs y.natAbs)).length c1)) = W at *
  exact bodyPost_ret (v := .agg #[.bool (false), .slice A1 (digs B64 (Nat.gcd z.natAbs y.natAbs)).length c1]) (by simp [results, Tryz.results95, go_sem, q0, q1]) rfl hfin
end Go.Proofs.YtikmgoefjbhcjaaGreatDoor
