/-
  Plain laws of fractions: the order by the sign of a difference; ends; the whole numbers next to a fraction. ratio: Ceil.
-/
import Derived.Test.YtcinoicpibleoaaGreatDoorQC
import Derived.Deep.DeepMust
import Derived.Deep.DeepCutAuto
namespace Go.Proofs.YtcinoicpibleoaaGreatDoor

/-- a fraction's sign -/
def sg (q : Rat) : Int := q.num.sign
theorem cmp_sg (a b : Rat) : cmpQ a b = sg (a - b) := by
  have ha : 0 < (a.den : Int) := Int.natCast_pos.2 a.den_pos
  have hb : 0 < (b.den : Int) := Int.natCast_pos.2 b.den_pos
  have e : a - b = Rat.divInt (a.num * b.den - b.num * a.den) (a.den * b.den) := by
    have := Rat.divInt_sub_divInt a.num b.num (d₁ := a.den) (d₂ := b.den) (by omega) (by omega)
    rw [Rat.num_divInt_den, Rat.num_divInt_den] at this
    exact this
  rw [cmpQ_num, cmpZ_sign]
  exact (num_sign (Int.mul_pos ha hb) e).symm
/-- the least whole number that is not below a -/
def ceilQ (a : Rat) : Int := -((-a).floor)
end Go.Proofs.YtcinoicpibleoaaGreatDoor
namespace Go.Proofs.YtcinoicpibleoaaGreatDoor
open Go.RowKit



/-- two numbers in boxes at g -/
structure C4 (W : World) (g : Nat) (p e : IV) : Prop where
  out : W.cell? ⟨g, 0, none⟩ = some (.bool p.neg) ∧ W.cell? ⟨g, 1, none⟩ = some (.slice p.A p.k p.c) ∧ W.cell? ⟨g + 1, 0, none⟩ = some (.bool e.neg) ∧ W.cell? ⟨g + 1, 1, none⟩ = some (.slice e.A e.k e.c)
theorem C4.drew {W : World} {g : Nat} {p e : IV} (h : C4 W g p e) : C4 W.drew g p e := ⟨h.out⟩
theorem C4.alloc {W : World} {g : Nat} {p e : IV} (h : C4 W g p e) (o : Obj) : C4 (W.alloc o) g p e :=
  ⟨(World.cell?_alloc_lt W o _ (World.block_lt_of_cell? W _ h.out.1)).trans h.out.1, (World.cell?_alloc_lt W o _ (World.block_lt_of_cell? W _ h.out.2.1)).trans h.out.2.1, (World.cell?_alloc_lt W o _ (World.block_lt_of_cell? W _ h.out.2.2.1)).trans h.out.2.2.1, (World.cell?_alloc_lt W o _ (World.block_lt_of_cell? W _ h.out.2.2.2)).trans h.out.2.2.2⟩
theorem C4.set {W : World} {g G : Nat} {p e : IV} (h : C4 W g p e) (h1 : G ≠ g) (h2 : G ≠ g + 1) (i : Nat) (v : Value) : C4 (W.setCell ⟨G, i, none⟩ v) g p e := by
  have e1 : ∀ j, (⟨G, i, none⟩ : Addr) ≠ ⟨g, j, none⟩ := fun j e => h1 (by injection e)
  have e2 : ∀ j, (⟨G, i, none⟩ : Addr) ≠ ⟨g + 1, j, none⟩ := fun j e => h2 (by injection e)
  refine ⟨?_, ?_, ?_, ?_⟩
  · rw [World.cell?_setCell_other _ _ _ _ (e1 0)]; exact h.out.1
  · rw [World.cell?_setCell_other _ _ _ _ (e1 1)]; exact h.out.2.1
  · rw [World.cell?_setCell_other _ _ _ _ (e2 0)]; exact h.out.2.2.1
  · rw [World.cell?_setCell_other _ _ _ _ (e2 1)]; exact h.out.2.2.2
/-- ahead of Ceil's division: two numbers in boxes at g, the result's box -/
structure CSt (w W : World) (g : Nat) (p e : IV) (x d : Int) (n : Nat) : Prop where
  bp : Blk W g 29 #[.bool p.neg, .slice p.A p.k p.c]
  be : Blk W (g + 1) 29 #[.bool e.neg, .slice e.A e.k e.c]
  br : Blk W (w.heap.size + 1) 29 #[.bool false, .slice none 0 0]
  hp : IntD p x n W
  he : IntD e d n W
  bel : Below w.heap.size w W
section
variable {w W W' : World} {g : Nat} {p e : IV} {x d : Int} {n : Nat}
theorem CSt.below (h : CSt w W g p e x d n) (hb : Below W.heap.size W W') : CSt w W' g p e x d n :=
  ⟨h.bp.below hb h.bp.lt, h.be.below hb h.be.lt, h.br.below hb h.br.lt, (h.hp.old.below hb).now, (h.he.old.below hb).now, Below.after h.bel hb⟩
theorem CSt.drew (h : CSt w W g p e x d n) : CSt w W.drew g p e x d n := ⟨h.bp, h.be, h.br, h.hp.old.drew.now, h.he.old.drew.now, h.bel.drew⟩
theorem CSt.alloc (h : CSt w W g p e x d n) (o : Obj) : CSt w (W.alloc o) g p e x d n := ⟨h.bp.alloc o, h.be.alloc o, h.br.alloc o, (h.hp.old.alloc o).now, (h.he.old.alloc o).now, h.bel.alloc h.bel.size o⟩
theorem CSt.cells (h : CSt w W g p e x d n) : W.cell? ⟨g, 0, none⟩ = some (.bool p.neg) ∧ W.cell? ⟨g, 1, none⟩ = some (.slice p.A p.k p.c) ∧ W.cell? ⟨g + 1, 0, none⟩ = some (.bool e.neg) ∧ W.cell? ⟨g + 1, 1, none⟩ = some (.slice e.A e.k e.c) :=
  ⟨h.bp.cell 0, h.bp.cell 1, h.be.cell 0, h.be.cell 1⟩
theorem CSt.c4 (h : CSt w W g p e x d n) : C4 W g p e := ⟨h.cells⟩
end
/-- behind Ceil's division -/
structure CeilSt (w wx : World) (g : Nat) (k : IV) (z : Int) : Prop where
  bk : Blk wx g 29 #[.bool k.neg, .slice k.A k.k k.c]
  br : Blk wx (w.heap.size + 1) 29 #[.bool false, .slice none 0 0]
  hk : IntN k z wx
  bel : Below w.heap.size w wx

theorem Blk.set2 {W : World} {g : Nat} {t : TypeId} {x y : Value} (h : Blk W g t #[x, y]) (a b : Value) : Blk ((W.setCell ⟨g, 0, none⟩ a).setCell ⟨g, 1, none⟩ b) g t #[a, b] := (h.set_ 0 a).set_ 1 b
theorem Blk.new1 (X : World) (o : Obj) (t : TypeId) (cs : Array Value) : Blk ((X.alloc o).alloc (.cells cs t)) (X.heap.size + 1) t cs := by
  have := Blk.new (X.alloc o) t cs
  simpa using this
theorem Blk.newS (X : World) (p q : Addr) (u v : Value) (t : TypeId) (cs : Array Value) : Blk (((X.setCell p u).setCell q v).alloc (.cells cs t)) X.heap.size t cs := by
  have := Blk.new ((X.setCell p u).setCell q v) t cs
  simpa using this
theorem rest_b {X W : World} {φ : World → Prop} (h : Rests W (X.heap.size ≤ ·) φ) : ∃ B, B = X.heap.size ∧ Rests W (B ≤ ·) φ := ⟨_, rfl, h⟩
theorem z1 {X W' : World} (hb : Below (X.alloc (.cells #[.bool false, .slice none 0 0] 29)).heap.size (X.alloc (.cells #[.bool false, .slice none 0 0] 29)) W') : Blk W' X.heap.size 29 #[.bool false, .slice none 0 0] := (Blk.new X _ _).below hb (by simp)
theorem z1d {X W' : World} (hb : Below (X.alloc (.cells #[.bool false, .slice none 0 0] 29)).drew.heap.size (X.alloc (.cells #[.bool false, .slice none 0 0] 29)).drew W') : Blk W' X.heap.size 29 #[.bool false, .slice none 0 0] := (Blk.new X _ _).drew.below hb (by simp)
theorem z2 {X W' : World} (hb : Below ((X.alloc (.cells #[.bool false, .slice none 0 0] 29)).alloc (.cells #[.bool false, .slice none 0 0] 29)).heap.size ((X.alloc (.cells #[.bool false, .slice none 0 0] 29)).alloc (.cells #[.bool false, .slice none 0 0] 29)) W') : Blk W' X.heap.size 29 #[.bool false, .slice none 0 0] ∧ Blk W' (X.heap.size + 1) 29 #[.bool false, .slice none 0 0] :=
  ⟨((Blk.new X _ _).alloc _).below hb (by simp; omega), by have := (Blk.new (X.alloc (.cells #[.bool false, .slice none 0 0] 29)) 29 #[.bool false, .slice none 0 0]).below hb (by simp); simpa using this⟩
theorem z2d {X W' : World} (hb : Below ((X.alloc (.cells #[.bool false, .slice none 0 0] 29)).alloc (.cells #[.bool false, .slice none 0 0] 29)).drew.heap.size ((X.alloc (.cells #[.bool false, .slice none 0 0] 29)).alloc (.cells #[.bool false, .slice none 0 0] 29)).drew W') : Blk W' X.heap.size 29 #[.bool false, .slice none 0 0] ∧ Blk W' (X.heap.size + 1) 29 #[.bool false, .slice none 0 0] :=
  ⟨((Blk.new X _ _).alloc _).drew.below hb (by simp; omega), by have := (Blk.new (X.alloc (.cells #[.bool false, .slice none 0 0] 29)) 29 #[.bool false, .slice none 0 0]).drew.below hb (by simp); simpa using this⟩

set_option maxRecDepth 100000 in
set_option maxHeartbeats 4000000 in
theorem rceil_any (w : World) (r : RV) (a : Rat) (n : Nat) (hn : n ≤ 400000000000) (h1n : 1 ≤ n) (h : RatD r a n w) :
    Calls Tryz.prog 46 #[.agg #[.bool r.num.neg, .slice r.num.A r.num.k r.num.c, .bool r.den.neg, .slice r.den.A r.den.k r.den.c]] w (RetZ (ceilQ a) w) := by
  obtain ⟨x, d, hx, hd, hq⟩ := h.ex
  have Hqq := Lib.hid (show (-a).floor = -(paN r x d) / paD r d from floor_eq (paD_pos r d) (by rw [hq.trans (pa_eq r x d).symm, Rat.neg_divInt]))
  have Hne := Lib.hid (show paD r d ≠ 0 from by have := paD_pos r d; omega)
  obtain ⟨W0, hW0⟩ : ∃ W0, W0 = ((w.alloc (.cells #[.bool r.num.neg, .slice r.num.A r.num.k r.num.c, .bool r.den.neg, .slice r.den.A r.den.k r.den.c] 31)).alloc (.cells #[.bool false, .slice none 0 0] 29)) := ⟨_, rfl⟩
  obtain ⟨p0, p1, pb⟩ := lay2 hW0
  have HBa := Lib.hid p0
  have HBr := Lib.hid p1
  have Hbel := Lib.hid pb
  have Hx := Lib.hid (Rests.al2 (hx.old) hW0)
  have Hd := Lib.hid (Rests.al2 (hd.old) hW0)
  clear p0 p1 pb
  subst hW0
  have ne01 : w.heap.size ≠ w.heap.size + 1 := by omega
  have ne10 : w.heap.size + 1 ≠ w.heap.size := by omega
  clear h hx hd hq
  go_enter Tryz.func46, Tryz.ntmps46
  go_wp2_with fail
  refine (parts_any _ r x d n (· < w.heap.size) (fun b hb => Nat.lt_of_lt_of_le hb Hbel.out.size) (by omega) h1n Hx.out Hd.out).mono ?_
  rintro e w1 ⟨p1, e1, rfl, hp, he, hbw1⟩
  replace HBr := Lib.hid (Blk.below (by exact HBr.out) hbw1 (by exact HBr.out.lt))
  obtain ⟨sw1HBr0, sw1HBr1⟩ := Blk.c2 HBr.out
  obtain ⟨fw1HBr0, fw1HBr1⟩ := Blk.f2 HBr.out
  replace Hbel := Lib.hid (Below.after (by first | exact Hbel.out | exact Below.drew Hbel.out) hbw1)
  have Hp1 := Lib.hid hp
  have He1 := Lib.hid he
  have HLp1 := Lib.hid hp.now.lt
  have HLe1 := Lib.hid he.now.lt
  clear hp he
  clear hbw1
  have lr1 : w.heap.size + 1 < w1.heap.size := HBr.out.lt
  have nr10 : w.heap.size + 1 ≠ w1.heap.size := by omega
  have nr11 : w1.heap.size ≠ w.heap.size + 1 := by omega
  have nr12 : w.heap.size + 1 ≠ w1.heap.size + 1 := by omega
  have nr13 : w1.heap.size + 1 ≠ w.heap.size + 1 := by omega
  have nr14 : w.heap.size ≠ w1.heap.size := by omega
  have nr15 : w1.heap.size ≠ w.heap.size := by omega
  replace HBr := Lib.hid ((HBr.out.alloc (.cells #[.bool p1.neg, .slice p1.A p1.k p1.c] 29)).alloc (.cells #[.bool e1.neg, .slice e1.A e1.k e1.c] 29))
  replace Hp1 := Lib.hid ((Hp1.out.alloc (.cells #[.bool p1.neg, .slice p1.A p1.k p1.c] 29)).alloc (.cells #[.bool e1.neg, .slice e1.A e1.k e1.c] 29))
  replace He1 := Lib.hid ((He1.out.alloc (.cells #[.bool p1.neg, .slice p1.A p1.k p1.c] 29)).alloc (.cells #[.bool e1.neg, .slice e1.A e1.k e1.c] 29))
  replace Hbel := Lib.hid ((Hbel.out.alloc Hbel.out.size (.cells #[.bool p1.neg, .slice p1.A p1.k p1.c] 29)).alloc (Nat.le_trans Hbel.out.size (by simp)) (.cells #[.bool e1.neg, .slice e1.A e1.k e1.c] 29))
  have HP1 := Lib.hid ((Blk.new w1 29 #[.bool p1.neg, .slice p1.A p1.k p1.c]).alloc (.cells #[.bool e1.neg, .slice e1.A e1.k e1.c] 29))
  have HE1 := Lib.hid (by have := Blk.new (w1.alloc (.cells #[.bool p1.neg, .slice p1.A p1.k p1.c] 29)) 29 #[.bool e1.neg, .slice e1.A e1.k e1.c]; simpa using this : Blk ((w1.alloc (.cells #[.bool p1.neg, .slice p1.A p1.k p1.c] 29)).alloc (.cells #[.bool e1.neg, .slice e1.A e1.k e1.c] 29)) (w1.heap.size + 1) 29 #[.bool e1.neg, .slice e1.A e1.k e1.c])
  have y1HBr0 : World.cell? _ ⟨w.heap.size + 1, 0, none⟩ = some (.bool false) := HBr.out.cell 0
  have y1HBr1 : World.cell? _ ⟨w.heap.size + 1, 1, none⟩ = some (.slice none 0 0) := HBr.out.cell 1
  have y1HP10 : World.cell? _ ⟨w1.heap.size, 0, none⟩ = some (.bool p1.neg) := HP1.out.cell 0
  have y1HP11 : World.cell? _ ⟨w1.heap.size, 1, none⟩ = some (.slice p1.A p1.k p1.c) := HP1.out.cell 1
  have y1HE10 : World.cell? _ ⟨w1.heap.size + 1, 0, none⟩ = some (.bool e1.neg) := HE1.out.cell 0
  have y1HE11 : World.cell? _ ⟨w1.heap.size + 1, 1, none⟩ = some (.slice e1.A e1.k e1.c) := HE1.out.cell 1
  have HL := Lib.hid (show CSt w ((w1.alloc (.cells #[.bool p1.neg, .slice p1.A p1.k p1.c] 29)).alloc (.cells #[.bool e1.neg, .slice e1.A e1.k e1.c] 29)) w1.heap.size p1 e1 (paN r x d) (paD r d) n from ⟨HP1.out, HE1.out, HBr.out, Hp1.out.now, He1.out.now, Hbel.out⟩)
  clear HP1 HE1 HBr Hp1 He1 Hbel
  go_upto_region 2 with fail
  go_cut [5] (fun v wx => ∃ g k, v = .pointer (some ⟨g, 0, none⟩) ∧ CeilSt w wx g k (-(paN r x d) / paD r d))
  case first =>
    first
    | (go_region_held3 (fun W => W.cell? ⟨w1.heap.size, 0, none⟩ = some (.bool p1.neg) ∧ W.cell? ⟨w1.heap.size, 1, none⟩ = some (.slice p1.A p1.k p1.c) ∧ W.cell? ⟨w1.heap.size + 1, 0, none⟩ = some (.bool e1.neg) ∧ W.cell? ⟨w1.heap.size + 1, 1, none⟩ = some (.slice e1.A e1.k e1.c)) (exact (C4.out (by repeat (first | (with_reducible exact HL.out.c4) | (with_reducible exact hHeld) | (with_reducible apply C4.drew) | (with_reducible refine C4.alloc ?_ _) | (with_reducible refine C4.set ?_ (by first | assumption | omega) (by first | assumption | omega) _ _)))))
        (first
          | (go_at_call 83; go_must (refine (wneg_any _ p1 (paN r x d) n (by omega) (CSt.hp (w := w) (g := w1.heap.size) (p := p1) (e := e1) (x := paN r x d) (d := paD r d) (n := n) (by repeat (first | (with_reducible exact HL.out) | (with_reducible apply CSt.drew) | (with_reducible refine CSt.alloc ?_ _))))).mono ?_; rintro e w3 ⟨k1, rfl, hk1, hb3⟩; replace HL := Lib.hid (CSt.below (w := w) (g := w1.heap.size) (p := p1) (e := e1) (x := paN r x d) (d := paD r d) (n := n) (by repeat (first | (with_reducible exact HL.out) | (with_reducible apply CSt.drew) | (with_reducible refine CSt.alloc ?_ _))) hb3); obtain ⟨c0, c1, c2, c3⟩ := HL.out.cells; have Hk1 := Lib.hid hk1.now.old; clear hk1; (first | (obtain ⟨y1, y2⟩ := z2 hb3; (try simp only [World.size_alloc] at y1); have Z1 := Lib.hid y1; clear y1; obtain ⟨cZ10, cZ11⟩ := Blk.c2 Z1.out; obtain ⟨fZ10, fZ11⟩ := Blk.f2 Z1.out; have lZ1 := Z1.out.lt; (try simp only [World.size_alloc] at y2); have Z2 := Lib.hid y2; clear y2; obtain ⟨cZ20, cZ21⟩ := Blk.c2 Z2.out; obtain ⟨fZ20, fZ21⟩ := Blk.f2 Z2.out; have lZ2 := Z2.out.lt) | (obtain ⟨y1, y2⟩ := z2d hb3; (try simp only [World.size_alloc] at y1); have Z1 := Lib.hid y1; clear y1; obtain ⟨cZ10, cZ11⟩ := Blk.c2 Z1.out; obtain ⟨fZ10, fZ11⟩ := Blk.f2 Z1.out; have lZ1 := Z1.out.lt; (try simp only [World.size_alloc] at y2); have Z2 := Lib.hid y2; clear y2; obtain ⟨cZ20, cZ21⟩ := Blk.c2 Z2.out; obtain ⟨fZ20, fZ21⟩ := Blk.f2 Z2.out; have lZ2 := Z2.out.lt) | (have y1 := z1 hb3; (try simp only [World.size_alloc] at y1); have Z1 := Lib.hid y1; clear y1; obtain ⟨cZ10, cZ11⟩ := Blk.c2 Z1.out; obtain ⟨fZ10, fZ11⟩ := Blk.f2 Z1.out; have lZ1 := Z1.out.lt) | (have y1 := z1d hb3; (try simp only [World.size_alloc] at y1); have Z1 := Lib.hid y1; clear y1; obtain ⟨cZ10, cZ11⟩ := Blk.c2 Z1.out; obtain ⟨fZ10, fZ11⟩ := Blk.f2 Z1.out; have lZ1 := Z1.out.lt) | skip); have nw30 : w3.heap.size ≠ w1.heap.size := (by have h1 := HL.out.be.lt; have h2 := HL.out.br.lt; omega); have nw31 : w3.heap.size ≠ w1.heap.size + 1 := (by have h1 := HL.out.be.lt; have h2 := HL.out.br.lt; omega); have nw32 : w3.heap.size + 1 ≠ w1.heap.size := (by have h1 := HL.out.be.lt; have h2 := HL.out.br.lt; omega); have nw33 : w3.heap.size + 1 ≠ w1.heap.size + 1 := (by have h1 := HL.out.be.lt; have h2 := HL.out.br.lt; omega); have nw34 : w1.heap.size ≠ w3.heap.size := (by have h1 := HL.out.be.lt; have h2 := HL.out.br.lt; omega); have nw35 : w1.heap.size + 1 ≠ w3.heap.size := (by have h1 := HL.out.be.lt; have h2 := HL.out.br.lt; omega); have nw36 : w1.heap.size ≠ w3.heap.size + 1 := (by have h1 := HL.out.be.lt; have h2 := HL.out.br.lt; omega); have nw37 : w1.heap.size + 1 ≠ w3.heap.size + 1 := (by have h1 := HL.out.be.lt; have h2 := HL.out.br.lt; omega); have lt3 : w1.heap.size + 1 < w3.heap.size := HL.out.be.lt; clear hb3))
          | (go_at_call 88; go_must (refine (wdivMod_any _ k1 e1 (-(paN r x d)) (paD r d) n n (by omega) (by omega) (IntN.ofLt (Rests.now (F := (· < w3.heap.size)) (φ := IntN k1 (-(paN r x d))) (by repeat (first | (with_reducible exact Hk1.out) | (with_reducible apply Rests.drew) | (with_reducible refine Rests.alloc ?_ _)))) (by rw [Int.natAbs_neg] <;> exact HLp1.out)) (CSt.he (w := w) (g := w1.heap.size) (p := p1) (e := e1) (x := paN r x d) (d := paD r d) (n := n) (by repeat (first | (with_reducible exact HL.out) | (with_reducible apply CSt.drew) | (with_reducible refine CSt.alloc ?_ _)))) Hne.out).mono ?_; rintro e w4 ⟨k, k2, rfl, hk, hk2, hb4⟩; replace HL := Lib.hid (CSt.below (w := w) (g := w1.heap.size) (p := p1) (e := e1) (x := paN r x d) (d := paD r d) (n := n) (by repeat (first | (with_reducible exact HL.out) | (with_reducible apply CSt.drew) | (with_reducible refine CSt.alloc ?_ _))) hb4); obtain ⟨c0, c1, c2, c3⟩ := HL.out.cells; obtain ⟨B, hB, hk'⟩ := rest_b hk; (try simp only [World.size_alloc] at hB); have HB := Lib.hid hB; have Hk := Lib.hid hk'; clear hk hk' hB hk2; (first | (have y9 := Blk.below (g := w1.heap.size + 1 + 1) (t := 29) (cs := #[.bool false, .slice none 0 0]) (Z1.out) hb4 (Z1.out).lt; replace Z1 := Lib.hid y9; clear y9; obtain ⟨cZ10, cZ11⟩ := Blk.c2 Z1.out; obtain ⟨fZ10, fZ11⟩ := Blk.f2 Z1.out; have lZ1 := Z1.out.lt) | (have y9 := Blk.below (g := w1.heap.size + 1 + 1) (t := 29) (cs := #[.bool false, .slice none 0 0]) (Z1.out.alloc _) hb4 (Z1.out.alloc _).lt; replace Z1 := Lib.hid y9; clear y9; obtain ⟨cZ10, cZ11⟩ := Blk.c2 Z1.out; obtain ⟨fZ10, fZ11⟩ := Blk.f2 Z1.out; have lZ1 := Z1.out.lt) | (have y9 := Blk.below (g := w1.heap.size + 1 + 1) (t := 29) (cs := #[.bool false, .slice none 0 0]) ((Z1.out.alloc _).alloc _) hb4 ((Z1.out.alloc _).alloc _).lt; replace Z1 := Lib.hid y9; clear y9; obtain ⟨cZ10, cZ11⟩ := Blk.c2 Z1.out; obtain ⟨fZ10, fZ11⟩ := Blk.f2 Z1.out; have lZ1 := Z1.out.lt) | skip); (first | (have y9 := Blk.below (g := w1.heap.size + 1 + 1 + 1) (t := 29) (cs := #[.bool false, .slice none 0 0]) (Z2.out) hb4 (Z2.out).lt; replace Z2 := Lib.hid y9; clear y9; obtain ⟨cZ20, cZ21⟩ := Blk.c2 Z2.out; obtain ⟨fZ20, fZ21⟩ := Blk.f2 Z2.out; have lZ2 := Z2.out.lt) | (have y9 := Blk.below (g := w1.heap.size + 1 + 1 + 1) (t := 29) (cs := #[.bool false, .slice none 0 0]) (Z2.out.alloc _) hb4 (Z2.out.alloc _).lt; replace Z2 := Lib.hid y9; clear y9; obtain ⟨cZ20, cZ21⟩ := Blk.c2 Z2.out; obtain ⟨fZ20, fZ21⟩ := Blk.f2 Z2.out; have lZ2 := Z2.out.lt) | (have y9 := Blk.below (g := w1.heap.size + 1 + 1 + 1) (t := 29) (cs := #[.bool false, .slice none 0 0]) ((Z2.out.alloc _).alloc _) hb4 ((Z2.out.alloc _).alloc _).lt; replace Z2 := Lib.hid y9; clear y9; obtain ⟨cZ20, cZ21⟩ := Blk.c2 Z2.out; obtain ⟨fZ20, fZ21⟩ := Blk.f2 Z2.out; have lZ2 := Z2.out.lt) | skip); (first | (obtain ⟨y1, y2⟩ := z2 hb4; (try simp only [World.size_alloc] at y1); have Z3 := Lib.hid y1; clear y1; obtain ⟨cZ30, cZ31⟩ := Blk.c2 Z3.out; obtain ⟨fZ30, fZ31⟩ := Blk.f2 Z3.out; have lZ3 := Z3.out.lt; (try simp only [World.size_alloc] at y2); have Z4 := Lib.hid y2; clear y2; obtain ⟨cZ40, cZ41⟩ := Blk.c2 Z4.out; obtain ⟨fZ40, fZ41⟩ := Blk.f2 Z4.out; have lZ4 := Z4.out.lt) | (obtain ⟨y1, y2⟩ := z2d hb4; (try simp only [World.size_alloc] at y1); have Z3 := Lib.hid y1; clear y1; obtain ⟨cZ30, cZ31⟩ := Blk.c2 Z3.out; obtain ⟨fZ30, fZ31⟩ := Blk.f2 Z3.out; have lZ3 := Z3.out.lt; (try simp only [World.size_alloc] at y2); have Z4 := Lib.hid y2; clear y2; obtain ⟨cZ40, cZ41⟩ := Blk.c2 Z4.out; obtain ⟨fZ40, fZ41⟩ := Blk.f2 Z4.out; have lZ4 := Z4.out.lt) | (have y1 := z1 hb4; (try simp only [World.size_alloc] at y1); have Z3 := Lib.hid y1; clear y1; obtain ⟨cZ30, cZ31⟩ := Blk.c2 Z3.out; obtain ⟨fZ30, fZ31⟩ := Blk.f2 Z3.out; have lZ3 := Z3.out.lt) | (have y1 := z1d hb4; (try simp only [World.size_alloc] at y1); have Z3 := Lib.hid y1; clear y1; obtain ⟨cZ30, cZ31⟩ := Blk.c2 Z3.out; obtain ⟨fZ30, fZ31⟩ := Blk.f2 Z3.out; have lZ3 := Z3.out.lt) | skip); have nw40 : w4.heap.size ≠ w1.heap.size := (by have h1 := HL.out.be.lt; have h2 := HL.out.br.lt; omega); have nw41 : w4.heap.size ≠ w1.heap.size + 1 := (by have h1 := HL.out.be.lt; have h2 := HL.out.br.lt; omega); have nw42 : w4.heap.size + 1 ≠ w1.heap.size := (by have h1 := HL.out.be.lt; have h2 := HL.out.br.lt; omega); have nw43 : w4.heap.size + 1 ≠ w1.heap.size + 1 := (by have h1 := HL.out.be.lt; have h2 := HL.out.br.lt; omega); have nw44 : w1.heap.size ≠ w4.heap.size := (by have h1 := HL.out.be.lt; have h2 := HL.out.br.lt; omega); have nw45 : w1.heap.size + 1 ≠ w4.heap.size := (by have h1 := HL.out.be.lt; have h2 := HL.out.br.lt; omega); have nw46 : w1.heap.size ≠ w4.heap.size + 1 := (by have h1 := HL.out.be.lt; have h2 := HL.out.br.lt; omega); have nw47 : w1.heap.size + 1 ≠ w4.heap.size + 1 := (by have h1 := HL.out.be.lt; have h2 := HL.out.br.lt; omega); have lt4 : w1.heap.size + 1 < w4.heap.size := HL.out.be.lt; have ht4 : w3.heap.size ≤ w4.heap.size := (by have h1 := hb4.size; (try simp at h1); omega); clear hb4))))
    | fail
    all_goals
      go_wp2_with fail
      go_meet
      have hB := HB.out
      refine ⟨_, k, rfl, ⟨?_, ?_, ?_, ?_⟩⟩
      · repeat (first | (with_reducible exact Z1.out) | (with_reducible exact Z2.out) | (with_reducible exact Z3.out) | (with_reducible exact Z4.out) | (with_reducible exact HL.out.br) | (with_reducible exact Blk.new _ _ _) | (with_reducible exact Blk.new1 _ _ _ _) | (with_reducible refine Blk.set2 (x := .bool false) (y := .slice none 0 0) ?_ _ _) | (with_reducible exact Blk.newS _ _ _ _ _ _ _) | (with_reducible refine Blk.alloc ?_ _) | (refine Blk.far ?_ (by dsimp only; omega) _))
      · repeat (first | (with_reducible exact Z1.out) | (with_reducible exact Z2.out) | (with_reducible exact Z3.out) | (with_reducible exact Z4.out) | (with_reducible exact HL.out.br) | (with_reducible exact Blk.new _ _ _) | (with_reducible exact Blk.new1 _ _ _ _) | (with_reducible refine Blk.set2 (x := .bool false) (y := .slice none 0 0) ?_ _ _) | (with_reducible exact Blk.newS _ _ _ _ _ _ _) | (with_reducible refine Blk.alloc ?_ _) | (refine Blk.far ?_ (by dsimp only; omega) _))
      · refine Rests.now (F := (B ≤ ·)) (φ := IntN k (-(paN r x d) / paD r d)) ?_
        repeat (first | (with_reducible exact Hk.out) | (refine Rests.set ?_ (by dsimp only; omega) _) | (with_reducible refine Rests.alloc ?_ _))
      · repeat (first | (with_reducible exact HL.out.bel) | (refine Below.setCell ?_ (by dsimp only; omega) _) | (refine Below.alloc ?_ (by first | omega | (simp [World.setCell]; omega) | (simp; omega)) _))
  case rest =>
    obtain ⟨g5, k, rfl, hst⟩ := hcut
    have HBk := Lib.hid hst.bk; have HBr := Lib.hid hst.br; have Hk := Lib.hid hst.hk; have Hbel := Lib.hid hst.bel
    obtain ⟨k0, k1⟩ := Blk.c2 hst.bk
    obtain ⟨r0, r1⟩ := Blk.c2 hst.br
    obtain ⟨f0, f1⟩ := Blk.f2 hst.br
    clear hst
    go_wp2_with fail
    refine (wneg_any _ k (-(paN r x d) / paD r d) n (by omega) (IntN.ofLt Hk.out (quo_lt HLp1.out))).mono ?_
    rintro e w6 ⟨kn, rfl, hkn, hb6⟩
    have hgl := HBr.out.lt
    replace HBr := Lib.hid (Blk.below (by exact HBr.out) hb6 (by exact HBr.out.lt))
    obtain ⟨s0, s1⟩ := Blk.c2 HBr.out
    obtain ⟨t0, t1⟩ := Blk.f2 HBr.out
    replace Hbel := Lib.hid (Below.after (by exact Hbel.out) hb6)
    have Hkn := Lib.hid (hkn.mono (G := (w.heap.size + 1 + 1 ≤ ·)) (fun b hb => Nat.le_trans hgl hb))
    clear hkn hb6 hgl
    rw [← Hqq.out] at Hkn
    go_wp2_with fail
    have hfin : RetZ (ceilQ a) w (.returned (.agg #[.bool kn.neg, .slice kn.A kn.k kn.c])) ((w6.setCell ⟨w.heap.size + 1, 0, none⟩ (.bool kn.neg)).setCell ⟨w.heap.size + 1, 1, none⟩ (.slice kn.A kn.k kn.c)) := ret_boxK (g := w.heap.size + 1) Hbel.out (by omega) Hkn.out (fun _ h => h)
    obtain ⟨q0, q1⟩ := box2 HBr.out (.bool kn.neg) (.slice kn.A kn.k kn.c)
    clear HBr Hbel Hkn HBk
    generalize ((w6.setCell ⟨w.heap.size + 1, 0, none⟩ (.bool kn.neg)).setCell ⟨w.heap.size + 1, 1, none⟩ (.slice kn.A kn.k kn.c)) = W at *
    exact bodyPost_ret (v := .agg #[.bool kn.neg, .slice kn.A kn.k kn.c]) (by simp [results, Tryz.results46, go_sem, q0, q1]) rfl hfin
end Go.Proofs.YtcinoicpibleoaaGreatDoor
