/-
 tripwireref02: Norm, Neg. tripwireref02: Mul, Gcd. tripwireref02: Mul.
-/
import Derived.Test.YtikmgoefjbhcjaaGreatDoorRefE
import Derived.Test.YtikmgoefjbhcjaaGreatDoorRefG
import Derived.Test.YtikmgoefjbhcjaaGreatDoorWE
namespace Go.Proofs.YtikmgoefjbhcjaaGreatDoor
set_option maxHeartbeats 2000000
open Go.RowKit

theorem RetI.z {neg : Bool} {v : Nat} {w : World} {e : Ending} {w' : World} (h : RetI (sgn neg v) v w e w') : RetZ (iv neg v) w e w' := by
 obtain ⟨A, c, he, hc, hr, hb, hf⟩ := h
 have ha : (iv neg v).natAbs = v := za6 neg v
 refine ⟨⟨sgn neg v, A, (digs B64 v).length, c⟩, he, ?_, hb⟩
 have hs : sgn neg v = decide (iv neg v < 0) := by
  unfold sgn iv
  by_cases h0 : v = 0
  ·subst h0; cases neg <;> simp
  ·rw [if_neg h0]; cases neg <;> simp <;> omega
 have key : ∀ W : World, Rd W .u64 A (digs B64 v) → IntN ⟨sgn neg v, A, (digs B64 v).length, c⟩ (iv neg v) W := fun W hW => ⟨by rw [ha], hc, hs, by rw [ha]; exact hW⟩
 exact (za7 (F := (w.heap.size ≤ ·)) hr (fun i hi => hf i hi)).imp key
theorem zo8 (w : World) (neg : Bool) (A : Option Addr) (c : Nat) (l : List Nat) (hl : l.length ≤ 1000000) (ha : Rd w .u64 A l) (hx : ∀ x ∈ l, x < B64) :
 Calls Tryz.prog 159 #[.bool neg, .slice A l.length c] w (RetZ (iv neg (val B64 l)) w) := (zq3 w neg A c l hl ha hx).mono fun _ _ h => h.z
section
variable {w : World} {g : Nat} {a b u0 u1 : Value} {t : TypeId}
def put2 (w : World) (g : Nat) (a b : Value) : World := (w.setCell ⟨g, 0, none⟩ a).setCell ⟨g, 1, none⟩ b
theorem zom : (w.setCell ⟨g, 0, none⟩ a).setCell ⟨g, 1, none⟩ b = put2 w g a b := rfl
theorem zpb (H : Blk w g t #[u0, u1]) : Blk (put2 w g a b) g t #[a, b] := (H.set_ 0 a).set_ 1 b
theorem zoh (H : Blk w g t #[u0, u1]) : (put2 w g a b).cell? ⟨g, 0, none⟩ = some a := (zpb H).cell 0
theorem zoo (H : Blk w g t #[u0, u1]) : (put2 w g a b).cell? ⟨g, 1, none⟩ = some b := (zpb H).cell 1
theorem znY {w0 : World} {z : Int} {i : IV} (hb : Below w0.heap.size w0 w) (hg : w0.heap.size ≤ g) (hr : Rests w (g + 1 ≤ ·) (IntN i z)) : RetZ z w0 (.returned (.agg #[.bool i.neg, .slice i.A i.k i.c])) (put2 w g a b) := by
 have n1 : ¬ (g + 1 ≤ g) := by omega
 exact ⟨i, rfl, ((hr.set (a := ⟨g, 0, none⟩) n1 a).set (a := ⟨g, 1, none⟩) n1 b).mono (fun k hk => by show w0.heap.size ≤ k; have : g + 1 ≤ k := hk; omega), (hb.setCell (p := ⟨g, 0, none⟩) hg a).setCell (p := ⟨g, 1, none⟩) hg b⟩
end

set_option maxRecDepth 100000 in
theorem zn5 (w : World) (i : IV) (z : Int) (n : Nat) (hn : n ≤ 1000000) (h : IntD i z n w) :
 Calls Tryz.prog 163 #[iA i] w (RetZ z w) := by
 obtain ⟨l, hk, hr, hx, hz⟩ := h.ex
 have hle := h.le
 have hzz : z = iv i.neg (val B64 l) := hz.symm
 rw [hzz]
 obtain ⟨W0, hW0⟩ : ∃ W0, W0 = ((w.alloc (.cells #[.bool i.neg, .slice i.A i.k i.c] 39)).alloc (.cells #[.bool false, .slice none 0 0] 39)) := ⟨_, rfl⟩
 obtain ⟨p0, p1, pb⟩ := lay2 hW0
 have HBa := zmZ p0
 have HBr := zmZ p1
 have Hbel := zmZ pb
 have HM := zmZ (show Calls Tryz.prog 159 #[.bool i.neg, .slice i.A i.k i.c] W0 (RetZ (iv i.neg (val B64 l)) W0) from by
  rw [hk]
  exact zo8 W0 i.neg i.A i.c l (by omega) (hr.below pb (Nat.le_refl _)) hx)
 clear p0 p1 pb h hk hr hx hz hle hzz
 subst hW0
 obtain ⟨x0, x1⟩ := Blk.c2 HBa.out
 unfold iA
 go_enter Tryz.func163, Tryz.ntmps163
 go_wp2_with fail
 refine HM.out.mono ?_
 rintro e w1 ⟨j, rfl, hj, hb⟩
 have hgl := HBr.out.lt
 replace HBr := zmZ (HBr.out.below hb HBr.out.lt)
 replace Hbel := zmZ (Below.after Hbel.out hb)
 have Hj := zmZ (hj.mono (G := (w.heap.size + 1 + 1 ≤ ·)) (fun b hb' => Nat.le_trans hgl hb'))
 clear hj hb hgl HM x0 x1
 obtain ⟨y0, y1⟩ := Blk.c2 HBr.out
 obtain ⟨f0, f1⟩ := Blk.f2 HBr.out
 go_wp2_with fail
 rw [zom]
 exact bodyPost_ret (v := .agg #[.bool j.neg, .slice j.A j.k j.c]) (by simp [results, Tryz.results163, go_sem, zoh HBr.out, zoo HBr.out]) rfl (znY Hbel.out (Nat.le_succ _) Hj.out)

set_option maxRecDepth 100000 in
theorem zno (w : World) (i : IV) (z : Int) (n : Nat) (hn : n ≤ 1000000) (h : IntD i z n w) :
 Calls Tryz.prog 158 #[iA i] w (RetZ (-z) w) := by
 obtain ⟨l, hk, hr, hx, hz⟩ := h.ex
 have hle := h.le
 have hzz : (-z) = iv (!i.neg) (val B64 l) := by rw [← hz]; unfold iv; cases i.neg <;> simp
 rw [hzz]
 obtain ⟨W0, hW0⟩ : ∃ W0, W0 = ((w.alloc (.cells #[.bool i.neg, .slice i.A i.k i.c] 39)).alloc (.cells #[.bool false, .slice none 0 0] 39)) := ⟨_, rfl⟩
 obtain ⟨p0, p1, pb⟩ := lay2 hW0
 have HBa := zmZ p0
 have HBr := zmZ p1
 have Hbel := zmZ pb
 have HM := zmZ (show Calls Tryz.prog 159 #[.bool (!i.neg), .slice i.A i.k i.c] W0 (RetZ (iv (!i.neg) (val B64 l)) W0) from by
  rw [hk]
  exact zo8 W0 (!i.neg) i.A i.c l (by omega) (hr.below pb (Nat.le_refl _)) hx)
 clear p0 p1 pb h hk hr hx hz hle hzz
 subst hW0
 obtain ⟨x0, x1⟩ := Blk.c2 HBa.out
 unfold iA
 go_enter Tryz.func158, Tryz.ntmps158
 go_wp2_with fail
 refine HM.out.mono ?_
 rintro e w1 ⟨j, rfl, hj, hb⟩
 have hgl := HBr.out.lt
 replace HBr := zmZ (HBr.out.below hb HBr.out.lt)
 replace Hbel := zmZ (Below.after Hbel.out hb)
 have Hj := zmZ (hj.mono (G := (w.heap.size + 1 + 1 ≤ ·)) (fun b hb' => Nat.le_trans hgl hb'))
 clear hj hb hgl HM x0 x1
 obtain ⟨y0, y1⟩ := Blk.c2 HBr.out
 obtain ⟨f0, f1⟩ := Blk.f2 HBr.out
 go_wp2_with fail
 rw [zom]
 exact bodyPost_ret (v := .agg #[.bool j.neg, .slice j.A j.k j.c]) (by simp [results, Tryz.results158, go_sem, zoh HBr.out, zoo HBr.out]) rfl (znY Hbel.out (Nat.le_succ _) Hj.out)

theorem zrE (p q : Bool) (x y : Nat) : iv p x * iv q y = iv (p != q) (x * y) := by
 unfold iv
 cases p <;> cases q <;> simp [Int.neg_mul, Int.mul_neg]
theorem zqw {l m : List Nat} (hx : ∀ x ∈ l, x < B64) (hy : ∀ x ∈ m, x < B64) : (digs B64 (Nat.gcd (val B64 l) (val B64 m))).length ≤ l.length + m.length := by
 refine zcs (by decide) ?_
 have h1 := zd0 hx; have h2 := zd0 hy
 rw [Nat.pow_add]
 have p1 : 0 < B64 ^ l.length := Nat.pow_pos za0
 have p2 : 0 < B64 ^ m.length := Nat.pow_pos za0
 by_cases h0 : val B64 l = 0
 ·rw [h0, Nat.gcd_zero_left]
  exact Nat.lt_of_lt_of_le h2 (Nat.le_mul_of_pos_left _ p1)
 ·have := Nat.gcd_le_left (val B64 m) (Nat.pos_of_ne_zero h0)
  exact Nat.lt_of_lt_of_le (Nat.lt_of_le_of_lt this h1) (Nat.le_mul_of_pos_right _ p2)

set_option maxRecDepth 100000 in
theorem zoO (w : World) (i j : IV) (z y : Int) (n m0 : Nat) (hn : n ≤ 10000) (hm0 : m0 ≤ 10000) (h : IntD i z n w) (h2 : IntD j y m0 w) :
 Calls Tryz.prog 164 #[iA i, iA j] w (RetZ ((Nat.gcd z.natAbs y.natAbs : Nat) : Int) w) := by
 obtain ⟨l, hk, hr, hx, hz⟩ := h.ex
 obtain ⟨m, hk2, hr2, hx2, hy⟩ := h2.ex
 have hle := h.le
 have hle2 := h2.le
 have hzz : ((Nat.gcd z.natAbs y.natAbs : Nat) : Int) = iv false (Nat.gcd (val B64 l) (val B64 m)) := by rw [← hz, ← hy, za6, za6]; rfl
 have hlen : (digs B64 (Nat.gcd (val B64 l) (val B64 m))).length ≤ 1000000 := by
  have : (digs B64 (Nat.gcd (val B64 l) (val B64 m))).length ≤ l.length + m.length := zqw hx hx2
  omega
 rw [hzz]
 obtain ⟨W0, hW0⟩ : ∃ W0, W0 = (((w.alloc (.cells #[.bool i.neg, .slice i.A i.k i.c] 39)).alloc (.cells #[.bool j.neg, .slice j.A j.k j.c] 39)).alloc (.cells #[.bool false, .slice none 0 0] 39)) := ⟨_, rfl⟩
 obtain ⟨p0, p1, p2, pb⟩ := lay3 hW0
 have HBa := zmZ p0
 have HBb := zmZ p1
 have HBr := zmZ p2
 have Hbel := zmZ pb
 have HG := zmZ (show Calls Tryz.prog 205 #[.slice i.A i.k i.c, .slice j.A j.k j.c] W0 (RetL .u64 (digs B64 (Nat.gcd (val B64 l) (val B64 m))) W0) from by
  rw [hk, hk2]
  exact zpy W0 i.A j.A i.c j.c 10000 (by omega) l m (by omega) (by omega) (hr.below pb (Nat.le_refl _)) (hr2.below pb (Nat.le_refl _)) hx hx2)
 have Hlen := zmZ hlen
 have HV := zmZ (zag (by decide : 1 < B64) (Nat.gcd (val B64 l) (val B64 m)))
 have HX := zmZ (zaS (by decide : 1 < B64) (Nat.gcd (val B64 l) (val B64 m)))
 clear p0 p1 p2 pb h hk hr hx hz hle hzz h2 hk2 hr2 hx2 hy hle2 hlen
 subst hW0
 obtain ⟨x0, x1⟩ := Blk.c2 HBa.out
 obtain ⟨y0, y1⟩ := Blk.c2 HBb.out
 unfold iA
 go_enter Tryz.func164, Tryz.ntmps164
 go_wp2_with fail
 refine HG.out.mono ?_
 rintro e w1 ⟨A, c, rfl, hcp, hrd, hb, hf⟩
 have HM := zmZ (zo8 w1 false A c _ Hlen.out hrd HX.out)
 rw [HV.out] at HM
 have hga := HBa.out.lt; have hgb := HBb.out.lt; have hgr := HBr.out.lt
 replace HBa := zmZ (HBa.out.below hb hga)
 replace HBb := zmZ (HBb.out.below hb hgb)
 replace HBr := zmZ (HBr.out.below hb hgr)
 replace Hbel := zmZ (Below.after Hbel.out hb)
 have Hs := zmZ (Nat.le_trans hgr hb.size)
 clear hb hf hrd hcp hga hgb hgr HG x0 x1 y0 y1 HX HV Hlen
 obtain ⟨x0, x1⟩ := Blk.c2 HBa.out
 obtain ⟨y0, y1⟩ := Blk.c2 HBb.out
 go_wp2_with fail
 refine HM.out.mono ?_
 rintro e w2 ⟨k, rfl, hj, hb⟩
 have hgl := HBr.out.lt
 replace HBr := zmZ (HBr.out.below hb hgl)
 replace Hbel := zmZ (Below.after Hbel.out hb)
 have Hj := zmZ (hj.mono (G := (w.heap.size + 1 + 1 + 1 ≤ ·)) (fun b hb' => Nat.le_trans hgl hb'))
 clear hj hb hgl HM x0 x1 y0 y1 HBa HBb Hs
 obtain ⟨y0, y1⟩ := Blk.c2 HBr.out
 obtain ⟨f0, f1⟩ := Blk.f2 HBr.out
 go_wp2_with fail
 rw [zom]
 exact bodyPost_ret (v := .agg #[.bool k.neg, .slice k.A k.k k.c]) (by simp [results, Tryz.results164, go_sem, zoh HBr.out, zoo HBr.out]) rfl (znY Hbel.out (by omega) Hj.out)

set_option maxRecDepth 100000 in
theorem znb (w : World) (i j : IV) (z y : Int) (n m0 : Nat) (hn : n ≤ 500000) (hm0 : m0 ≤ 500000) (h : IntD i z n w) (h2 : IntD j y m0 w) :
 Calls Tryz.prog 156 #[iA i, iA j] w (RetZ (z * y) w) := by
 obtain ⟨l, hk, hr, hx, hz⟩ := h.ex
 obtain ⟨m, hk2, hr2, hx2, hy⟩ := h2.ex
 have hle := h.le
 have hle2 := h2.le
 have hzz : (z * y) = iv (i.neg != j.neg) (val B64 l * val B64 m) := by rw [← hz, ← hy, zrE]
 have hlen : (digs B64 (val B64 l * val B64 m)).length ≤ 1000000 := by
  have : (digs B64 (val B64 l * val B64 m)).length ≤ l.length + m.length := zcs (n := l.length + m.length) (by decide) (by rw [Nat.pow_add]; exact Nat.mul_lt_mul_of_lt_of_le (zd0 hx) (Nat.le_of_lt (zd0 hx2)) (Nat.pow_pos za0))
  omega
 rw [hzz]
 obtain ⟨W0, hW0⟩ : ∃ W0, W0 = (((w.alloc (.cells #[.bool i.neg, .slice i.A i.k i.c] 39)).alloc (.cells #[.bool j.neg, .slice j.A j.k j.c] 39)).alloc (.cells #[.bool false, .slice none 0 0] 39)) := ⟨_, rfl⟩
 obtain ⟨p0, p1, p2, pb⟩ := lay3 hW0
 have HBa := zmZ p0
 have HBb := zmZ p1
 have HBr := zmZ p2
 have Hbel := zmZ pb
 have HG := zmZ (show ∀ W : World, Rd W .u64 i.A l → Rd W .u64 j.A m → Calls Tryz.prog 200 #[.slice i.A i.k i.c, .slice j.A j.k j.c] W (RetL .u64 (digs B64 (val B64 l * val B64 m)) W) from by
  intro W q1 q2
  rw [hk, hk2]
  exact zrb W i.A j.A i.c j.c l m (by omega) (by omega) q1 q2 hx hx2)
 have HM := zmZ (show ∀ (W : World) (A : Option Addr) (c : Nat), Rd W .u64 A (digs B64 (val B64 l * val B64 m)) → Calls Tryz.prog 159 #[.bool (i.neg != j.neg), .slice A (digs B64 (val B64 l * val B64 m)).length c] W (RetZ (iv (i.neg != j.neg) (val B64 l * val B64 m)) W) from by
  intro W A c q
  have := zo8 W (i.neg != j.neg) A c _ hlen q (zaS (by decide : 1 < B64) (val B64 l * val B64 m))
  rwa [zag (by decide : 1 < B64) (val B64 l * val B64 m)] at this)
 have q1 := hr.below pb (Nat.le_refl _); have q2 := hr2.below pb (Nat.le_refl _)
 have Hr := zmZ (za7 (F := (· < W0.heap.size)) q1 (fun k hk => q1.lt k hk))
 have Hr2 := zmZ (za7 (F := (· < W0.heap.size)) q2 (fun k hk => q2.lt k hk))
 clear p0 p1 p2 pb h hk hr hx hz hle hzz h2 hk2 hr2 hx2 hy hle2 hlen q1 q2
 subst hW0
 obtain ⟨x0, x1⟩ := Blk.c2 HBa.out
 obtain ⟨y0, y1⟩ := Blk.c2 HBb.out
 obtain ⟨f0, f1⟩ := Blk.f2 HBr.out
 have ne01 : w.heap.size ≠ w.heap.size + 1 := by omega
 have ne02 : w.heap.size ≠ w.heap.size + 1 + 1 := by omega
 have ne10 : w.heap.size + 1 ≠ w.heap.size := by omega
 have ne12 : w.heap.size + 1 ≠ w.heap.size + 1 + 1 := by omega
 have ne20 : w.heap.size + 1 + 1 ≠ w.heap.size := by omega
 have ne21 : w.heap.size + 1 + 1 ≠ w.heap.size + 1 := by omega
 unfold iA
 go_enter Tryz.func156, Tryz.ntmps156
 go_wp2_with fail
 go_region_held3 (fun W => W.cell? ⟨w.heap.size, 0, none⟩ = some (.bool i.neg) ∧ W.cell? ⟨w.heap.size, 1, none⟩ = some (.slice i.A i.k i.c) ∧ W.cell? ⟨w.heap.size + 1, 0, none⟩ = some (.bool j.neg) ∧ W.cell? ⟨w.heap.size + 1, 1, none⟩ = some (.slice j.A j.k j.c)) (go_keep)
  (first
   | (go_at_call 200; go_must (refine (HG.out _ (by first | exact Hr.out.now | exact Hr.out.drew.now) (by first | exact Hr2.out.now | exact Hr2.out.drew.now)).mono ?_; rintro e w4 ⟨A, c, rfl, hcp, hrd, hb, hf⟩; have hl_w4 := HBr.out.lt; replace HBa := zmZ (Blk.below (by exact HBa.out) hb (by exact HBa.out.lt)); replace HBb := zmZ (Blk.below (by exact HBb.out) hb (by exact HBb.out.lt)); replace HBr := zmZ (Blk.below (by exact HBr.out) hb (by exact HBr.out.lt)); have sw4a : w4.cell? ⟨w.heap.size + 1 + 1, 0, none⟩ = some (.bool false) := HBr.out.cell 0; have sw4b : w4.cell? ⟨w.heap.size + 1 + 1, 1, none⟩ = some (.slice none 0 0) := HBr.out.cell 1; have sw40 : w4.cell? ⟨w.heap.size, 0, none⟩ = some (.bool i.neg) := HBa.out.cell 0; have sw41 : w4.cell? ⟨w.heap.size, 1, none⟩ = some (.slice i.A i.k i.c) := HBa.out.cell 1; have sw42 : w4.cell? ⟨w.heap.size + 1, 0, none⟩ = some (.bool j.neg) := HBb.out.cell 0; have sw43 : w4.cell? ⟨w.heap.size + 1, 1, none⟩ = some (.slice j.A j.k j.c) := HBb.out.cell 1; have sw44 : w4.frozen? ⟨w.heap.size + 1 + 1, 0, none⟩ = false := HBr.out.frozen 0; have sw45 : w4.frozen? ⟨w.heap.size + 1 + 1, 1, none⟩ = false := HBr.out.frozen 1; replace Hbel := zmZ (Below.after (by first | exact Hbel.out | exact Below.drew Hbel.out) hb); have Hrd := zmZ (za7 (F := (· < w4.heap.size)) hrd (fun k hk => hrd.lt k hk)); clear hb hf hcp hrd hl_w4))
   | (go_at_call 159; go_must (refine (HM.out _ A c (by first | exact Hrd.out.now | exact Hrd.out.drew.now)).mono ?_; rintro e w5 ⟨k, rfl, hj, hb⟩; have hl_w5 := HBr.out.lt; replace HBa := zmZ (Blk.below (by exact HBa.out) hb (by exact HBa.out.lt)); replace HBb := zmZ (Blk.below (by exact HBb.out) hb (by exact HBb.out.lt)); replace HBr := zmZ (Blk.below (by exact HBr.out) hb (by exact HBr.out.lt)); have sw5a : w5.cell? ⟨w.heap.size + 1 + 1, 0, none⟩ = some (.bool false) := HBr.out.cell 0; have sw5b : w5.cell? ⟨w.heap.size + 1 + 1, 1, none⟩ = some (.slice none 0 0) := HBr.out.cell 1; have sw50 : w5.cell? ⟨w.heap.size, 0, none⟩ = some (.bool i.neg) := HBa.out.cell 0; have sw51 : w5.cell? ⟨w.heap.size, 1, none⟩ = some (.slice i.A i.k i.c) := HBa.out.cell 1; have sw52 : w5.cell? ⟨w.heap.size + 1, 0, none⟩ = some (.bool j.neg) := HBb.out.cell 0; have sw53 : w5.cell? ⟨w.heap.size + 1, 1, none⟩ = some (.slice j.A j.k j.c) := HBb.out.cell 1; have sw54 : w5.frozen? ⟨w.heap.size + 1 + 1, 0, none⟩ = false := HBr.out.frozen 0; have sw55 : w5.frozen? ⟨w.heap.size + 1 + 1, 1, none⟩ = false := HBr.out.frozen 1; replace Hbel := zmZ (Below.after (by first | exact Hbel.out | exact Below.drew Hbel.out) hb); have Hj := zmZ (hj.mono (G := (w.heap.size + 1 + 1 + 1 ≤ ·)) (fun b hb' => Nat.le_trans hl_w5 hb')); clear hj hb hl_w5)))
 go_wp2_with fail
 have hr5 := HBr.out
 rw [zom]
 exact bodyPost_ret (v := .agg #[.bool k.neg, .slice k.A k.k k.c]) (by simp [results, Tryz.results156, go_sem, zoh hr5, zoo hr5]) rfl (znY Hbel.out (by omega) Hj.out)
end Go.Proofs.YtikmgoefjbhcjaaGreatDoor
