/-
 ratio: over, parts, lowest. ratio: lowest. ratio: Make, Norm, Of, Mul, Quo, Neg, Abs, Whole, both, Add, Sub. whole.Cmp; ratio: Sign, Cmp, Same, Max, Min, Floor, IsWhole, Div.
-/
import Derived.Test.YtikmgoefjbhcjaaGreatDoorEM
import Derived.Deep.DeepCutAuto
namespace Go.Proofs.YtikmgoefjbhcjaaGreatDoor
set_option maxHeartbeats 2000000
open Go.RowKit

def RetP (x d : Int) (N : Nat) (F : Nat → Prop) (w : World) (e : Ending) (w' : World) : Prop :=
 ∃ i j : IV, e = .returned (.tuple #[.agg #[.bool i.neg, .slice i.A i.k i.c], .agg #[.bool j.neg, .slice j.A j.k j.c]]) ∧ Rests w' F (IntD i x N) ∧ Rests w' F (IntD j d N) ∧ Below w.heap.size w w'
def ovN (x y : Int) : Int := if y = 0 then 0 else if y < 0 then -x else x
def ovD (y : Int) : Int := if y = 0 then 1 else if y < 0 then -y else y
theorem zh7 (y : Int) : 0 < ovD y := by unfold ovD; split; omega; split <;> omega
theorem zlO (x y : Int) : Rat.divInt (ovN x y) (ovD y) = Rat.divInt x y := by
 unfold ovN ovD
 split
 ·rename_i h; subst h; simp
 ·split
  ·exact Rat.neg_divInt_neg x y
  ·rfl
def paN (r : RV) (x d : Int) : Int := if r.den.k = 0 then x else ovN x d
def paD (r : RV) (d : Int) : Int := if r.den.k = 0 then 1 else ovD d
theorem zlj (r : RV) (d : Int) : 0 < paD r d := by unfold paD; split; omega; exact zh7 d
theorem zmQ (r : RV) (x d : Int) : Rat.divInt (paN r x d) (paD r d) = if r.den.k = 0 then Rat.divInt x 1 else Rat.divInt x d := by
 unfold paN paD
 split
 ·rfl
 ·exact zlO x d

section
variable {w W W' : World} {bs : List Bo} {old new φ ψ : World → Prop}
theorem Env.retP {G : Nat → Prop} {i j : IV} {x d : Int} {N : Nat} {v : Value} (h : Env w bs old new W) (hv : v = .tuple #[.agg #[.bool i.neg, .slice i.A i.k i.c], .agg #[.bool j.neg, .slice j.A j.k j.c]]) (hi : Rests W G (IntD i x N)) (hj : Rests W G (IntD j d N)) : RetP x d N G w (.returned v) W := by
 subst hv
 exact ⟨i, j, rfl, hi, hj, h.bel⟩
theorem zlb {x d G : Int} (hd : 0 < d) (hG : G = (Nat.gcd x.natAbs d.natAbs : Int)) : 0 < G ∧ G.natAbs ≤ d.natAbs ∧ 0 < d / G ∧ Nat.gcd (x / G).natAbs (d / G).natAbs = 1 ∧ Rat.divInt (x / G) (d / G) = Rat.divInt x d := by
 have h0 : 0 < Nat.gcd x.natAbs d.natAbs := Nat.gcd_pos_of_pos_right _ (by omega)
 have h1 : Nat.gcd x.natAbs d.natAbs ∣ x.natAbs := Nat.gcd_dvd_left _ _
 have h2 : Nat.gcd x.natAbs d.natAbs ∣ d.natAbs := Nat.gcd_dvd_right _ _
 have hle := Nat.le_of_dvd (by omega) h2
 have e1 : x = G * (x / G) := by rw [hG]; exact (Int.mul_ediv_cancel' (Int.ofNat_dvd_left.2 h1)).symm
 have e2 : d = G * (d / G) := by rw [hG]; exact (Int.mul_ediv_cancel' (Int.ofNat_dvd_left.2 h2)).symm
 have hp : 0 < G := by omega
 have hdp : 0 < d / G := by
  rcases Int.lt_trichotomy (d / G) 0 with h | h | h
  ·have := Int.mul_neg_of_pos_of_neg hp h; omega
  ·rw [h] at e2; omega
  ·exact h
 refine ⟨hp, by omega, hdp, ?_, ?_⟩
 ·have hx : (x / G).natAbs = x.natAbs / Nat.gcd x.natAbs d.natAbs := by rw [hG, Int.natAbs_ediv_of_dvd (Int.ofNat_dvd_left.2 h1)]; simp
  have hy : (d / G).natAbs = d.natAbs / Nat.gcd x.natAbs d.natAbs := by rw [hG, Int.natAbs_ediv_of_dvd (Int.ofNat_dvd_left.2 h2)]; simp
  rw [hx, hy, Nat.gcd_div h1 h2, Nat.div_self h0]
 ·rw [Rat.divInt_eq_divInt_iff (by omega) (by omega)]
  generalize x / G = X at *
  generalize d / G = Y at *
  subst e1; subst e2
  rw [Int.mul_comm X, Int.mul_comm (G * X), Int.mul_comm G Y, Int.mul_assoc, Int.mul_comm G X]
theorem zlp {X D : Int} (hD : 0 < D) (hg : Nat.gcd X.natAbs D.natAbs = 1) : (Rat.divInt X D).num = X ∧ ((Rat.divInt X D).den : Int) = D := by
 obtain ⟨a, b⟩ := zfx (x := X) hD
 rw [hg] at a b
 exact ⟨by rw [a]; exact Int.ediv_one X, by rw [b]; exact Int.ediv_one D⟩
theorem zlT (W : World) (i j : IV) (z y G : Int) (n m : Nat) (hn : n ≤ 900000000000) (hm : m ≤ 900000000000) (h : IntD i z n W) (h' : IntD j y m W) (hT : Tz W) (hG : G = (Nat.gcd z.natAbs y.natAbs : Int)) :
 Calls Tryz.prog 95 #[iA i, iA j] W (RetZ G W) := by
 rw [hG]; exact zje W i j z y n m hn hm h h' hT
end
set_option maxRecDepth 100000 in
theorem zih (w : World) (i j : IV) (x y : Int) (n : Nat) (F : Nat → Prop) (hn : n ≤ 900000000000) (h1n : 1 ≤ n) (h : Rests w F (IntD i x n)) (h' : Rests w F (IntD j y n)) (hy : y = 0) :
 Calls Tryz.prog 97 #[iA i, iA j] w (RetP 0 1 n (fun b => F b ∨ w.heap.size ≤ b) w) := by
 have Hs := zmZ (show y.sign = 0 by rw [hy]; rfl)
 have H1 := zmZ (show (1 : Int).natAbs < B64 ^ n from Nat.lt_of_lt_of_le (by decide : 1 < B64 ^ 1) (Nat.pow_le_pow_right za0 h1n))
 have HI := zmZ h
 have HJ := zmZ h'
 have Hn := zmZ h1n
 have HE := zmZ (zh9 i j ((h.now.old).and (h'.now.old)))
 have c := Env.c4 HE.out
 have dd := Env.d4 HE.out
 clear h h' hy h1n
 unfold iA
 go_enter Tryz.func97, Tryz.ntmps97
 go_wp2_with fail
 refine (zaj _ j y n hn (by first | exact HE.out.o.2 | exact HE.out.drew.o.2)).mono ?_
 rintro e w1 ⟨rfl, hb⟩
 replace HE := zmZ (Env.cx HE.out hb)
 replace c := Env.c4 HE.out
 clear hb
 rw [Hs.out]
 go_wp2_with fail
 refine (zer _ 1 (by decide) (by decide)).mono ?_
 rintro e w2 ⟨k, rfl, hk, hb⟩
 replace HE := zmZ (Env.rx HE.out hk hb)
 replace c := Env.c4 HE.out
 clear hk hb
 go_wp2_with fail
 obtain ⟨W5, hW5, HE⟩ := Env.st2_1 HE.out (.bool false) (.slice none 0 0)
 rw [hW5]
 clear hW5
 obtain ⟨W6, hW6, HE⟩ := Env.st2_0 HE.out (.bool k.neg) (.slice k.A k.k k.c)
 rw [hW6]
 clear hW6
 (try (obtain ⟨W7, hW7, HE⟩ := Env.dr HE.out; rw [hW7]; clear hW7))
 have hE := HE.out
 replace c := Env.c4 hE
 exact bodyPost_ret (v := .tuple #[.agg #[.bool false, .slice none 0 0], .agg #[.bool k.neg, .slice k.A k.k k.c]]) (by simp [results, Tryz.results97, go_sem, c]) rfl (hE.retP (i := ⟨false, none, 0, 0⟩) (j := k) rfl (hE.up fun V _ => (zcM V).int (Nat.zero_le _)) (hE.up fun V h => h.1.ofLt H1.out))
set_option maxRecDepth 100000 in
theorem zj6 (w : World) (i j : IV) (x y : Int) (n : Nat) (F : Nat → Prop) (hn : n ≤ 900000000000) (h1n : 1 ≤ n) (h : Rests w F (IntD i x n)) (h' : Rests w F (IntD j y n)) (hy : y < 0) :
 Calls Tryz.prog 97 #[iA i, iA j] w (RetP (-x) (-y) n (fun b => F b ∨ w.heap.size ≤ b) w) := by
 have Hs := zmZ (Int.sign_eq_neg_one_of_neg hy)
 have HI := zmZ h
 have HJ := zmZ h'
 have Hn := zmZ h1n
 have HLi := zmZ h.now.lt
 have HLj := zmZ h'.now.lt
 have HE := zmZ (zh9 i j ((h.now.old).and (h'.now.old)))
 have c := Env.c4 HE.out
 have dd := Env.d4 HE.out
 clear h h' hy h1n
 unfold iA
 go_enter Tryz.func97, Tryz.ntmps97
 go_wp2_with fail
 refine (zaj _ j y n hn (by first | exact HE.out.o.2 | exact HE.out.drew.o.2)).mono ?_
 rintro e w1 ⟨rfl, hb⟩
 replace HE := zmZ (Env.cx HE.out hb)
 replace c := Env.c4 HE.out
 clear hb
 rw [Hs.out]
 go_wp2_with fail
 go_region_held3 (fun W => CB (w.heap.size) #[.bool i.neg, .slice i.A i.k i.c] W ∧ CB (w.heap.size + 1) #[.bool j.neg, .slice j.A j.k j.c] W) (first | with_reducible exact ⟨c.2.2.2, c.2.2.1⟩ | ((repeat' apply And.intro) <;> go_keep) | exact ⟨c.2.2.2, c.2.2.1⟩)
  (first
   | (go_at_call_of 148 (Value.agg #[.bool i.neg, .slice i.A i.k i.c]); go_must (refine (zfY _ i x n hn (by first | exact HE.out.o.1 | exact HE.out.drew.o.1)).mono ?_; rintro e w1 ⟨k, rfl, hk, hb⟩; replace HE := zmZ (Env.rx HE.out hk hb); replace c := Env.c4 HE.out; clear hk hb))
   | (go_at_call_of 148 (Value.agg #[.bool j.neg, .slice j.A j.k j.c]); go_must (refine (zfY _ j y n hn (by first | exact HE.out.o.2 | exact HE.out.drew.o.2)).mono ?_; rintro e w2 ⟨l, rfl, hk, hb⟩; replace HE := zmZ (Env.rx HE.out hk hb); replace c := Env.c4 HE.out; clear hk hb)))
 all_goals
  go_wp2_with fail
  obtain ⟨W5, hW5, HE⟩ := Env.st2_1 HE.out (.bool k.neg) (.slice k.A k.k k.c)
  rw [hW5]
  clear hW5
  obtain ⟨W6, hW6, HE⟩ := Env.st2_0 HE.out (.bool l.neg) (.slice l.A l.k l.c)
  rw [hW6]
  clear hW6
  (try (obtain ⟨W7, hW7, HE⟩ := Env.dr HE.out; rw [hW7]; clear hW7))
  have hE := HE.out
  replace c := Env.c4 hE
  exact bodyPost_ret (v := .tuple #[.agg #[.bool k.neg, .slice k.A k.k k.c], .agg #[.bool l.neg, .slice l.A l.k l.c]]) (by simp [results, Tryz.results97, go_sem, c]) rfl (hE.retP rfl (by first | exact hE.up fun V h => h.1.ofLt (by rw [Int.natAbs_neg]; exact HLi.out) | exact hE.up fun V h => h.2.1.ofLt (by rw [Int.natAbs_neg]; exact HLi.out)) (by first | exact hE.up fun V h => h.1.ofLt (by rw [Int.natAbs_neg]; exact HLj.out) | exact hE.up fun V h => h.2.1.ofLt (by rw [Int.natAbs_neg]; exact HLj.out)))
set_option maxRecDepth 100000 in
theorem zjA (w : World) (i j : IV) (x y : Int) (n : Nat) (F : Nat → Prop) (hn : n ≤ 900000000000) (h1n : 1 ≤ n) (h : Rests w F (IntD i x n)) (h' : Rests w F (IntD j y n)) (hy : 0 < y) :
 Calls Tryz.prog 97 #[iA i, iA j] w (RetP x y n (fun b => F b ∨ w.heap.size ≤ b) w) := by
 have Hs := zmZ (Int.sign_eq_one_of_pos hy)
 have HI := zmZ h
 have HJ := zmZ h'
 have Hn := zmZ h1n
 have HE := zmZ (zh9 i j ((h.now.old).and (h'.now.old)))
 have c := Env.c4 HE.out
 have dd := Env.d4 HE.out
 clear h h' hy h1n
 unfold iA
 go_enter Tryz.func97, Tryz.ntmps97
 go_wp2_with fail
 refine (zaj _ j y n hn (by first | exact HE.out.o.2 | exact HE.out.drew.o.2)).mono ?_
 rintro e w1 ⟨rfl, hb⟩
 replace HE := zmZ (Env.cx HE.out hb)
 replace c := Env.c4 HE.out
 clear hb
 rw [Hs.out]
 go_wp2_with fail
 go_region_held3 (fun W => CB (w.heap.size) #[.bool i.neg, .slice i.A i.k i.c] W ∧ CB (w.heap.size + 1) #[.bool j.neg, .slice j.A j.k j.c] W) (first | with_reducible exact ⟨c.2.2.2, c.2.2.1⟩ | ((repeat' apply And.intro) <;> go_keep) | exact ⟨c.2.2.2, c.2.2.1⟩) (fail)
 all_goals
  go_wp2_with fail
  obtain ⟨W5, hW5, HE⟩ := Env.st2_1 HE.out (.bool i.neg) (.slice i.A i.k i.c)
  rw [hW5]
  clear hW5
  obtain ⟨W6, hW6, HE⟩ := Env.st2_0 HE.out (.bool j.neg) (.slice j.A j.k j.c)
  rw [hW6]
  clear hW6
  (try (obtain ⟨W7, hW7, HE⟩ := Env.dr HE.out; rw [hW7]; clear hW7))
  have hE := HE.out
  replace c := Env.c4 hE
  exact bodyPost_ret (v := .tuple #[.agg #[.bool i.neg, .slice i.A i.k i.c], .agg #[.bool j.neg, .slice j.A j.k j.c]]) (by simp [results, Tryz.results97, go_sem, c]) rfl (hE.retP rfl (hE.keep_ HI.out) (hE.keep_ HJ.out))
theorem zfT (w : World) (i j : IV) (x y : Int) (n : Nat) (F : Nat → Prop) (hn : n ≤ 900000000000) (h1n : 1 ≤ n) (h : Rests w F (IntD i x n)) (h' : Rests w F (IntD j y n)) :
 Calls Tryz.prog 97 #[iA i, iA j] w (RetP (ovN x y) (ovD y) n (fun b => F b ∨ w.heap.size ≤ b) w) := by
 unfold ovN ovD
 by_cases h0 : y = 0
 ·rw [if_pos h0, if_pos h0]; exact zih w i j x y n F hn h1n h h' h0
 ·rw [if_neg h0, if_neg h0]
  by_cases hl : y < 0
  ·rw [if_pos hl, if_pos hl]; exact zj6 w i j x y n F hn h1n h h' hl
  ·rw [if_neg hl, if_neg hl]; exact zjA w i j x y n F hn h1n h h' (by omega)
set_option maxRecDepth 100000 in
theorem zid (w : World) (r : RV) (x d : Int) (n : Nat) (F : Nat → Prop) (_hn : n ≤ 900000000000) (h1n : 1 ≤ n) (h : Rests w F (IntD r.num x n)) (h' : Rests w F (IntD r.den d n)) (hk0 : r.den.k = 0) :
 Calls Tryz.prog 57 #[rA r] w (RetP x 1 n (fun b => F b ∨ w.heap.size ≤ b) w) := by
 have hq : ((r.den.k : Int) == 0) = true := by simp [hk0]
 have H1 := zmZ (show (1 : Int).natAbs < B64 ^ n from Nat.lt_of_lt_of_le (by decide : 1 < B64 ^ 1) (Nat.pow_le_pow_right za0 h1n))
 have HI := zmZ h
 have HJ := zmZ h'
 have Hn := zmZ h1n
 have HE := zmZ (zlR r ((h.now.old).and (h'.now.old)))
 have c := Env.c3 HE.out
 have dd := Env.d3 HE.out
 clear h h' hk0 h1n
 unfold rA
 go_enter Tryz.func57, Tryz.ntmps57
 go_wp2_with fail
 go_region_held3 (fun W => CB (w.heap.size) #[.bool r.num.neg, .slice r.num.A r.num.k r.num.c, .bool r.den.neg, .slice r.den.A r.den.k r.den.c] W) (first | with_reducible exact c.2.2 | ((repeat' apply And.intro) <;> go_keep) | exact c.2.2)
  (first
   | (go_at_call 77; go_must (refine (zer _ 1 (by decide) (by decide)).mono ?_; rintro e w1 ⟨k, rfl, hk, hb⟩; replace HE := zmZ (Env.rx HE.out hk hb); replace c := Env.c3 HE.out; clear hk hb)))
 all_goals
  go_wp2_with fail
  obtain ⟨W5, hW5, HE⟩ := Env.st2_1 HE.out (.bool r.num.neg) (.slice r.num.A r.num.k r.num.c)
  rw [hW5]
  clear hW5
  obtain ⟨W6, hW6, HE⟩ := Env.st2_0 HE.out (.bool k.neg) (.slice k.A k.k k.c)
  rw [hW6]
  clear hW6
  (try (obtain ⟨W7, hW7, HE⟩ := Env.dr HE.out; rw [hW7]; clear hW7))
  have hE := HE.out
  replace c := Env.c3 hE
  exact bodyPost_ret (v := .tuple #[.agg #[.bool r.num.neg, .slice r.num.A r.num.k r.num.c], .agg #[.bool k.neg, .slice k.A k.k k.c]]) (by simp [results, Tryz.results57, go_sem, c]) rfl (hE.retP rfl (hE.keep_ HI.out) (hE.up fun V h => h.1.ofLt H1.out))
set_option maxRecDepth 100000 in
theorem zgK (w : World) (r : RV) (x d : Int) (n : Nat) (F : Nat → Prop) (hF : ∀ b, F b → b < w.heap.size) (hn : n ≤ 900000000000) (h1n : 1 ≤ n) (h : Rests w F (IntD r.num x n)) (h' : Rests w F (IntD r.den d n)) (hk0 : r.den.k ≠ 0) :
 Calls Tryz.prog 57 #[rA r] w (RetP (ovN x d) (ovD d) n (fun b => F b ∨ w.heap.size ≤ b) w) := by
 have hq : ((r.den.k : Int) == 0) = false := by simp; omega
 have HI := zmZ h
 have HJ := zmZ h'
 have Hn := zmZ h1n
 have HE := zmZ (zlR r ((h.now.old).and (h'.now.old)))
 have c := Env.c3 HE.out
 have dd := Env.d3 HE.out
 clear h h' hk0 h1n
 unfold rA
 go_enter Tryz.func57, Tryz.ntmps57
 go_wp2_with fail
 have HF := zmZ hF
 clear hF
 go_wp2_with fail
 refine (zfT _ r.num r.den x d n F hn Hn.out (HI.out.below (by first | exact HE.out.bel | exact HE.out.drew.bel)) (HJ.out.below (by first | exact HE.out.bel | exact HE.out.drew.bel))).mono ?_
 rintro e w1 ⟨k, l, rfl, hk, hl, hb⟩
 have HK := zmZ (hk.mono (G := fun b => F b ∨ w.heap.size + 3 ≤ b) fun b h => h.imp_right fun h => by simp at h; omega)
 have HL := zmZ (hl.mono (G := fun b => F b ∨ w.heap.size + 3 ≤ b) fun b h => h.imp_right fun h => by simp at h; omega)
 replace HE := zmZ (Env.cx HE.out hb)
 replace c := Env.c3 HE.out
 clear hk hl hb
 go_wp2_with fail
 obtain ⟨W5, hW5, HE⟩ := Env.st2_1 HE.out (.bool k.neg) (.slice k.A k.k k.c)
 rw [hW5]
 have HW5 := zmZ hW5
 clear hW5
 obtain ⟨W6, hW6, HE⟩ := Env.st2_0 HE.out (.bool l.neg) (.slice l.A l.k l.c)
 rw [hW6]
 have HW6 := zmZ hW6
 clear hW6
 have hE := HE.out
 replace c := Env.c3 hE
 exact bodyPost_ret (v := .tuple #[.agg #[.bool k.neg, .slice k.A k.k k.c], .agg #[.bool l.neg, .slice l.A l.k l.c]]) (by simp [results, Tryz.results57, go_sem, c]) rfl (hE.retP rfl (by rw [← HW6.out, ← HW5.out]; refine Rests.mono (F := fun b => F b ∨ w.heap.size + 3 ≤ b) ?_ (fun b hb => hb.imp_right fun h => by omega); repeat (first | (with_reducible exact HK.out) | (refine Rests.set ?_ (fun h => h.elim (fun h => by have h2 := HF.out _ h; simp only at h2; omega) fun h => by simp only at h; omega) _))) (by rw [← HW6.out, ← HW5.out]; refine Rests.mono (F := fun b => F b ∨ w.heap.size + 3 ≤ b) ?_ (fun b hb => hb.imp_right fun h => by omega); repeat (first | (with_reducible exact HL.out) | (refine Rests.set ?_ (fun h => h.elim (fun h => by have h2 := HF.out _ h; simp only at h2; omega) fun h => by simp only at h; omega) _))))
theorem zgV (w : World) (r : RV) (x d : Int) (n : Nat) (F : Nat → Prop) (hF : ∀ b, F b → b < w.heap.size) (hn : n ≤ 900000000000) (h1n : 1 ≤ n) (h : Rests w F (IntD r.num x n)) (h' : Rests w F (IntD r.den d n)) :
 Calls Tryz.prog 57 #[rA r] w (RetP (paN r x d) (paD r d) n (fun b => F b ∨ w.heap.size ≤ b) w) := by
 unfold paN paD
 by_cases hk : r.den.k = 0
 ·rw [if_pos hk, if_pos hk]; exact zid w r x d n F hn h1n h h' hk
 ·rw [if_neg hk, if_neg hk]; exact zgK w r x d n F hF hn h1n h h' hk
theorem Env.parts {w W : World} {bs : List Bo} {old new : World → Prop} {r : RV} {x y : Int} {n : Nat} (h : Env w bs old new W) (hn : n ≤ 900000000000) (h1n : 1 ≤ n) (hx : ∀ V, old V → IntD r.num x n V) (hy : ∀ V, old V → IntD r.den y n V) {X Y : Int} (hX : paN r x y = X) (hY : paD r y = Y) :
 Calls Tryz.prog 57 #[rA r] W fun e W' => ∃ i j : IV, e = .returned (.tuple #[iA i, iA j]) ∧ Env w bs (fun V => IntD i X n V ∧ IntD j Y n V ∧ old V) new W' := by
 subst hX hY
 exact (zgV W r x y n (fun b => b < W.heap.size ∧ ∀ c ∈ bs, c.g ≠ b) (fun _ h => h.1) hn h1n ((h.rso.imp hx).clip' fun _ h hb => ⟨hb, h⟩) ((h.rso.imp hy).clip' fun _ h hb => ⟨hb, h⟩)).mono fun e W' ⟨i, j, he, hi, hj, hb⟩ => by
  have k := h.call hb
  have hG : ∀ b, ((b < W.heap.size ∧ ∀ c ∈ bs, c.g ≠ b) ∨ W.heap.size ≤ b) → ∀ c ∈ bs, c.g ≠ b := fun b hb => hb.elim (fun h => h.2) fun hb c hc e => by have := (h.bx c hc).lt; omega
  exact ⟨i, j, he, k.bx, ((hi.mono hG).and ((hj.mono hG).and k.rso)), k.rsn, k.bel, k.own, k.nd⟩

set_option maxRecDepth 100000 in
theorem zbE (w : World) (i j : IV) (x d : Int) (n : Nat) (hn : n ≤ 900000000000) (h : IntD i x n w) (h' : IntD j d n w) (hT : Tz w) (hd : 0 < d) :
 Calls Tryz.prog 56 #[iA i, iA j] w (RetR (Rat.divInt x d) w) := by
 have Hd := zmZ hd
 have Hx := zmZ h.lt
 have Hy := zmZ h'.lt
 have HE := zmZ (zm8 i j ((h.old).and ((h'.old).and (hT.old))))
 have c := Env.c3 HE.out
 have dd := Env.d3 HE.out
 clear h h' hT hd
 unfold iA
 go_enter Tryz.func56, Tryz.ntmps56
 go_wp2_with fail
 go_upto_region 1 with fail
 go_cut [] (fun wx => ∃ p q, Hid (Env w [⟨w.heap.size + 1 + 1, 41, #[.bool false, .slice none 0 0, .bool false, .slice none 0 0]⟩, ⟨w.heap.size + 1, 39, #[.bool q.neg, .slice q.A q.k q.c]⟩, ⟨w.heap.size, 39, #[.bool p.neg, .slice p.A p.k p.c]⟩] (fun V => IntD i x n V ∧ IntD j d n V ∧ Tz V) (fun V => IntN p x V ∧ IntN q d V) wx))
 case first =>
  go_region_with (first
   | (go_at_call_of 93 (Value.agg #[.bool i.neg, .slice i.A i.k i.c]); go_must (refine (zdm _ i x n hn (by first | exact HE.out.o.1 | exact HE.out.drew.o.1)).mono ?_; rintro e w1 ⟨p, rfl, hk, hb⟩; replace HE := zmZ (Env.rx HE.out hk hb); replace c := Env.c3 HE.out; clear hk hb))
   | (go_at_call_of 93 (Value.agg #[.bool j.neg, .slice j.A j.k j.c]); go_must (refine (zdm _ j d n hn (by first | exact HE.out.o.2.1 | exact HE.out.drew.o.2.1)).mono ?_; rintro e w2 ⟨q, rfl, hk, hb⟩; replace HE := zmZ (Env.rx HE.out hk hb); replace c := Env.c3 HE.out; clear hk hb)))
  all_goals
   go_wp2_with fail
   go_meet
   first
   | exact ⟨p, q, zmZ (((HE.out.put2_2 (.bool p.neg) (.slice p.A p.k p.c)).put2_1 (.bool q.neg) (.slice q.A q.k q.c)).imp (fun _ h => h) (fun _ h => ⟨h.1, h.2.1⟩))⟩
   | exact ⟨p, q, zmZ (((HE.out.put2_2 (.bool p.neg) (.slice p.A p.k p.c)).put2_1 (.bool q.neg) (.slice q.A q.k q.c)).imp (fun _ h => h) (fun _ h => ⟨h.2.1, h.1⟩))⟩
   | exact ⟨p, q, zmZ (((HE.out.drew.put2_2 (.bool p.neg) (.slice p.A p.k p.c)).put2_1 (.bool q.neg) (.slice q.A q.k q.c)).imp (fun _ h => h) (fun _ h => ⟨h.1, h.2.1⟩))⟩
   | exact ⟨p, q, zmZ (((HE.out.drew.put2_2 (.bool p.neg) (.slice p.A p.k p.c)).put2_1 (.bool q.neg) (.slice q.A q.k q.c)).imp (fun _ h => h) (fun _ h => ⟨h.2.1, h.1⟩))⟩
 case rest =>
  clear HE c
  obtain ⟨p, q, HE⟩ := hcut
  have c := Env.c3 HE.out
  obtain ⟨B, hB⟩ : ∃ B, decide (d = 1) = B := ⟨_, rfl⟩
  have HB := zmZ hB
  clear hB
  go_upto_if 12 with (first | (go_at_call 94; go_must (refine (ze4 _ q d (by first | exact HE.out.n.2 | exact HE.out.drew.n.2)).mono ?_; rintro e w2 ⟨rfl, hb⟩; replace HE := zmZ (Env.cx HE.out hb); replace c := Env.c3 HE.out; clear hb; rw [HB.out])))
  go_cut [] (fun wx => ∃ k l X D, (0 < D ∧ Nat.gcd X.natAbs D.natAbs = 1 ∧ Rat.divInt X D = Rat.divInt x d) ∧ Hid (Env w [⟨w.heap.size + 1 + 1, 41, #[.bool false, .slice none 0 0, .bool false, .slice none 0 0]⟩, ⟨w.heap.size + 1, 39, #[.bool l.neg, .slice l.A l.k l.c]⟩, ⟨w.heap.size, 39, #[.bool k.neg, .slice k.A k.k k.c]⟩] (fun V => IntD i x n V ∧ IntD j d n V ∧ Tz V) (fun V => IntN k X V ∧ IntN l D V) wx))
  case first =>
   cases B
   ·obtain ⟨G, hG⟩ : ∃ G : Int, G = (Nat.gcd x.natAbs d.natAbs : Int) := ⟨_, rfl⟩
    have HG := zmZ hG
    have Hl := zmZ (zlb Hd.out hG)
    clear hG
    obtain ⟨B', hB'⟩ : ∃ B', decide (G = 1) = B' := ⟨_, rfl⟩
    have HB' := zmZ hB'
    clear hB'
    go_wp2_with fail
    refine (zlT _ p q x d G n n hn hn (IntN.ofLt (by first | exact HE.out.n.1 | exact HE.out.drew.n.1) Hx.out) (IntN.ofLt (by first | exact HE.out.n.2 | exact HE.out.drew.n.2) Hy.out) (by first | exact HE.out.o.2.2 | exact HE.out.drew.o.2.2) HG.out).mono ?_
    rintro e w3 ⟨t, rfl, hk, hb⟩
    replace HE := zmZ (Env.rx HE.out hk hb)
    replace c := Env.c3 HE.out
    clear hk hb
    go_upto_region 4 with fail
    obtain ⟨W2, g2, hW2, hg2, HE⟩ := Env.al HE.out 39 #[.bool t.neg, .slice t.A t.k t.c]
    rw [hW2, hg2]
    clear hW2 hg2
    replace c := Env.c4 HE.out
    replace dd := Env.d4 HE.out
    go_upto_if 18 with (first | (go_at_call 94; go_must (refine (ze4 _ t G (by first | exact HE.out.n.1 | exact HE.out.drew.n.1)).mono ?_; rintro e w2 ⟨rfl, hb⟩; replace HE := zmZ (Env.cx HE.out hb); replace c := Env.c4 HE.out; clear hb; rw [HB'.out])))
    cases B'
    ·go_wp2_with fail
     refine (zdb _ p t x G n n hn hn (IntN.ofLt (by first | exact HE.out.n.2.1 | exact HE.out.drew.n.2.1) Hx.out) (IntN.ofLt (by first | exact HE.out.n.1 | exact HE.out.drew.n.1) (Nat.lt_of_le_of_lt Hl.out.2.1 Hy.out)) (by have := Hl.out.1; omega)).mono ?_
     rintro e w4 ⟨k, k', rfl, hk, hk', hb⟩
     replace HE := zmZ (Env.rx HE.out (hk.and hk') hb)
     replace c := Env.c4 HE.out
     clear hk hk' hb
     go_upto_region 6 with fail
     obtain ⟨W5, hW5, HE⟩ := Env.st2_3 HE.out (.bool k.neg) (.slice k.A k.k k.c)
     rw [hW5]
     clear hW5
     replace c := Env.c4 HE.out
     go_wp2_with fail
     refine (zdb _ q t d G n n hn hn (IntN.ofLt (by first | exact HE.out.n.2.2.2 | exact HE.out.drew.n.2.2.2) Hy.out) (IntN.ofLt (by first | exact HE.out.n.2.1 | exact HE.out.drew.n.2.1) (Nat.lt_of_le_of_lt Hl.out.2.1 Hy.out)) (by have := Hl.out.1; omega)).mono ?_
     rintro e w6 ⟨l, l', rfl, hk, hk', hb⟩
     replace HE := zmZ (Env.rx HE.out (hk.and hk') hb)
     replace c := Env.c4 HE.out
     clear hk hk' hb
     go_wp2_with fail
     go_meet
     exact ⟨k, l, x / G, d / G, Hl.out.2.2, zmZ ((HE.out.put2_2 (.bool l.neg) (.slice l.A l.k l.c)).drop.imp (fun _ h => h) (fun _ h => ⟨h.2.1.1, h.1.1⟩))⟩
    ·go_wp2_with fail
     go_meet
     exact ⟨p, q, x, d, ⟨Hd.out, by have h1 := of_decide_eq_true HB'.out; have h2 := HG.out; omega, rfl⟩, zmZ (HE.out.drop.imp (fun _ h => h) (fun _ h => h.2))⟩
   ·go_wp2_with fail
    go_meet
    exact ⟨p, q, x, d, ⟨Hd.out, by rw [of_decide_eq_true HB.out]; exact Nat.gcd_one_right _, rfl⟩, HE⟩
  case rest =>
   clear HE c HB B
   obtain ⟨k, l, X, D, ⟨hD, hg, hq⟩, HE⟩ := hcut
   have c := Env.c3 HE.out
   have HC := zmZ (zlp hD hg)
   have Hq := zmZ hq
   clear hD hg hq
   by_cases h1 : D = 1
   ·have H1 := zmZ h1
    have HB := zmZ (decide_eq_true H1.out)
    clear h1
    go_wp2_with fail
    refine (ze4 _ l D (by first | exact HE.out.n.2 | exact HE.out.drew.n.2)).mono ?_
    rintro e w7 ⟨rfl, hb⟩
    replace HE := zmZ (Env.cx HE.out hb)
    replace c := Env.c3 HE.out
    clear hb
    rw [HB.out]
    go_wp2_with fail
    obtain ⟨W5, hW5, HE⟩ := Env.st4_0 HE.out (.bool k.neg) (.slice k.A k.k k.c) (.bool false) (.slice none 0 0)
    rw [hW5]
    clear hW5
    have hE := HE.out
    replace c := Env.c3 hE
    exact bodyPost_ret (v := .agg #[.bool k.neg, .slice k.A k.k k.c, .bool false, .slice none 0 0]) (by simp [results, Tryz.results56, go_sem, c]) rfl ((by rw [← Hq.out]; exact hE.retR' (r := ⟨k, ⟨false, none, 0, 0⟩⟩) rfl fun V h => RatN.zd h.1 HC.out.1 (by have h2 := HC.out.2; have h3 := H1.out; omega)))
   ·have H1 := zmZ h1
    have HB := zmZ (decide_eq_false H1.out)
    clear h1
    go_wp2_with fail
    refine (ze4 _ l D (by first | exact HE.out.n.2 | exact HE.out.drew.n.2)).mono ?_
    rintro e w7 ⟨rfl, hb⟩
    replace HE := zmZ (Env.cx HE.out hb)
    replace c := Env.c3 HE.out
    clear hb
    rw [HB.out]
    go_wp2_with fail
    obtain ⟨W5, hW5, HE⟩ := Env.st4_0 HE.out (.bool k.neg) (.slice k.A k.k k.c) (.bool l.neg) (.slice l.A l.k l.c)
    rw [hW5]
    clear hW5
    have hE := HE.out
    replace c := Env.c3 hE
    exact bodyPost_ret (v := .agg #[.bool k.neg, .slice k.A k.k k.c, .bool l.neg, .slice l.A l.k l.c]) (by simp [results, Tryz.results56, go_sem, c]) rfl ((by rw [← Hq.out]; exact hE.retR' (r := ⟨k, l⟩) rfl fun V h => RatN.md h.1 h.2 HC.out.1 HC.out.2 H1.out))

theorem zg2 {a : Rat} {p d : Int} (hd : 0 < d) (h : a = Rat.divInt p d) : a.num.sign = p.sign := by
 have hp : 0 < (a.den : Int) := Int.natCast_pos.2 a.den_pos
 have e : a.num * d = p * a.den := by
  rw [← Rat.divInt_eq_divInt_iff (by omega) (by omega), Rat.num_divInt_den, ← h]
 have e2 := congrArg Int.sign e
 rw [Int.sign_mul, Int.sign_mul, Int.sign_eq_one_of_pos hd, Int.sign_eq_one_of_pos hp] at e2
 omega
theorem sgn3 (x : Int) : x.sign = -1 ∨ x.sign = 0 ∨ x.sign = 1 := by
 rcases Int.lt_trichotomy x 0 with h | h | h
 ·exact .inl (Int.sign_eq_neg_one_of_neg h)
 ·exact .inr (.inl (by rw [h]; rfl))
 ·exact .inr (.inr (Int.sign_eq_one_of_pos h))
theorem zgY (x d : Int) : (Rat.divInt x d).num.sign = x.sign * d.sign := by
 rcases Int.lt_trichotomy d 0 with h | h | h
 ·have : Rat.divInt x d = Rat.divInt (-x) (-d) := by rw [Rat.divInt_eq_divInt_iff (by omega) (by omega)]; simp [Int.neg_mul, Int.mul_neg]
  rw [this, zg2 (by omega) rfl, Int.sign_neg, Int.sign_eq_neg_one_of_neg h]; omega
 ·rw [h, Rat.divInt_zero]; simp
 ·rw [zg2 h rfl, Int.sign_eq_one_of_pos h]; omega

theorem RatD.pa {r : RV} {q : Rat} {n : Nat} {w : World} (h : RatD r q n w) : ∃ x y X Y, IntD r.num x n w ∧ IntD r.den y n w ∧ (paN r x y = X ∧ paD r y = Y ∧ 0 < Y) ∧ Rat.divInt X Y = q := by
 obtain ⟨x, y, hx, hy, hq⟩ := h.ex
 exact ⟨x, y, _, _, hx, hy, ⟨rfl, rfl, zlj r y⟩, by rw [zmQ, hq]⟩
set_option maxRecDepth 100000 in
theorem zjr (w : World) (i j : IV) (x y : Int) (n : Nat) (hn : n ≤ 900000000000) (h1n : 1 ≤ n) (h : IntD i x n w) (h' : IntD j y n w) (hT : Tz w) :
 Calls Tryz.prog 76 #[iA i, iA j] w (RetR (Rat.divInt x y) w) := by
 have HE := zmZ (zm8 i j ((h.old).and ((h'.old).and (hT.old))))
 have c := Env.c3 HE.out
 have dd := Env.d3 HE.out
 clear h h' hT
 unfold iA
 go_enter Tryz.func76, Tryz.ntmps76
 go_wp2_with fail
 refine (zfT _ i j x y n (fun b => b < _ ∧ ∀ c ∈ [(⟨w.heap.size + 1 + 1, 41, #[.bool false, .slice none 0 0, .bool false, .slice none 0 0]⟩ : Bo), ⟨w.heap.size + 1, 39, #[.bool j.neg, .slice j.A j.k j.c]⟩, ⟨w.heap.size, 39, #[.bool i.neg, .slice i.A i.k i.c]⟩], c.g ≠ b) hn h1n ((HE.out.rso.imp fun V h => h.1).clip' fun _ h hb => ⟨hb, h⟩) ((HE.out.rso.imp fun V h => h.2.1).clip' fun _ h hb => ⟨hb, h⟩)).mono ?_
 rintro e w1 ⟨p, s, rfl, hk, hl, hb⟩
 have HK := zmZ hk.now
 have HL := zmZ hl.now
 replace HE := zmZ (Env.cx HE.out hb)
 replace c := Env.c3 HE.out
 clear hk hl hb
 go_wp2_with fail
 refine (zbE _ p s (ovN x y) (ovD y) (n) (by omega) HK.out HL.out (by first | exact HE.out.o.2.2 | exact HE.out.drew.o.2.2) (zh7 y)).mono ?_
 rintro e w9 ⟨q, rfl, hk, hb⟩
 replace HE := zmZ (Env.rx HE.out hk hb)
 replace c := Env.c3 HE.out
 clear hk hb
 go_wp2_with fail
 rw [← zlO x y]
 obtain ⟨W5, hW5, HE⟩ := Env.st4_0 HE.out (.bool q.num.neg) (.slice q.num.A q.num.k q.num.c) (.bool q.den.neg) (.slice q.den.A q.den.k q.den.c)
 rw [hW5]
 clear hW5
 have hE := HE.out
 replace c := Env.c3 hE
 exact bodyPost_ret (v := .agg #[.bool q.num.neg, .slice q.num.A q.num.k q.num.c, .bool q.den.neg, .slice q.den.A q.den.k q.den.c]) (by simp [results, Tryz.results76, go_sem, c]) rfl (hE.retR' rfl fun V h => h.1)
set_option maxRecDepth 100000 in
theorem zaG (w : World) (r : RV) (a : Rat) (n : Nat) (hn : n ≤ 900000000000) (h1n : 1 ≤ n) (h : RatD r a n w) (hT : Tz w) :
 Calls Tryz.prog 34 #[rA r] w (RetR a w) := by
 obtain ⟨x, y, X, Y, hx, hy, hq, rfl⟩ := h.pa
 have HA := zmZ hq
 have hn9 : n ≤ 900000000000 := by omega
 clear h hq
 have HE := zmZ (lyRZ r ((hx.old).and ((hy.old).and (hT.old))))
 have c := Env.c2 HE.out
 have dd := Env.d2 HE.out
 clear hx hy hT
 unfold rA
 go_enter Tryz.func34, Tryz.ntmps34
 go_wp2_with fail
 refine (Env.parts HE.out hn9 h1n (fun V h => h.1) (fun V h => h.2.1) HA.out.1 HA.out.2.1).mono ?_
 rintro e w1 ⟨i, j, rfl, hE⟩
 replace HE := zmZ hE
 replace c := Env.c2 HE.out
 clear hE
 have HL1 := zmZ (And.intro HE.out.o.1.lt HE.out.o.2.1.lt)
 go_wp2_with fail
 refine (zbE _ i j (X) (Y) (n) (by omega) (by first | exact HE.out.o.1 | exact HE.out.drew.o.1) (by first | exact HE.out.o.2.1 | exact HE.out.drew.o.2.1) (by first | exact HE.out.o.2.2.2.2 | exact HE.out.drew.o.2.2.2.2) HA.out.2.2).mono ?_
 rintro e w9 ⟨q, rfl, hk, hb⟩
 replace HE := zmZ (Env.rx HE.out hk hb)
 replace c := Env.c2 HE.out
 clear hk hb
 go_wp2_with fail
 obtain ⟨W5, hW5, HE⟩ := Env.st4_0 HE.out (.bool q.num.neg) (.slice q.num.A q.num.k q.num.c) (.bool q.den.neg) (.slice q.den.A q.den.k q.den.c)
 rw [hW5]
 clear hW5
 have hE := HE.out
 replace c := Env.c2 hE
 exact bodyPost_ret (v := .agg #[.bool q.num.neg, .slice q.num.A q.num.k q.num.c, .bool q.den.neg, .slice q.den.A q.den.k q.den.c]) (by simp [results, Tryz.results34, go_sem, c]) rfl (hE.retR' rfl fun V h => h.1)
set_option maxRecDepth 100000 in
theorem zi2 (w : World) (x y : Int) (h1 : -9223372036854775808 ≤ x) (h2 : x ≤ 9223372036854775807) (h3 : -9223372036854775808 ≤ y) (h4 : y ≤ 9223372036854775807) (hT : Tz w) :
 Calls Tryz.prog 41 #[.int .i64 x, .int .i64 y] w (RetR (Rat.divInt x y) w) := by
 have HLx := zmZ (show x.natAbs < B64 ^ 1 from by simp only [B64]; omega)
 have HLy := zmZ (show y.natAbs < B64 ^ 1 from by simp only [B64]; omega)
 have HE := zmZ (lyZ (hT.old))
 have c := Env.c1 HE.out
 clear hT
 go_enter Tryz.func41, Tryz.ntmps41
 go_wp2_with fail
 refine (zer _ x h1 h2).mono ?_
 rintro e w1 ⟨k, rfl, hk, hb⟩
 replace HE := zmZ (Env.rx HE.out hk hb)
 replace c := Env.c1 HE.out
 clear hk hb
 go_wp2_with fail
 refine (zer _ y h3 h4).mono ?_
 rintro e w2 ⟨l, rfl, hk, hb⟩
 replace HE := zmZ (Env.rx HE.out hk hb)
 replace c := Env.c1 HE.out
 clear hk hb
 go_wp2_with fail
 refine (zjr _ k l x y 1 (by decide) (by decide) (IntN.ofLt (by first | exact HE.out.n.2.1 | exact HE.out.drew.n.2.1) HLx.out) (IntN.ofLt (by first | exact HE.out.n.1 | exact HE.out.drew.n.1) HLy.out) (by first | exact HE.out.o | exact HE.out.drew.o)).mono ?_
 rintro e w9 ⟨q, rfl, hk, hb⟩
 replace HE := zmZ (Env.rx HE.out hk hb)
 replace c := Env.c1 HE.out
 clear hk hb
 go_wp2_with fail
 obtain ⟨W5, hW5, HE⟩ := Env.st4_0 HE.out (.bool q.num.neg) (.slice q.num.A q.num.k q.num.c) (.bool q.den.neg) (.slice q.den.A q.den.k q.den.c)
 rw [hW5]
 clear hW5
 have hE := HE.out
 replace c := Env.c1 hE
 exact bodyPost_ret (v := .agg #[.bool q.num.neg, .slice q.num.A q.num.k q.num.c, .bool q.den.neg, .slice q.den.A q.den.k q.den.c]) (by simp [results, Tryz.results41, go_sem, c]) rfl (hE.retR' rfl fun V h => h.1)
set_option maxRecDepth 100000 in
theorem zh0 (w : World) (r : RV) (a : Rat) (n : Nat) (hn : n ≤ 400000000000) (h : RatD r a n w) (hk : r.den.k = 0) :
 Calls Tryz.prog 86 #[rA r] w fun e w' => e = .returned (.int .i64 a.num.sign) ∧ Below w.heap.size w w' := by
 obtain ⟨x, d, hx, hd, hq⟩ := h.ex
 rw [if_pos hk] at hq
 have HQ := zmZ (show a.num.sign = x.sign by rw [hq, zgY]; simp)
 have hg1 : ¬ (0 : Int) < (r.den.k : Int) := by omega
 have HE := zmZ (lyR r ((hx.old).and (hd.old)))
 have c := Env.c1 HE.out
 clear h hx hd hq hk
 unfold rA
 go_enter Tryz.func86, Tryz.ntmps86
 go_wp2_with fail
 refine (zaj _ r.num x n (by omega) (by first | exact HE.out.o.1 | exact HE.out.drew.o.1)).mono ?_
 rintro e w1 ⟨rfl, hb⟩
 replace HE := zmZ (Env.cx HE.out hb)
 replace c := Env.c1 HE.out
 clear hb
 go_wp2_with fail
 go_ret
 exact ⟨by rw [HQ.out]; rfl, HE.out.bel⟩
set_option maxRecDepth 100000 in
theorem zgk (w : World) (r : RV) (a : Rat) (n : Nat) (hn : n ≤ 400000000000) (h : RatD r a n w) (hk : r.den.k ≠ 0) :
 Calls Tryz.prog 86 #[rA r] w fun e w' => e = .returned (.int .i64 a.num.sign) ∧ Below w.heap.size w w' := by
 obtain ⟨x, d, hx, hd, hq⟩ := h.ex
 rw [if_neg hk] at hq
 obtain ⟨sx, hsx⟩ : ∃ v, x.sign = v := ⟨_, rfl⟩
 obtain ⟨sd, hsd⟩ : ∃ v, d.sign = v := ⟨_, rfl⟩
 have HQ := zmZ (show a.num.sign = sx * sd by rw [hq, zgY, hsx, hsd])
 have h3 := sgn3 x
 have h3' := sgn3 d
 rw [hsx] at h3
 rw [hsd] at h3'
 have HX := zmZ hsx
 have HD := zmZ hsd
 have hg1 : (0 : Int) < (r.den.k : Int) := by omega
 clear hsx hsd
 have HE := zmZ (lyR r ((hx.old).and (hd.old)))
 have c := Env.c1 HE.out
 clear h hx hd hq hk
 rcases h3 with rfl | rfl | rfl <;> rcases h3' with rfl | rfl | rfl
 all_goals
  unfold rA
  go_enter Tryz.func86, Tryz.ntmps86
  go_wp2_with fail
  refine (zaj _ r.num x n (by omega) (by first | exact HE.out.o.1 | exact HE.out.drew.o.1)).mono ?_
  rintro e w1 ⟨rfl, hb⟩
  replace HE := zmZ (Env.cx HE.out hb)
  replace c := Env.c1 HE.out
  clear hb
  rw [HX.out]
  go_wp2_with fail
  refine (zaj _ r.den d n (by omega) (by first | exact HE.out.o.2 | exact HE.out.drew.o.2)).mono ?_
  rintro e w2 ⟨rfl, hb⟩
  replace HE := zmZ (Env.cx HE.out hb)
  clear hb c
  rw [HD.out]
  go_wp2_with fail
  go_ret
  exact ⟨by rw [HQ.out]; rfl, HE.out.bel⟩
theorem zdA (w : World) (r : RV) (a : Rat) (n : Nat) (hn : n ≤ 400000000000) (h : RatD r a n w) : Calls Tryz.prog 86 #[rA r] w fun e w' => e = .returned (.int .i64 a.num.sign) ∧ Below w.heap.size w w' := by
 by_cases hk : r.den.k = 0
 ·exact zh0 w r a n hn h hk
 ·exact zgk w r a n hn h hk
end Go.Proofs.YtikmgoefjbhcjaaGreatDoor
