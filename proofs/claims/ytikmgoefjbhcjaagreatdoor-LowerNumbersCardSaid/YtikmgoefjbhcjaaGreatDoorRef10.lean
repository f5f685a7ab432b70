/-
 tripwireref04: Parts, Norm, Add, Mul, Quo, Neg, Sign, Cmp.
-/
import Derived.Test.YtikmgoefjbhcjaaGreatDoorRef7
namespace Go.Proofs.YtikmgoefjbhcjaaGreatDoor
set_option maxHeartbeats 2000000
open Go.RowKit

def ptN (r : RV) (x y : Int) : Int := if r.den.k = 0 then x else if y = 0 then 0 else if y < 0 then -x else x
def ptD (r : RV) (y : Int) : Int := if r.den.k = 0 then 1 else if y = 0 then 1 else if y < 0 then -y else y
theorem znB (r : RV) (y : Int) : 0 < ptD r y := by
 unfold ptD; split; decide; split; decide; split <;> omega
theorem zmK (r : RV) (x y : Int) : Rat.divInt (ptN r x y) (ptD r y) = if r.den.k = 0 then Rat.divInt x 1 else Rat.divInt x y := by
 unfold ptN ptD
 split
 ·rfl
 ·split
  ·rename_i h; rw [h]; simp [Rat.divInt_zero]
  ·split
   ·exact Rat.neg_divInt_neg x y
   ·rfl
theorem zoT {r : RV} {x y : Int} {n : Nat} (hx : x.natAbs < B64 ^ n) (hy : y.natAbs < B64 ^ n) (h1 : 1 ≤ n) : (ptN r x y).natAbs < B64 ^ n ∧ (ptD r y).natAbs < B64 ^ n := by
 have h2 : 1 < B64 ^ n := Nat.lt_of_lt_of_le (by decide : 1 < B64 ^ 1) (Nat.pow_le_pow_right za0 h1)
 unfold ptN ptD
 refine ⟨?_, ?_⟩
 ·split; exact hx; split; simp; omega; split <;> omega
 ·split; simpa using h2; split; simpa using h2; split <;> omega
set_option maxRecDepth 100000 in
theorem zpm (w : World) (r : RV) (x y : Int) (n : Nat) (hn : n ≤ 10000) (hx : IntD r.num x n w) (hy : IntD r.den y n w) (hk0 : r.den.k = 0) :
 Calls Tryz.prog 112 #[rA r] w (zhb x 1 w) := by
 have HE := zmZ (zlR r ((hx.old).and (hy.old)))
 have c := Env.c3 HE.out
 have dd := Env.d3 HE.out
 have hq : ((r.den.k : Int) == 0) = true := by simp [hk0]
 clear hk0
 clear hx hy
 unfold rA
 go_enter Tryz.func112, Tryz.ntmps112
 go_wp2_with fail
 refine (zn5 _ r.num x n (by omega) (by first | exact HE.out.o.1 | exact HE.out.drew.o.1)).mono ?_
 rintro e w1 ⟨i, rfl, hk, hb⟩
 replace HE := zmZ (Env.rx HE.out hk hb)
 replace c := Env.c3 HE.out
 clear hk hb
 go_upto_region 2 with fail
 obtain ⟨W2, g4, hW2, hg4, HE⟩ := Env.al HE.out 39 #[.bool i.neg, .slice i.A i.k i.c]
 rw [hW2, hg4]
 clear hW2 hg4
 replace c := Env.c4 HE.out
 replace dd := Env.d4 HE.out
 go_wp2_with fail
 refine (zn5 _ r.den y n (by omega) (by first | exact HE.out.o.2 | exact HE.out.drew.o.2)).mono ?_
 rintro e w3 ⟨j, rfl, hk, hb⟩
 replace HE := zmZ (Env.rx HE.out hk hb)
 replace c := Env.c4 HE.out
 clear hk hb
 go_upto_region 3 with fail
 obtain ⟨W4, g5, hW4, hg5, HE⟩ := Env.al HE.out 39 #[.bool j.neg, .slice j.A j.k j.c]
 rw [hW4, hg5]
 clear hW4 hg5
 replace c := Env.c5 HE.out
 replace dd := Env.d5 HE.out
 go_wp2_with fail
 refine (znq _ 1 (by decide) (by decide)).mono ?_
 rintro e w1 ⟨k, rfl, hk, hb⟩
 replace HE := zmZ (Env.rx HE.out hk hb)
 replace c := Env.c5 HE.out
 clear hk hb
 go_wp2_with fail
 obtain ⟨W5, hW5, HE⟩ := Env.st2_0 HE.out (.bool k.neg) (.slice k.A k.k k.c)
 rw [hW5]
 clear hW5
 replace c := Env.c5 HE.out
 refine (zn1 _ k 1 1 (by decide) (IntN.ofLt (by first | exact HE.out.n.1 | exact HE.out.drew.n.1) (by decide))).mono ?_
 rintro e w2 ⟨rfl, hb⟩
 replace HE := zmZ (Env.cx HE.out hb)
 replace c := Env.c5 HE.out
 clear hb
 have hs1 : ((1 : Int).sign == 0) = false := rfl
 have HN := zmZ (show IntN k 1 _ from HE.out.n.1)
 have hng : k.neg = false := by rw [HN.out.neg]; rfl
 clear HN
 go_upto_region 10 with fail
 clear hng
 go_region_held3 (fun W => CB (g4) #[.bool i.neg, .slice i.A i.k i.c] W ∧ CB (g5) #[.bool k.neg, .slice k.A k.k k.c] W) (first | exact ⟨c.2.1, c.1⟩ | ((repeat' apply And.intro) <;> go_keep)) (fail)
 all_goals
  go_wp2_with fail
  first
  | (have hE := ((HE.out.put2_3 (.bool i.neg) (.slice i.A i.k i.c)).put2_2 (.bool k.neg) (.slice k.A k.k k.c)).drew; replace c := Env.c5 hE; exact bodyPost_ret (v := .tuple #[.agg #[.bool i.neg, .slice i.A i.k i.c], .agg #[.bool k.neg, .slice k.A k.k k.c]]) (by simp [results, Tryz.results112, go_sem, c]) rfl (hE.retZ2 (fun _ h => h.2.2.1) fun _ h => h.1))
  | (have hE := ((HE.out.put2_2 (.bool k.neg) (.slice k.A k.k k.c)).put2_3 (.bool i.neg) (.slice i.A i.k i.c)).drew; replace c := Env.c5 hE; exact bodyPost_ret (v := .tuple #[.agg #[.bool i.neg, .slice i.A i.k i.c], .agg #[.bool k.neg, .slice k.A k.k k.c]]) (by simp [results, Tryz.results112, go_sem, c]) rfl (hE.retZ2 (fun _ h => h.2.2.1) fun _ h => h.1))
  | (have hE := (HE.out.put2_3 (.bool i.neg) (.slice i.A i.k i.c)).put2_2 (.bool k.neg) (.slice k.A k.k k.c); replace c := Env.c5 hE; exact bodyPost_ret (v := .tuple #[.agg #[.bool i.neg, .slice i.A i.k i.c], .agg #[.bool k.neg, .slice k.A k.k k.c]]) (by simp [results, Tryz.results112, go_sem, c]) rfl (hE.retZ2 (fun _ h => h.2.2.1) fun _ h => h.1))
  | (have hE := (HE.out.put2_2 (.bool k.neg) (.slice k.A k.k k.c)).put2_3 (.bool i.neg) (.slice i.A i.k i.c); replace c := Env.c5 hE; exact bodyPost_ret (v := .tuple #[.agg #[.bool i.neg, .slice i.A i.k i.c], .agg #[.bool k.neg, .slice k.A k.k k.c]]) (by simp [results, Tryz.results112, go_sem, c]) rfl (hE.retZ2 (fun _ h => h.2.2.1) fun _ h => h.1))
set_option maxRecDepth 100000 in
theorem zpu (w : World) (r : RV) (x y : Int) (n : Nat) (hn : n ≤ 10000) (hx : IntD r.num x n w) (hy : IntD r.den y n w) (hk0 : r.den.k ≠ 0) (h0 : y = 0) :
 Calls Tryz.prog 112 #[rA r] w (zhb 0 1 w) := by
 have HE := zmZ (zlR r ((hx.old).and (hy.old)))
 have c := Env.c3 HE.out
 have dd := Env.d3 HE.out
 have hq : ((r.den.k : Int) == 0) = false := by simp; omega
 have Hly := zmZ hy.lt
 have Hlx := zmZ hx.lt
 have H0 := zmZ h0
 have hs1 : (y.sign == 0) = true := by rw [h0]; rfl
 clear h0
 clear hx hy
 unfold rA
 go_enter Tryz.func112, Tryz.ntmps112
 go_wp2_with fail
 refine (zn5 _ r.num x n (by omega) (by first | exact HE.out.o.1 | exact HE.out.drew.o.1)).mono ?_
 rintro e w1 ⟨i, rfl, hk, hb⟩
 replace HE := zmZ (Env.rx HE.out hk hb)
 replace c := Env.c3 HE.out
 clear hk hb
 go_upto_region 2 with fail
 obtain ⟨W2, g4, hW2, hg4, HE⟩ := Env.al HE.out 39 #[.bool i.neg, .slice i.A i.k i.c]
 rw [hW2, hg4]
 clear hW2 hg4
 replace c := Env.c4 HE.out
 replace dd := Env.d4 HE.out
 go_wp2_with fail
 refine (zn5 _ r.den y n (by omega) (by first | exact HE.out.o.2 | exact HE.out.drew.o.2)).mono ?_
 rintro e w3 ⟨j, rfl, hk, hb⟩
 replace HE := zmZ (Env.rx HE.out hk hb)
 replace c := Env.c4 HE.out
 clear hk hb
 go_upto_region 3 with fail
 obtain ⟨W4, g5, hW4, hg5, HE⟩ := Env.al HE.out 39 #[.bool j.neg, .slice j.A j.k j.c]
 rw [hW4, hg5]
 clear hW4 hg5
 replace c := Env.c5 HE.out
 replace dd := Env.d5 HE.out
 go_wp2_with fail
 refine (zn1 _ j y n (by omega) (IntN.ofLt (by first | exact HE.out.n.1 | exact HE.out.drew.n.1) Hly.out)).mono ?_
 rintro e w5 ⟨rfl, hb⟩
 replace HE := zmZ (Env.cx HE.out hb)
 replace c := Env.c5 HE.out
 clear hb
 have HN := zmZ (show IntN j y _ from HE.out.n.1)
 have hng : j.neg = decide (y < 0) := HN.out.neg
 clear HN
 clear hng
 go_wp2_with fail
 refine (znq _ 1 (by decide) (by decide)).mono ?_
 rintro e w6 ⟨k, rfl, hk, hb⟩
 replace HE := zmZ (Env.rx HE.out hk hb)
 replace c := Env.c5 HE.out
 clear hk hb
 go_wp2_with fail
 first
 | (have hE := ((HE.out.put2_3 (.bool false) (.slice none 0 0)).put2_2 (.bool k.neg) (.slice k.A k.k k.c)); replace c := Env.c5 hE; exact bodyPost_ret (v := .tuple #[.agg #[.bool false, .slice none 0 0], .agg #[.bool k.neg, .slice k.A k.k k.c]]) (by simp [results, Tryz.results112, go_sem, c]) rfl (hE.retZ2 (i := ⟨false, none, 0, 0⟩) (fun V _ => zcM V) fun _ h => h.1))
 | (have hE := ((HE.out.put2_3 (.bool false) (.slice none 0 0)).put2_2 (.bool k.neg) (.slice k.A k.k k.c)).drew; replace c := Env.c5 hE; exact bodyPost_ret (v := .tuple #[.agg #[.bool false, .slice none 0 0], .agg #[.bool k.neg, .slice k.A k.k k.c]]) (by simp [results, Tryz.results112, go_sem, c]) rfl (hE.retZ2 (i := ⟨false, none, 0, 0⟩) (fun V _ => zcM V) fun _ h => h.1))
set_option maxRecDepth 100000 in
theorem zpi (w : World) (r : RV) (x y : Int) (n : Nat) (hn : n ≤ 10000) (hx : IntD r.num x n w) (hy : IntD r.den y n w) (hk0 : r.den.k ≠ 0) (h0 : 0 < y) :
 Calls Tryz.prog 112 #[rA r] w (zhb x y w) := by
 have HE := zmZ (zlR r ((hx.old).and (hy.old)))
 have c := Env.c3 HE.out
 have dd := Env.d3 HE.out
 have hq : ((r.den.k : Int) == 0) = false := by simp; omega
 have Hly := zmZ hy.lt
 have Hlx := zmZ hx.lt
 have H0 := zmZ h0
 have hs1 : (y.sign == 0) = false := by rw [Int.sign_eq_one_of_pos h0]; rfl
 clear h0
 clear hx hy
 unfold rA
 go_enter Tryz.func112, Tryz.ntmps112
 go_wp2_with fail
 refine (zn5 _ r.num x n (by omega) (by first | exact HE.out.o.1 | exact HE.out.drew.o.1)).mono ?_
 rintro e w1 ⟨i, rfl, hk, hb⟩
 replace HE := zmZ (Env.rx HE.out hk hb)
 replace c := Env.c3 HE.out
 clear hk hb
 go_upto_region 2 with fail
 obtain ⟨W2, g4, hW2, hg4, HE⟩ := Env.al HE.out 39 #[.bool i.neg, .slice i.A i.k i.c]
 rw [hW2, hg4]
 clear hW2 hg4
 replace c := Env.c4 HE.out
 replace dd := Env.d4 HE.out
 go_wp2_with fail
 refine (zn5 _ r.den y n (by omega) (by first | exact HE.out.o.2 | exact HE.out.drew.o.2)).mono ?_
 rintro e w3 ⟨j, rfl, hk, hb⟩
 replace HE := zmZ (Env.rx HE.out hk hb)
 replace c := Env.c4 HE.out
 clear hk hb
 go_upto_region 3 with fail
 obtain ⟨W4, g5, hW4, hg5, HE⟩ := Env.al HE.out 39 #[.bool j.neg, .slice j.A j.k j.c]
 rw [hW4, hg5]
 clear hW4 hg5
 replace c := Env.c5 HE.out
 replace dd := Env.d5 HE.out
 go_wp2_with fail
 refine (zn1 _ j y n (by omega) (IntN.ofLt (by first | exact HE.out.n.1 | exact HE.out.drew.n.1) Hly.out)).mono ?_
 rintro e w5 ⟨rfl, hb⟩
 replace HE := zmZ (Env.cx HE.out hb)
 replace c := Env.c5 HE.out
 clear hb
 have HN := zmZ (show IntN j y _ from HE.out.n.1)
 have hng : j.neg = decide (y < 0) := HN.out.neg
 clear HN
 rw [decide_eq_false (by have := H0.out; omega)] at hng
 go_upto_region 10 with fail
 clear hng
 go_region_held3 (fun W => CB (g4) #[.bool i.neg, .slice i.A i.k i.c] W ∧ CB (g5) #[.bool j.neg, .slice j.A j.k j.c] W) (first | exact ⟨c.2.1, c.1⟩ | ((repeat' apply And.intro) <;> go_keep)) (fail)
 all_goals
  go_wp2_with fail
  first
  | (have hE := ((HE.out.put2_3 (.bool i.neg) (.slice i.A i.k i.c)).put2_2 (.bool j.neg) (.slice j.A j.k j.c)).drew; replace c := Env.c5 hE; exact bodyPost_ret (v := .tuple #[.agg #[.bool i.neg, .slice i.A i.k i.c], .agg #[.bool j.neg, .slice j.A j.k j.c]]) (by simp [results, Tryz.results112, go_sem, c]) rfl (hE.retZ2 (fun _ h => h.2.1) fun _ h => h.1))
  | (have hE := ((HE.out.put2_2 (.bool j.neg) (.slice j.A j.k j.c)).put2_3 (.bool i.neg) (.slice i.A i.k i.c)).drew; replace c := Env.c5 hE; exact bodyPost_ret (v := .tuple #[.agg #[.bool i.neg, .slice i.A i.k i.c], .agg #[.bool j.neg, .slice j.A j.k j.c]]) (by simp [results, Tryz.results112, go_sem, c]) rfl (hE.retZ2 (fun _ h => h.2.1) fun _ h => h.1))
  | (have hE := (HE.out.put2_3 (.bool i.neg) (.slice i.A i.k i.c)).put2_2 (.bool j.neg) (.slice j.A j.k j.c); replace c := Env.c5 hE; exact bodyPost_ret (v := .tuple #[.agg #[.bool i.neg, .slice i.A i.k i.c], .agg #[.bool j.neg, .slice j.A j.k j.c]]) (by simp [results, Tryz.results112, go_sem, c]) rfl (hE.retZ2 (fun _ h => h.2.1) fun _ h => h.1))
  | (have hE := (HE.out.put2_2 (.bool j.neg) (.slice j.A j.k j.c)).put2_3 (.bool i.neg) (.slice i.A i.k i.c); replace c := Env.c5 hE; exact bodyPost_ret (v := .tuple #[.agg #[.bool i.neg, .slice i.A i.k i.c], .agg #[.bool j.neg, .slice j.A j.k j.c]]) (by simp [results, Tryz.results112, go_sem, c]) rfl (hE.retZ2 (fun _ h => h.2.1) fun _ h => h.1))
set_option maxRecDepth 100000 in
theorem zpe (w : World) (r : RV) (x y : Int) (n : Nat) (hn : n ≤ 10000) (hx : IntD r.num x n w) (hy : IntD r.den y n w) (hk0 : r.den.k ≠ 0) (h0 : y < 0) :
 Calls Tryz.prog 112 #[rA r] w (zhb (-x) (-y) w) := by
 have HE := zmZ (zlR r ((hx.old).and (hy.old)))
 have c := Env.c3 HE.out
 have dd := Env.d3 HE.out
 have hq : ((r.den.k : Int) == 0) = false := by simp; omega
 have Hly := zmZ hy.lt
 have Hlx := zmZ hx.lt
 have H0 := zmZ h0
 have hs1 : (y.sign == 0) = false := by rw [Int.sign_eq_neg_one_of_neg h0]; rfl
 clear h0
 clear hx hy
 unfold rA
 go_enter Tryz.func112, Tryz.ntmps112
 go_wp2_with fail
 refine (zn5 _ r.num x n (by omega) (by first | exact HE.out.o.1 | exact HE.out.drew.o.1)).mono ?_
 rintro e w1 ⟨i, rfl, hk, hb⟩
 replace HE := zmZ (Env.rx HE.out hk hb)
 replace c := Env.c3 HE.out
 clear hk hb
 go_upto_region 2 with fail
 obtain ⟨W2, g4, hW2, hg4, HE⟩ := Env.al HE.out 39 #[.bool i.neg, .slice i.A i.k i.c]
 rw [hW2, hg4]
 clear hW2 hg4
 replace c := Env.c4 HE.out
 replace dd := Env.d4 HE.out
 go_wp2_with fail
 refine (zn5 _ r.den y n (by omega) (by first | exact HE.out.o.2 | exact HE.out.drew.o.2)).mono ?_
 rintro e w3 ⟨j, rfl, hk, hb⟩
 replace HE := zmZ (Env.rx HE.out hk hb)
 replace c := Env.c4 HE.out
 clear hk hb
 go_upto_region 3 with fail
 obtain ⟨W4, g5, hW4, hg5, HE⟩ := Env.al HE.out 39 #[.bool j.neg, .slice j.A j.k j.c]
 rw [hW4, hg5]
 clear hW4 hg5
 replace c := Env.c5 HE.out
 replace dd := Env.d5 HE.out
 go_wp2_with fail
 refine (zn1 _ j y n (by omega) (IntN.ofLt (by first | exact HE.out.n.1 | exact HE.out.drew.n.1) Hly.out)).mono ?_
 rintro e w5 ⟨rfl, hb⟩
 replace HE := zmZ (Env.cx HE.out hb)
 replace c := Env.c5 HE.out
 clear hb
 have HN := zmZ (show IntN j y _ from HE.out.n.1)
 have hng : j.neg = decide (y < 0) := HN.out.neg
 clear HN
 rw [decide_eq_true H0.out] at hng
 go_upto_region 8 with fail
 clear hng
 go_wp2_with fail
 refine (zno _ i x n (by omega) (IntN.ofLt (by first | exact HE.out.n.2.1 | exact HE.out.drew.n.2.1) Hlx.out)).mono ?_
 rintro e w6 ⟨k, rfl, hk, hb⟩
 replace HE := zmZ (Env.rx HE.out hk hb)
 replace c := Env.c5 HE.out
 clear hk hb
 go_wp2_with fail
 obtain ⟨W7, hW7, HE⟩ := Env.st2_1 HE.out (.bool k.neg) (.slice k.A k.k k.c)
 rw [hW7]
 clear hW7
 replace c := Env.c5 HE.out
 refine (zno _ j y n (by omega) (IntN.ofLt (by first | exact HE.out.n.2.1 | exact HE.out.drew.n.2.1) Hly.out)).mono ?_
 rintro e w8 ⟨l, rfl, hk, hb⟩
 replace HE := zmZ (Env.rx HE.out hk hb)
 replace c := Env.c5 HE.out
 clear hk hb
 go_wp2_with fail
 obtain ⟨W9, hW9, HE⟩ := Env.st2_0 HE.out (.bool l.neg) (.slice l.A l.k l.c)
 rw [hW9]
 clear hW9
 replace c := Env.c5 HE.out
 go_region_held3 (fun W => CB (g4) #[.bool k.neg, .slice k.A k.k k.c] W ∧ CB (g5) #[.bool l.neg, .slice l.A l.k l.c] W) (first | exact ⟨c.2.1, c.1⟩ | ((repeat' apply And.intro) <;> go_keep)) (fail)
 all_goals
  go_wp2_with fail
  first
  | (have hE := ((HE.out.put2_3 (.bool k.neg) (.slice k.A k.k k.c)).put2_2 (.bool l.neg) (.slice l.A l.k l.c)).drew; replace c := Env.c5 hE; exact bodyPost_ret (v := .tuple #[.agg #[.bool k.neg, .slice k.A k.k k.c], .agg #[.bool l.neg, .slice l.A l.k l.c]]) (by simp [results, Tryz.results112, go_sem, c]) rfl (hE.retZ2 (fun _ h => h.2.1) fun _ h => h.1))
  | (have hE := ((HE.out.put2_2 (.bool l.neg) (.slice l.A l.k l.c)).put2_3 (.bool k.neg) (.slice k.A k.k k.c)).drew; replace c := Env.c5 hE; exact bodyPost_ret (v := .tuple #[.agg #[.bool k.neg, .slice k.A k.k k.c], .agg #[.bool l.neg, .slice l.A l.k l.c]]) (by simp [results, Tryz.results112, go_sem, c]) rfl (hE.retZ2 (fun _ h => h.2.1) fun _ h => h.1))
  | (have hE := (HE.out.put2_3 (.bool k.neg) (.slice k.A k.k k.c)).put2_2 (.bool l.neg) (.slice l.A l.k l.c); replace c := Env.c5 hE; exact bodyPost_ret (v := .tuple #[.agg #[.bool k.neg, .slice k.A k.k k.c], .agg #[.bool l.neg, .slice l.A l.k l.c]]) (by simp [results, Tryz.results112, go_sem, c]) rfl (hE.retZ2 (fun _ h => h.2.1) fun _ h => h.1))
  | (have hE := (HE.out.put2_2 (.bool l.neg) (.slice l.A l.k l.c)).put2_3 (.bool k.neg) (.slice k.A k.k k.c); replace c := Env.c5 hE; exact bodyPost_ret (v := .tuple #[.agg #[.bool k.neg, .slice k.A k.k k.c], .agg #[.bool l.neg, .slice l.A l.k l.c]]) (by simp [results, Tryz.results112, go_sem, c]) rfl (hE.retZ2 (fun _ h => h.2.1) fun _ h => h.1))
theorem znc (w : World) (r : RV) (x y : Int) (n : Nat) (hn : n ≤ 10000) (hx : IntD r.num x n w) (hy : IntD r.den y n w) : Calls Tryz.prog 112 #[rA r] w (zhb (ptN r x y) (ptD r y) w) := by
 unfold ptN ptD
 by_cases hk : r.den.k = 0
 ·rw [if_pos hk, if_pos hk]; exact zpm w r x y n hn hx hy hk
 ·rw [if_neg hk, if_neg hk]
  rcases Int.lt_trichotomy y 0 with h | h | h
  ·rw [if_neg (show ¬ y = 0 by omega), if_neg (show ¬ y = 0 by omega), if_pos h, if_pos h]; exact zpe w r x y n hn hx hy hk h
  ·rw [if_pos h, if_pos h]; exact zpu w r x y n hn hx hy hk h
  ·rw [if_neg (show ¬ y = 0 by omega), if_neg (show ¬ y = 0 by omega), if_neg (show ¬ y < 0 by omega), if_neg (show ¬ y < 0 by omega)]; exact zpi w r x y n hn hx hy hk h
end Go.Proofs.YtikmgoefjbhcjaaGreatDoor
