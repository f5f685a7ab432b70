/-
 tripwireref04: Norm, Neg, Sign, Add, Mul, Quo, Cmp.
-/
import Derived.Test.YtikmgoefjbhcjaaGreatDoorRef10
namespace Go.Proofs.YtikmgoefjbhcjaaGreatDoor
set_option maxHeartbeats 2000000
open Go.RowKit

theorem zrc {x y : Int} {n : Nat} (hx : x.natAbs < B64 ^ n) (hy : y.natAbs < B64 ^ n) : (x + y).natAbs < B64 ^ (n + 1) := by
 have h3 : 2 * B64 ^ n ≤ B64 ^ (n + 1) := by rw [Nat.pow_succ, Nat.mul_comm]; exact Nat.mul_le_mul_left _ (by decide)
 omega
theorem zri {x y z t : Int} (hy : 0 < y) (ht : 0 < t) : Rat.divInt (x * t + z * y) (y * t) = Rat.divInt x y + Rat.divInt z t := by
 rw [Rat.divInt_add_divInt _ _ (by omega) (by omega)]
theorem zq7 {x y z t : Int} : Rat.divInt (x * z) (y * t) = Rat.divInt x y * Rat.divInt z t := by
 rw [Rat.divInt_mul_divInt]
theorem RatD.parts {r : RV} {q : Rat} {n : Nat} {w : World} (h : RatD r q n w) : ∃ x y, IntD r.num x n w ∧ IntD r.den y n w ∧ Rat.divInt (ptN r x y) (ptD r y) = q := by
 obtain ⟨x, y, hx, hy, hq⟩ := h.ex
 exact ⟨x, y, hx, hy, by rw [zmK, hq]⟩
set_option maxRecDepth 100000 in
theorem znC (w : World) (r : RV) (a : Rat) (n : Nat) (hn : n ≤ 10000) (h1n : 1 ≤ n) (ha : RatD r a n w) :
 Calls Tryz.prog 68 #[rA r] w (RetR a w) := by
 obtain ⟨x, y, hx, hy, rfl⟩ := ha.parts
 have Hl := zmZ (zoT (r := r) hx.lt hy.lt h1n)
 have Hd := zmZ (znB r y)
 clear ha
 have HE := zmZ (lyRZ r ((hx.old).and (hy.old)))
 have c := Env.c2 HE.out
 have dd := Env.d2 HE.out
 clear hx hy
 unfold rA
 go_enter Tryz.func68, Tryz.ntmps68
 go_wp2_with fail
 refine (znc _ r x y n hn (by first | exact HE.out.o.1 | exact HE.out.drew.o.1) (by first | exact HE.out.o.2 | exact HE.out.drew.o.2)).mono ?_
 rintro e w1 ⟨i, j, rfl, hk, hk', hb⟩
 replace HE := zmZ (Env.rx HE.out (hk.and hk') hb)
 replace c := Env.c2 HE.out
 clear hk hk' hb
 go_upto_region 2 with fail
 obtain ⟨W2, g3, g4, hW2, hg2, hg3, HE⟩ := Env.al2 HE.out 39 39 #[.bool i.neg, .slice i.A i.k i.c] #[.bool j.neg, .slice j.A j.k j.c]
 rw [hW2, hg2, hg3]
 clear hW2 hg2 hg3
 replace c := Env.c4 HE.out
 replace dd := Env.d4 HE.out
 go_wp2_with fail
 generalize ptN r x y = X at *
 generalize ptD r y = Y at *
 refine (znn _ i j X Y n hn (IntN.ofLt (by first | exact HE.out.n.1.1 | exact HE.out.drew.n.1.1) Hl.out.1) (IntN.ofLt (by first | exact HE.out.n.1.2 | exact HE.out.drew.n.1.2) Hl.out.2) Hd.out).mono ?_
 rintro e w5 ⟨q, rfl, hk, hb⟩
 replace HE := zmZ (Env.rx HE.out hk hb)
 replace c := Env.c4 HE.out
 clear hk hb
 go_wp2_with fail
 have hE := HE.out.put4_2 (.bool q.num.neg) (.slice q.num.A q.num.k q.num.c) (.bool q.den.neg) (.slice q.den.A q.den.k q.den.c)
 replace c := Env.c4 hE
 exact bodyPost_ret (v := .agg #[.bool q.num.neg, .slice q.num.A q.num.k q.num.c, .bool q.den.neg, .slice q.den.A q.den.k q.den.c]) (by simp [results, Tryz.results68, go_sem, c]) rfl (hE.retR' rfl fun _ h => h.1)
theorem zoQ {x y : Int} (hy : 0 < y) : (Rat.divInt x y).num.sign = x.sign := by
 rw [(zfx hy).1]
 have hg : 0 < ((Nat.gcd x.natAbs y.natAbs : Nat) : Int) := by have := Nat.gcd_pos_of_pos_right x.natAbs (show 0 < y.natAbs by omega); omega
 have hd : ((Nat.gcd x.natAbs y.natAbs : Nat) : Int) ∣ x := Int.ofNat_dvd_left.2 (Nat.gcd_dvd_left _ _)
 obtain ⟨k, hk⟩ := hd
 generalize ((Nat.gcd x.natAbs y.natAbs : Nat) : Int) = g at *
 rw [hk, Int.mul_ediv_cancel_left _ (by omega), Int.sign_mul, Int.sign_eq_one_of_pos hg, Int.one_mul]
set_option maxRecDepth 100000 in
theorem znU (w : World) (r : RV) (a : Rat) (n : Nat) (hn : n ≤ 10000) (h1n : 1 ≤ n) (ha : RatD r a n w) :
 Calls Tryz.prog 204 #[rA r] w fun e w' => e = .returned (.int .i64 a.num.sign) ∧ Below w.heap.size w w' := by
 obtain ⟨x, y, hx, hy, rfl⟩ := ha.parts
 have Hl := zmZ (zoT (r := r) hx.lt hy.lt h1n)
 have Hd := zmZ (znB r y)
 clear ha
 have HE := zmZ (lyR r ((hx.old).and (hy.old)))
 have c := Env.c1 HE.out
 clear hx hy
 rw [zoQ (znB r y)]
 unfold rA
 go_enter Tryz.func204, Tryz.ntmps204
 go_wp2_with fail
 refine (znc _ r x y n hn (by first | exact HE.out.o.1 | exact HE.out.drew.o.1) (by first | exact HE.out.o.2 | exact HE.out.drew.o.2)).mono ?_
 rintro e w1 ⟨i, j, rfl, hk, hk', hb⟩
 replace HE := zmZ (Env.rx HE.out (hk.and hk') hb)
 replace c := Env.c1 HE.out
 clear hk hk' hb
 go_upto_region 2 with fail
 obtain ⟨W2, g3, g4, hW2, hg2, hg3, HE⟩ := Env.al2 HE.out 39 39 #[.bool i.neg, .slice i.A i.k i.c] #[.bool j.neg, .slice j.A j.k j.c]
 rw [hW2, hg2, hg3]
 clear hW2 hg2 hg3
 replace c := Env.c3 HE.out
 have dd := Env.d3 HE.out
 go_wp2_with fail
 generalize hX : ptN r x y = X at *
 generalize ptD r y = Y at *
 refine (zn1 _ i X n (by omega) (IntN.ofLt (by first | exact HE.out.n.1.1 | exact HE.out.drew.n.1.1) Hl.out.1)).mono ?_
 rintro e w5 ⟨rfl, hb⟩
 replace HE := zmZ (Env.cx HE.out hb)
 clear hb c
 go_wp2_with fail
 go_ret
 exact ⟨by rw [hX]; rfl, HE.out.bel⟩
set_option maxRecDepth 100000 in
theorem zoG (w : World) (r : RV) (a : Rat) (n : Nat) (hn : n ≤ 10000) (h1n : 1 ≤ n) (ha : RatD r a n w) :
 Calls Tryz.prog 110 #[rA r] w (RetR (-a) w) := by
 obtain ⟨x, y, hx, hy, rfl⟩ := ha.parts
 have Hl := zmZ (zoT (r := r) hx.lt hy.lt h1n)
 have Hd := zmZ (znB r y)
 clear ha
 have HE := zmZ (lyRZ r ((hx.old).and (hy.old)))
 have c := Env.c2 HE.out
 have dd := Env.d2 HE.out
 clear hx hy
 unfold rA
 go_enter Tryz.func110, Tryz.ntmps110
 go_wp2_with fail
 refine (znc _ r x y n hn (by first | exact HE.out.o.1 | exact HE.out.drew.o.1) (by first | exact HE.out.o.2 | exact HE.out.drew.o.2)).mono ?_
 rintro e w1 ⟨i, j, rfl, hk, hk', hb⟩
 replace HE := zmZ (Env.rx HE.out (hk.and hk') hb)
 replace c := Env.c2 HE.out
 clear hk hk' hb
 go_upto_region 2 with fail
 obtain ⟨W2, g3, g4, hW2, hg2, hg3, HE⟩ := Env.al2 HE.out 39 39 #[.bool i.neg, .slice i.A i.k i.c] #[.bool j.neg, .slice j.A j.k j.c]
 rw [hW2, hg2, hg3]
 clear hW2 hg2 hg3
 replace c := Env.c4 HE.out
 replace dd := Env.d4 HE.out
 go_wp2_with fail
 generalize ptN r x y = X at *
 generalize ptD r y = Y at *
 go_region_held3 (fun W => CB (g3) #[.bool i.neg, .slice i.A i.k i.c] W ∧ CB (g4) #[.bool j.neg, .slice j.A j.k j.c] W) (first | exact ⟨c.2.1, c.1⟩ | ((repeat' apply And.intro) <;> go_keep))
  (first
   | (go_at_call 158; go_must (refine (zno _ i X n (by omega) (IntN.ofLt (by first | exact HE.out.n.1.1 | exact HE.out.drew.n.1.1) Hl.out.1)).mono ?_; rintro e w1 ⟨k, rfl, hk, hb⟩; replace HE := zmZ (Env.rx HE.out hk hb); replace c := Env.c4 HE.out; clear hk hb))
   | (go_at_call 113; go_must (refine (znn _ k j (-X) Y n hn (IntN.ofLt (by first | exact HE.out.n.1 | exact HE.out.drew.n.1) (by rw [Int.natAbs_neg]; exact Hl.out.1)) (IntN.ofLt (by first | exact HE.out.n.2.1.2 | exact HE.out.drew.n.2.1.2) Hl.out.2) Hd.out).mono ?_; rintro e w2 ⟨q, rfl, hk, hb⟩; replace HE := zmZ (Env.rx HE.out hk hb); replace c := Env.c4 HE.out; clear hk hb)))
 go_wp2_with fail
 rw [Rat.neg_divInt]
 have hE := HE.out.put4_2 (.bool q.num.neg) (.slice q.num.A q.num.k q.num.c) (.bool q.den.neg) (.slice q.den.A q.den.k q.den.c)
 replace c := Env.c4 hE
 exact bodyPost_ret (v := .agg #[.bool q.num.neg, .slice q.num.A q.num.k q.num.c, .bool q.den.neg, .slice q.den.A q.den.k q.den.c]) (by simp [results, Tryz.results110, go_sem, c]) rfl (hE.retR' rfl fun _ h => h.1)
set_option maxRecDepth 100000 in
theorem zo2 (w : World) (r s : RV) (a b : Rat) (n : Nat) (hn : n ≤ 3000) (h1n : 1 ≤ n) (ha : RatD r a n w) (hb : RatD s b n w) :
 Calls Tryz.prog 107 #[rA r, rA s] w (RetR (a * b) w) := by
 obtain ⟨x, y, hx, hy, rfl⟩ := ha.parts
 obtain ⟨z, t, hz, ht, rfl⟩ := hb.parts
 have Hl := zmZ (zoT (r := r) hx.lt hy.lt h1n)
 have Hd := zmZ (znB r y)
 have Hm := zmZ (zoT (r := s) hz.lt ht.lt h1n)
 have He := zmZ (znB s t)
 have hn3 := hn
 replace hn : n ≤ 10000 := by omega
 clear ha hb
 have HE := zmZ (zfq r s ((hx.old).and ((hy.old).and ((hz.old).and (ht.old)))))
 have c := Env.c3 HE.out
 have dd := Env.d3 HE.out
 clear hx hy hz ht
 unfold rA
 go_enter Tryz.func107, Tryz.ntmps107
 go_wp2_with fail
 refine (znc _ r x y n hn (by first | exact HE.out.o.1 | exact HE.out.drew.o.1) (by first | exact HE.out.o.2.1 | exact HE.out.drew.o.2.1)).mono ?_
 rintro e w1 ⟨i, j, rfl, hk, hk', hb⟩
 replace HE := zmZ (Env.rx HE.out (hk.and hk') hb)
 replace c := Env.c3 HE.out
 clear hk hk' hb
 go_upto_region 2 with fail
 obtain ⟨W2, g5, g6, hW2, hg2, hg3, HE⟩ := Env.al2 HE.out 39 39 #[.bool i.neg, .slice i.A i.k i.c] #[.bool j.neg, .slice j.A j.k j.c]
 rw [hW2, hg2, hg3]
 clear hW2 hg2 hg3
 replace c := Env.c5 HE.out
 replace dd := Env.d5 HE.out
 go_wp2_with fail
 refine (znc _ s z t n hn (by first | exact HE.out.o.2.2.1 | exact HE.out.drew.o.2.2.1) (by first | exact HE.out.o.2.2.2 | exact HE.out.drew.o.2.2.2)).mono ?_
 rintro e w3 ⟨k, l, rfl, hk, hk', hb⟩
 replace HE := zmZ (Env.rx HE.out (hk.and hk') hb)
 replace c := Env.c5 HE.out
 clear hk hk' hb
 go_upto_region 3 with fail
 obtain ⟨W2, g7, g8, hW2, hg2, hg3, HE⟩ := Env.al2 HE.out 39 39 #[.bool k.neg, .slice k.A k.k k.c] #[.bool l.neg, .slice l.A l.k l.c]
 rw [hW2, hg2, hg3]
 clear hW2 hg2 hg3
 replace c := Env.c7 HE.out
 replace dd := Env.d7 HE.out
 go_wp2_with fail
 generalize ptN r x y = X at *
 generalize ptD r y = Y at *
 generalize ptN s z t = Z at *
 generalize ptD s t = T at *
 go_region_held3 (fun W => CB (g5) #[.bool i.neg, .slice i.A i.k i.c] W ∧ CB (g6) #[.bool j.neg, .slice j.A j.k j.c] W ∧ CB (g7) #[.bool k.neg, .slice k.A k.k k.c] W ∧ CB (g8) #[.bool l.neg, .slice l.A l.k l.c] W) (first | exact ⟨c.2.2.2.1, c.2.2.1, c.2.1, c.1⟩ | ((repeat' apply And.intro) <;> go_keep))
  (first
   | (go_at_call_of 156 ((#[.agg #[.bool i.neg, .slice i.A i.k i.c], .agg #[.bool k.neg, .slice k.A k.k k.c]] : Array Value)); go_must (refine (znb _ i k X Z n n (by omega) (by omega) (IntN.ofLt (by first | exact HE.out.n.2.1.1 | exact HE.out.drew.n.2.1.1 | exact HE.out.n.2.2.1.1 | exact HE.out.drew.n.2.2.1.1) Hl.out.1) (IntN.ofLt (by first | exact HE.out.n.1.1 | exact HE.out.drew.n.1.1 | exact HE.out.n.2.1.1 | exact HE.out.drew.n.2.1.1) Hm.out.1)).mono ?_; rintro e w1 ⟨p, rfl, hk, hb⟩; replace HE := zmZ (Env.rx HE.out hk hb); replace c := Env.c7 HE.out; clear hk hb))
   | (go_at_call_of 156 ((#[.agg #[.bool j.neg, .slice j.A j.k j.c], .agg #[.bool l.neg, .slice l.A l.k l.c]] : Array Value)); go_must (refine (znb _ j l Y T n n (by omega) (by omega) (IntN.ofLt (by first | exact HE.out.n.2.1.2 | exact HE.out.drew.n.2.1.2 | exact HE.out.n.2.2.1.2 | exact HE.out.drew.n.2.2.1.2) Hl.out.2) (IntN.ofLt (by first | exact HE.out.n.1.2 | exact HE.out.drew.n.1.2 | exact HE.out.n.2.1.2 | exact HE.out.drew.n.2.1.2) Hm.out.2)).mono ?_; rintro e w2 ⟨o, rfl, hk, hb⟩; replace HE := zmZ (Env.rx HE.out hk hb); replace c := Env.c7 HE.out; clear hk hb))
   | (go_at_call 113; go_must (refine (znn _ p o (X * Z) (Y * T) (n + n) (by omega) (IntN.ofLt (by first | exact HE.out.n.1 | exact HE.out.drew.n.1 | exact HE.out.n.2.1 | exact HE.out.drew.n.2.1 | exact HE.out.n.2.2.1 | exact HE.out.drew.n.2.2.1 | exact HE.out.n.2.2.2.1 | exact HE.out.drew.n.2.2.2.1) (znE Hl.out.1 Hm.out.1)) (IntN.ofLt (by first | exact HE.out.n.1 | exact HE.out.drew.n.1 | exact HE.out.n.2.1 | exact HE.out.drew.n.2.1 | exact HE.out.n.2.2.1 | exact HE.out.drew.n.2.2.1 | exact HE.out.n.2.2.2.1 | exact HE.out.drew.n.2.2.2.1) (znE Hl.out.2 Hm.out.2)) (Int.mul_pos Hd.out He.out)).mono ?_; rintro e w3 ⟨q, rfl, hk, hb⟩; replace HE := zmZ (Env.rx HE.out hk hb); replace c := Env.c7 HE.out; clear hk hb)))
 all_goals
  go_wp2_with fail
  rw [← zq7]
  have hE := HE.out.put4_4 (.bool q.num.neg) (.slice q.num.A q.num.k q.num.c) (.bool q.den.neg) (.slice q.den.A q.den.k q.den.c)
  replace c := Env.c7 hE
  exact bodyPost_ret (v := .agg #[.bool q.num.neg, .slice q.num.A q.num.k q.num.c, .bool q.den.neg, .slice q.den.A q.den.k q.den.c]) (by simp [results, Tryz.results107, go_sem, c]) rfl (hE.retR' rfl fun _ h => h.1)
end Go.Proofs.YtikmgoefjbhcjaaGreatDoor
