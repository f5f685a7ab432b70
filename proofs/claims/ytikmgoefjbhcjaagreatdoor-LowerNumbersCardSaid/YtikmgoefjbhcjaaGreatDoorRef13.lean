/-
 tripwireref04: Add. tripwireref04: Sub, Abs, Max, Min, Floor, Ceil.
-/
import Derived.Test.YtikmgoefjbhcjaaGreatDoorRef11
import Derived.Test.YtikmgoefjbhcjaaGreatDoorSL
import Derived.Test.YtikmgoefjbhcjaaGreatDoorQC
namespace Go.Proofs.YtikmgoefjbhcjaaGreatDoor
set_option maxHeartbeats 2000000
open Go.RowKit

theorem zqa {x : Int} {n : Nat} (h : x.natAbs < B64 ^ n) : x.natAbs < B64 ^ (n + 1) := Nat.lt_of_lt_of_le h (Nat.pow_le_pow_right za0 (Nat.le_succ n))
set_option maxRecDepth 100000 in
theorem znw (w : World) (r s : RV) (a b : Rat) (n : Nat) (hn : n ≤ 3000) (h1n : 1 ≤ n) (ha : RatD r a n w) (hb : RatD s b n w) :
 Calls Tryz.prog 106 #[rA r, rA s] w (RetR (a + b) w) := by
 obtain ⟨x, y, hx, hy, rfl⟩ := ha.parts
 obtain ⟨z, t, hz, ht, rfl⟩ := hb.parts
 have Hl := zmZ (zoT (r := r) hx.lt hy.lt h1n)
 have Hd := zmZ (znB r y)
 have Hm := zmZ (zoT (r := s) hz.lt ht.lt h1n)
 have He := zmZ (znB s t)
 have hn3 := hn
 replace hn : n ≤ 10000 := by omega
 clear ha hb
 have HE := zmZ (zfq r s ((hx.old).and ((hy.old).and ((hz.old).and (ht.old)))))
 have c := Env.c3 HE.out
 have dd := Env.d3 HE.out
 clear hx hy hz ht
 unfold rA
 go_enter Tryz.func106, Tryz.ntmps106
 go_wp2_with fail
 refine (znc _ r x y n hn (by first | exact HE.out.o.1 | exact HE.out.drew.o.1) (by first | exact HE.out.o.2.1 | exact HE.out.drew.o.2.1)).mono ?_
 rintro e w1 ⟨i, j, rfl, hk, hk', hb⟩
 replace HE := zmZ (Env.rx HE.out (hk.and hk') hb)
 replace c := Env.c3 HE.out
 clear hk hk' hb
 go_upto_region 2 with fail
 obtain ⟨W2, g5, g6, hW2, hg2, hg3, HE⟩ := Env.al2 HE.out 39 39 #[.bool i.neg, .slice i.A i.k i.c] #[.bool j.neg, .slice j.A j.k j.c]
 rw [hW2, hg2, hg3]
 clear hW2 hg2 hg3
 replace c := Env.c5 HE.out
 replace dd := Env.d5 HE.out
 go_wp2_with fail
 refine (znc _ s z t n hn (by first | exact HE.out.o.2.2.1 | exact HE.out.drew.o.2.2.1) (by first | exact HE.out.o.2.2.2 | exact HE.out.drew.o.2.2.2)).mono ?_
 rintro e w3 ⟨k, l, rfl, hk, hk', hb⟩
 replace HE := zmZ (Env.rx HE.out (hk.and hk') hb)
 replace c := Env.c5 HE.out
 clear hk hk' hb
 go_upto_region 3 with fail
 obtain ⟨W2, g7, g8, hW2, hg2, hg3, HE⟩ := Env.al2 HE.out 39 39 #[.bool k.neg, .slice k.A k.k k.c] #[.bool l.neg, .slice l.A l.k l.c]
 rw [hW2, hg2, hg3]
 clear hW2 hg2 hg3
 replace c := Env.c7 HE.out
 replace dd := Env.d7 HE.out
 go_wp2_with fail
 generalize ptN r x y = X at *
 generalize ptD r y = Y at *
 generalize ptN s z t = Z at *
 generalize ptD s t = T at *
 go_region_held3 (fun W => CB (g5) #[.bool i.neg, .slice i.A i.k i.c] W ∧ CB (g6) #[.bool j.neg, .slice j.A j.k j.c] W ∧ CB (g7) #[.bool k.neg, .slice k.A k.k k.c] W ∧ CB (g8) #[.bool l.neg, .slice l.A l.k l.c] W) (first | exact ⟨c.2.2.2.1, c.2.2.1, c.2.1, c.1⟩ | ((repeat' apply And.intro) <;> go_keep))
  (first
   | (go_at_call_of 156 ((#[.agg #[.bool i.neg, .slice i.A i.k i.c], .agg #[.bool l.neg, .slice l.A l.k l.c]] : Array Value)); go_must (refine (znb _ i l X T n n (by omega) (by omega) (IntN.ofLt (by first | exact HE.out.n.2.1.1 | exact HE.out.drew.n.2.1.1 | exact HE.out.n.2.2.1.1 | exact HE.out.drew.n.2.2.1.1 | exact HE.out.n.2.2.2.1.1 | exact HE.out.drew.n.2.2.2.1.1 | exact HE.out.n.2.2.2.2.1.1 | exact HE.out.drew.n.2.2.2.2.1.1) Hl.out.1) (IntN.ofLt (by first | exact HE.out.n.1.2 | exact HE.out.drew.n.1.2 | exact HE.out.n.2.1.2 | exact HE.out.drew.n.2.1.2 | exact HE.out.n.2.2.1.2 | exact HE.out.drew.n.2.2.1.2 | exact HE.out.n.2.2.2.1.2 | exact HE.out.drew.n.2.2.2.1.2) Hm.out.2)).mono ?_; rintro e w1 ⟨p, rfl, hk, hb⟩; replace HE := zmZ (Env.rx HE.out hk hb); replace c := Env.c7 HE.out; clear hk hb))
   | (go_at_call_of 156 ((#[.agg #[.bool k.neg, .slice k.A k.k k.c], .agg #[.bool j.neg, .slice j.A j.k j.c]] : Array Value)); go_must (refine (znb _ k j Z Y n n (by omega) (by omega) (IntN.ofLt (by first | exact HE.out.n.1.1 | exact HE.out.drew.n.1.1 | exact HE.out.n.2.1.1 | exact HE.out.drew.n.2.1.1 | exact HE.out.n.2.2.1.1 | exact HE.out.drew.n.2.2.1.1 | exact HE.out.n.2.2.2.1.1 | exact HE.out.drew.n.2.2.2.1.1) Hm.out.1) (IntN.ofLt (by first | exact HE.out.n.2.1.2 | exact HE.out.drew.n.2.1.2 | exact HE.out.n.2.2.1.2 | exact HE.out.drew.n.2.2.1.2 | exact HE.out.n.2.2.2.1.2 | exact HE.out.drew.n.2.2.2.1.2 | exact HE.out.n.2.2.2.2.1.2 | exact HE.out.drew.n.2.2.2.2.1.2) Hl.out.2)).mono ?_; rintro e w2 ⟨o, rfl, hk, hb⟩; replace HE := zmZ (Env.rx HE.out hk hb); replace c := Env.c7 HE.out; clear hk hb))
   | (go_at_call_of 156 ((#[.agg #[.bool j.neg, .slice j.A j.k j.c], .agg #[.bool l.neg, .slice l.A l.k l.c]] : Array Value)); go_must (refine (znb _ j l Y T n n (by omega) (by omega) (IntN.ofLt (by first | exact HE.out.n.2.1.2 | exact HE.out.drew.n.2.1.2 | exact HE.out.n.2.2.1.2 | exact HE.out.drew.n.2.2.1.2 | exact HE.out.n.2.2.2.1.2 | exact HE.out.drew.n.2.2.2.1.2 | exact HE.out.n.2.2.2.2.1.2 | exact HE.out.drew.n.2.2.2.2.1.2) Hl.out.2) (IntN.ofLt (by first | exact HE.out.n.1.2 | exact HE.out.drew.n.1.2 | exact HE.out.n.2.1.2 | exact HE.out.drew.n.2.1.2 | exact HE.out.n.2.2.1.2 | exact HE.out.drew.n.2.2.1.2 | exact HE.out.n.2.2.2.1.2 | exact HE.out.drew.n.2.2.2.1.2) Hm.out.2)).mono ?_; rintro e w3 ⟨u, rfl, hk, hb⟩; replace HE := zmZ (Env.rx HE.out hk hb); replace c := Env.c7 HE.out; clear hk hb))
   | (go_at_call 155; go_must (refine (znI _ p o (X * T) (Z * Y) (n + n) (n + n) (by omega) (by omega) (IntN.ofLt (by first | exact HE.out.n.1 | exact HE.out.drew.n.1 | exact HE.out.n.2.1 | exact HE.out.drew.n.2.1 | exact HE.out.n.2.2.1 | exact HE.out.drew.n.2.2.1 | exact HE.out.n.2.2.2.1 | exact HE.out.drew.n.2.2.2.1 | exact HE.out.n.2.2.2.2.1 | exact HE.out.drew.n.2.2.2.2.1) (znE Hl.out.1 Hm.out.2)) (IntN.ofLt (by first | exact HE.out.n.1 | exact HE.out.drew.n.1 | exact HE.out.n.2.1 | exact HE.out.drew.n.2.1 | exact HE.out.n.2.2.1 | exact HE.out.drew.n.2.2.1 | exact HE.out.n.2.2.2.1 | exact HE.out.drew.n.2.2.2.1 | exact HE.out.n.2.2.2.2.1 | exact HE.out.drew.n.2.2.2.2.1) (znE Hm.out.1 Hl.out.2))).mono ?_; rintro e w4 ⟨v, rfl, hk, hb⟩; replace HE := zmZ (Env.rx HE.out hk hb); replace c := Env.c7 HE.out; clear hk hb))
   | (go_at_call 113; go_must (refine (znn _ v u (X * T + Z * Y) (Y * T) (n + n + 1) (by omega) (IntN.ofLt (by first | exact HE.out.n.1 | exact HE.out.drew.n.1 | exact HE.out.n.2.1 | exact HE.out.drew.n.2.1 | exact HE.out.n.2.2.1 | exact HE.out.drew.n.2.2.1 | exact HE.out.n.2.2.2.1 | exact HE.out.drew.n.2.2.2.1 | exact HE.out.n.2.2.2.2.1 | exact HE.out.drew.n.2.2.2.2.1) (zrc (znE Hl.out.1 Hm.out.2) (znE Hm.out.1 Hl.out.2))) (IntN.ofLt (by first | exact HE.out.n.1 | exact HE.out.drew.n.1 | exact HE.out.n.2.1 | exact HE.out.drew.n.2.1 | exact HE.out.n.2.2.1 | exact HE.out.drew.n.2.2.1 | exact HE.out.n.2.2.2.1 | exact HE.out.drew.n.2.2.2.1 | exact HE.out.n.2.2.2.2.1 | exact HE.out.drew.n.2.2.2.2.1) (zqa (znE Hl.out.2 Hm.out.2))) (Int.mul_pos Hd.out He.out)).mono ?_; rintro e w5 ⟨q, rfl, hk, hb⟩; replace HE := zmZ (Env.rx HE.out hk hb); replace c := Env.c7 HE.out; clear hk hb)))
 all_goals
  go_wp2_with fail
  rw [← zri Hd.out He.out]
  have hE := HE.out.put4_4 (.bool q.num.neg) (.slice q.num.A q.num.k q.num.c) (.bool q.den.neg) (.slice q.den.A q.den.k q.den.c)
  replace c := Env.c7 hE
  exact bodyPost_ret (v := .agg #[.bool q.num.neg, .slice q.num.A q.num.k q.num.c, .bool q.den.neg, .slice q.den.A q.den.k q.den.c]) (by simp [results, Tryz.results106, go_sem, c]) rfl (hE.retR' rfl fun _ h => h.1)

set_option maxRecDepth 100000 in
theorem zoH (w : World) (r s : RV) (a b : Rat) (n : Nat) (hn : n ≤ 3000) (h1n : 1 ≤ n) (ha : RatD r a n w) (hb : RatD s b n w) :
 Calls Tryz.prog 66 #[rA r, rA s] w (RetR (a - b) w) := by
 have Hs := zmZ (hb.sz h1n)
 have HE := zmZ (zfq r s ((ha.old).and (hb.old)))
 have c := Env.c3 HE.out
 have dd := Env.d3 HE.out
 clear ha hb
 unfold rA
 go_enter Tryz.func66, Tryz.ntmps66
 go_wp2_with fail
 go_region_held3 (fun W => CB (w.heap.size) #[.bool r.num.neg, .slice r.num.A r.num.k r.num.c, .bool r.den.neg, .slice r.den.A r.den.k r.den.c] W ∧ CB (w.heap.size + 1) #[.bool s.num.neg, .slice s.num.A s.num.k s.num.c, .bool s.den.neg, .slice s.den.A s.den.k s.den.c] W) (first | exact ⟨c.2.2, c.2.1⟩ | ((repeat' apply And.intro) <;> go_keep))
  (first
   | (go_at_call 110; go_must (refine (zoG _ s b n (by omega) h1n (by first | exact HE.out.o.2 | exact HE.out.drew.o.2)).mono ?_; rintro e w1 ⟨k, rfl, hk, hb⟩; replace HE := zmZ (Env.rx HE.out hk hb); replace c := Env.c3 HE.out; clear hk hb))
   | (go_at_call 106; go_must (refine (znw _ r k a (-b) n hn h1n (by first | exact HE.out.o.1 | exact HE.out.drew.o.1) (RatN.rat (by first | exact HE.out.n.1 | exact HE.out.drew.n.1) (Sz.neg Hs.out))).mono ?_; rintro e w2 ⟨q, rfl, hk, hb⟩; replace HE := zmZ (Env.rx HE.out hk hb); replace c := Env.c3 HE.out; clear hk hb)))
 go_wp2_with fail
 rw [Rat.sub_eq_add_neg]
 have hE := HE.out.put4 (.bool q.num.neg) (.slice q.num.A q.num.k q.num.c) (.bool q.den.neg) (.slice q.den.A q.den.k q.den.c)
 replace c := Env.c3 hE
 exact bodyPost_ret (v := .agg #[.bool q.num.neg, .slice q.num.A q.num.k q.num.c, .bool q.den.neg, .slice q.den.A q.den.k q.den.c]) (by simp [results, Tryz.results66, go_sem, c]) rfl (hE.retR' rfl fun _ h => h.1)
end Go.Proofs.YtikmgoefjbhcjaaGreatDoor
