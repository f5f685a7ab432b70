/-
 tripwireref02: Of, Sign, Add, Sub, Cmp. tripwireref02: DivMod. tripwireref04: Lowest, Make, Of.
-/
import Derived.Test.YtikmgoefjbhcjaaGreatDoorRef4
import Derived.Test.YtikmgoefjbhcjaaGreatDoorEM
namespace Go.Proofs.YtikmgoefjbhcjaaGreatDoor
set_option maxHeartbeats 2000000
open Go.RowKit

theorem zq2 {W : World} {i : IV} {z : Int} {n : Nat} (h : IntD i z n W) (hn : n ≤ 1000000) : Calls Tryz.prog 201 #[.slice i.A i.k i.c] W fun e w' => ∃ b : Nat, e = .returned (.int .i64 b) ∧ (b = 0 ↔ z = 0) ∧ Below W.heap.size W w' := by
 obtain ⟨l, hk, hr, hx, rfl⟩ := h.ex
 have := h.le
 rw [hk]
 refine (zoW W i.A i.c l (by omega) hr hx).mono ?_
 rintro e w' ⟨b, rfl, hb, hB⟩
 refine ⟨b, rfl, ?_, hB⟩
 rw [hb]; unfold iv; split <;> omega
theorem zrh {z : Int} {b : Nat} (hb : b = 0 ↔ z = 0) : z.sign = if ((b : Int) == 0) = true then 0 else if z < 0 then -1 else 1 := by
 by_cases h : z = 0
 ·rw [if_pos (by simp [hb.2 h]), h]; rfl
 ·rw [if_neg (by have := mt hb.1 h; simp; omega)]
  split
  ·exact Int.sign_eq_neg_one_of_neg (by omega)
  ·exact Int.sign_eq_one_of_pos (by omega)
set_option maxRecDepth 100000 in
theorem zn1 (w : World) (i : IV) (z : Int) (n : Nat) (hn : n ≤ 1000000) (h : IntD i z n w) :
 Calls Tryz.prog 157 #[iA i] w fun e w' => e = .returned (.int .i64 z.sign) ∧ Below w.heap.size w w' := by
 have HE := zmZ (lyI i (h.old))
 have c := Env.c1 HE.out
 have Hn := zmZ (fun h0 => h.neg_of h0)
 clear h
 unfold iA
 go_enter Tryz.func157, Tryz.ntmps157
 go_wp2_with fail
 refine (zq2 (by first | exact HE.out.o | exact HE.out.drew.o) hn).mono ?_
 rintro e w1 ⟨b, rfl, hb0, hb⟩
 replace HE := zmZ (Env.cx HE.out hb)
 replace c := Env.c1 HE.out
 have Hs := zmZ (zrh hb0)
 by_cases h0 : z = 0
 ·have hq : ((b : Int) == 0) = true := by simp [hb0.2 h0]
  clear hb hb0 h0 Hn
  go_wp2_with fail
  go_ret
  exact ⟨by rw [Hs.out, if_pos hq]; rfl, HE.out.bel⟩
 ·have hq : ((b : Int) == 0) = false := by have := mt hb0.1 h0; simp; omega
  have hneg := Hn.out h0
  by_cases hz : z < 0
  ·have hn' : i.neg = true := by rw [hneg]; simp [hz]
   clear hb hb0 h0 Hn hneg
   go_wp2_with fail
   go_ret
   exact ⟨by rw [Hs.out, if_neg (by simp [hq]), if_pos hz]; rfl, HE.out.bel⟩
  ·have hn' : i.neg = false := by rw [hneg]; simp [hz]
   clear hb hb0 h0 Hn hneg
   go_wp2_with fail
   go_ret
   exact ⟨by rw [Hs.out, if_neg (by simp [hq]), if_neg (by omega)]; rfl, HE.out.bel⟩
theorem zq1 {a b : Int} {n m : Nat} (ha : a.natAbs < B64 ^ n) (hb : b.natAbs < B64 ^ m) : (a - b).natAbs < B64 ^ (n + m + 1) := by
 have h1 : B64 ^ n ≤ B64 ^ (n + m) := Nat.pow_le_pow_right za0 (by omega)
 have h2 : B64 ^ m ≤ B64 ^ (n + m) := Nat.pow_le_pow_right za0 (by omega)
 have h3 : 2 * B64 ^ (n + m) ≤ B64 ^ (n + m + 1) := by
  rw [Nat.pow_succ, Nat.mul_comm]
  exact Nat.mul_le_mul_left _ (by decide)
 generalize B64 ^ (n + m) = X at *
 generalize B64 ^ (n + m + 1) = Y at *
 omega
theorem zqT {a b : Int} {n m : Nat} (ha : a.natAbs < B64 ^ n) (hb : b.natAbs < B64 ^ m) : (a + b).natAbs < B64 ^ (n + m + 1) := by
 have := zq1 (b := -b) ha (by rw [Int.natAbs_neg]; exact hb)
 rwa [show a - -b = a + b by omega] at this
theorem zrA {p q : IV} {z y : Int} {w : World} (hp : IntN p z w) (_hq : IntN q y w) : (p.neg == q.neg) = decide (z < 0 ↔ y < 0) ∧ iv p.neg z.natAbs = z ∧ iv q.neg y.natAbs = y := by
 rw [hp.neg, _hq.neg]
 refine ⟨?_, zm9 z, zm9 y⟩
 by_cases h : z < 0 <;> by_cases h' : y < 0 <;> simp [h, h']
theorem zqD {W : World} {p q : IV} {z y : Int} {n m : Nat} (h : IntN p z W) (h' : IntN q y W) (hz : z.natAbs < B64 ^ n) (hy : y.natAbs < B64 ^ m) (hn : n ≤ 1000000) (hm : m ≤ 1000000) :
 Calls Tryz.prog 197 #[.slice p.A p.k p.c, .slice q.A q.k q.c] W (RetL .u64 (digs B64 (z.natAbs + y.natAbs)) W) := by
 have := zoX W p.A q.A p.c q.c _ _ (Nat.le_trans (zbj hz) hn) (Nat.le_trans (zbj hy) hm) h.rd h'.rd (zaS (by decide) _) (zaS (by decide) _)
 rwa [zag (by decide), zag (by decide), ← h.k, ← h'.k] at this
theorem zpc {W : World} {p q : IV} {z y : Int} {n m : Nat} (h : IntN p z W) (h' : IntN q y W) (hz : z.natAbs < B64 ^ n) (hy : y.natAbs < B64 ^ m) (hn : n ≤ 1000000) (hm : m ≤ 1000000) :
 Calls Tryz.prog 199 #[.slice p.A p.k p.c, .slice q.A q.k q.c] W (RetL .u64 (digs B64 (z.natAbs - y.natAbs)) W) := by
 have := znP W p.A q.A p.c q.c _ _ (Nat.le_trans (zbj hz) hn) (Nat.le_trans (zbj hy) hm) h.rd h'.rd (zaS (by decide) _) (zaS (by decide) _)
 rwa [zag (by decide), zag (by decide), ← h.k, ← h'.k] at this
theorem zqs {W : World} {p q : IV} {z y : Int} {n m : Nat} (h : IntN p z W) (h' : IntN q y W) (hz : z.natAbs < B64 ^ n) (hy : y.natAbs < B64 ^ m) (hn : n ≤ 1000000) (hm : m ≤ 1000000) :
 Calls Tryz.prog 198 #[.slice p.A p.k p.c, .slice q.A q.k q.c] W fun e w' => e = .returned (.int .i64 (cmpN z.natAbs y.natAbs)) ∧ Below W.heap.size W w' := by
 have := znQ W p.A q.A p.c q.c _ _ (Nat.le_trans (zbj hz) hn) (Nat.le_trans (zbj hy) hm) h.rd h'.rd (zaS (by decide) _) (zaS (by decide) _)
 rwa [zag (by decide), zag (by decide), ← h.k, ← h'.k] at this
theorem znK {W : World} {A : Option Addr} {c v n : Nat} {neg : Bool} (h : Rd W .u64 A (digs B64 v)) (hv : v < B64 ^ n) (hn : n ≤ 1000000) :
 Calls Tryz.prog 159 #[.bool neg, .slice A (digs B64 v).length c] W (RetZ (iv neg v) W) := by
 have := zo8 W neg A c _ (Nat.le_trans (zbj hv) hn) h (zaS (by decide) v)
 rwa [zag (by decide)] at this
set_option maxRecDepth 100000 in
theorem zpS (w : World) (m : Nat) (h2 : m ≤ 9223372036854775807) :
 Calls Tryz.prog 109 #[.int .i64 (m : Nat)] w (RetZ (m : Nat) w) := by
 have HE := zmZ (lyO (Rests.pure trivial w _))
 have c := Env.c1 HE.out
 go_enter Tryz.func109, Tryz.ntmps109
 go_wp2_with fail
 skip
 have HE2 := zmZ (HE.out.new_ (g := w.heap.size + 1) (by simp) 105 #[.int .u64 (m : Nat)])
 have hB := HE2.out.bx _ (List.mem_cons_self ..)
 have hR := Rd.of_blk (k := .u64) (l := [m]) hB
 refine (zo8 _ false (some ⟨w.heap.size + 1, 0, none⟩) 1 [m] (by simp) hR (by intro x hx; simp at hx; subst hx; simp only [B64]; omega)).mono ?_
 rintro e w1 ⟨k, rfl, hk, hb⟩
 clear hB hR HE
 have HE := zmZ (Env.ret HE2.out hk hb)
 clear hk hb HE2
 replace c := Env.c2 HE.out
 go_wp2_with fail
 replace HE := zmZ (Env.put2_1 HE.out (.bool k.neg) (.slice k.A k.k k.c))
 replace c := Env.c2 HE.out
 exact bodyPost_ret (v := .agg #[.bool k.neg, .slice k.A k.k k.c]) (by simp [results, Tryz.results109, go_sem, c]) rfl ((HE.out.perm (List.Perm.swap ..)).retZ fun _ h => by simpa [iv, val] using h.1)
set_option maxRecDepth 100000 in
theorem zr9 (w : World) (m : Nat) (h2 : m ≤ 9223372036854775807) :
 Calls Tryz.prog 109 #[.int .i64 (-((m : Nat) + 1 : Int))] w (RetZ (-((m : Nat) + 1 : Int)) w) := by
 have HE := zmZ (lyO (Rests.pure trivial w _))
 have c := Env.c1 HE.out
 go_enter Tryz.func109, Tryz.ntmps109
 go_wp2_with fail
 rw [show (-(-((m : Int) + 1) + 1) + 1) = ((m + 1 : Nat) : Int) by omega]
 have HE2 := zmZ (HE.out.new_ (g := w.heap.size + 1) (by simp) 105 #[.int .u64 ((m + 1 : Nat) : Int)])
 have hB := HE2.out.bx _ (List.mem_cons_self ..)
 have hR := Rd.of_blk (k := .u64) (l := [m + 1]) hB
 refine (zo8 _ true (some ⟨w.heap.size + 1, 0, none⟩) 1 [m + 1] (by simp) hR (by intro x hx; simp at hx; subst hx; simp only [B64]; omega)).mono ?_
 rintro e w1 ⟨k, rfl, hk, hb⟩
 clear hB hR HE
 have HE := zmZ (Env.ret HE2.out hk hb)
 clear hk hb HE2
 replace c := Env.c2 HE.out
 go_wp2_with fail
 replace HE := zmZ (Env.put2_1 HE.out (.bool k.neg) (.slice k.A k.k k.c))
 replace c := Env.c2 HE.out
 exact bodyPost_ret (v := .agg #[.bool k.neg, .slice k.A k.k k.c]) (by simp [results, Tryz.results109, go_sem, c]) rfl ((HE.out.perm (List.Perm.swap ..)).retZ fun _ h => by simpa [iv, val] using h.1)
theorem znq (w : World) (z : Int) (h1 : -9223372036854775808 ≤ z) (h2 : z ≤ 9223372036854775807) : Calls Tryz.prog 109 #[.int .i64 z] w (RetZ z w) := by
 rcases Int.le_total 0 z with h | h
 ·obtain ⟨m, rfl⟩ := Int.eq_ofNat_of_zero_le h
  exact zpS w m (by omega)
 ·by_cases h0 : z = 0
  ·subst h0; exact zpS w 0 (by omega)
  ·obtain ⟨m, hm⟩ := Int.eq_ofNat_of_zero_le (show 0 ≤ -(z + 1) by omega)
   obtain rfl : z = -((m : Nat) + 1 : Int) := by omega
   exact zr9 w m (by omega)
theorem zoM {a b : Nat} {n m : Nat} (ha : a < B64 ^ n) (hb : b < B64 ^ m) : a + b < B64 ^ (n + m + 1) := by
 have := zqT (a := (a : Int)) (b := (b : Int)) (by simpa using ha) (by simpa using hb)
 omega
theorem zrr {z y : Int} {p q : Bool} (hz : iv p z.natAbs = z) (hy : iv q y.natAbs = y) (hb : (p == q) = true) : z + y = iv p (z.natAbs + y.natAbs) := by
 unfold iv at *; cases p <;> cases q <;> simp at * <;> omega
theorem zrs {z y : Int} {p q : Bool} (hz : iv p z.natAbs = z) (hq : (p == q) = decide (z < 0 ↔ y < 0)) (hs : ¬ (z < 0 ↔ y < 0)) (hc : y.natAbs ≤ z.natAbs) : z + y = iv p (z.natAbs - y.natAbs) := by
 unfold iv at *; cases p <;> simp at * <;> omega
theorem zrj {z y : Int} {p q : Bool} (hz : iv p z.natAbs = z) (hy : iv q y.natAbs = y) (hq : (p == q) = decide (z < 0 ↔ y < 0)) (hs : ¬ (z < 0 ↔ y < 0)) (hc : ¬ y.natAbs ≤ z.natAbs) : z + y = iv q (y.natAbs - z.natAbs) := by
 unfold iv at *; cases p <;> cases q <;> simp [hs] at * <;> omega
set_option maxRecDepth 100000 in
theorem znI (w : World) (i j : IV) (z y : Int) (n m : Nat) (hn : n ≤ 400000) (hm : m ≤ 400000) (h : IntD i z n w) (h2 : IntD j y m w) :
 Calls Tryz.prog 155 #[iA i, iA j] w (RetZ (z + y) w) := by
 have HE := zmZ (zmN i j ((h.old).and (h2.old)))
 have c := Env.c3 HE.out
 have d := Env.d3 HE.out
 have Hlz := zmZ h.lt
 have Hly := zmZ h2.lt
 clear h h2
 unfold iA
 go_enter Tryz.func155, Tryz.ntmps155
 go_wp2_with fail
 refine (zn5 _ i z n (by omega) (by first | exact HE.out.o.1 | exact HE.out.drew.o.1)).mono ?_
 rintro e w1 ⟨p, rfl, hk, hb⟩
 replace HE := zmZ (Env.rx HE.out hk hb)
 replace c := Env.c3 HE.out
 clear hk hb
 go_wp2_with fail
 obtain ⟨W1, hW1, HE⟩ := Env.st2_2 HE.out (.bool p.neg) (.slice p.A p.k p.c)
 rw [hW1]
 clear hW1
 replace c := Env.c3 HE.out
 refine (zn5 _ j y m (by omega) (by first | exact HE.out.o.2 | exact HE.out.drew.o.2)).mono ?_
 rintro e w2 ⟨q, rfl, hk, hb⟩
 replace HE := zmZ (Env.rx HE.out hk hb)
 replace c := Env.c3 HE.out
 clear hk hb
 obtain ⟨hq, hiv, hjv⟩ := zrA (by first | exact HE.out.n.2.1) (by first | exact HE.out.n.1 | exact HE.out.drew.n.1)
 have Hiv := zmZ hiv
 have Hjv := zmZ hjv
 clear hiv hjv
 by_cases hs : (z < 0 ↔ y < 0)
 ·have hb : (p.neg == q.neg) = true := by rw [hq]; exact decide_eq_true hs
  have Hz := zmZ (show z + y = iv p.neg (z.natAbs + y.natAbs) from zrr Hiv.out Hjv.out hb)
  have Hv := zmZ (show z.natAbs + y.natAbs < B64 ^ (n + m + 1) from zoM Hlz.out Hly.out)
  clear hq hs
  go_wp2_with fail
  obtain ⟨W2, hW2, HE⟩ := Env.st2_1 HE.out (.bool q.neg) (.slice q.A q.k q.c)
  (try rw [hW2])
  clear hW2
  replace c := Env.c3 HE.out
  go_region_held3 (fun W => CB (w.heap.size + 1) #[.bool q.neg, .slice q.A q.k q.c] W ∧ CB (w.heap.size) #[.bool p.neg, .slice p.A p.k p.c] W) (first | exact ⟨c.2.1, c.2.2⟩ | ((repeat' apply And.intro) <;> go_keep))
   (first
    | (go_at_call 197; go_must (refine (zqD (by first | exact HE.out.n.2.1 | exact HE.out.drew.n.2.1) (by first | exact HE.out.n.1 | exact HE.out.drew.n.1) Hlz.out Hly.out (by omega) (by omega)).mono ?_; rintro e w3 ⟨Al, cl, rfl, hcp, hrd, hb, hf⟩; replace HE := zmZ (Env.rx HE.out (za7 hrd (fun k hk => hf k hk)) hb); replace c := Env.c3 HE.out; have Hcl := zmZ hcp; clear hcp hrd hb hf))
    | (go_at_call 159; go_must (refine (znK (n := n + m + 1) (by first | exact HE.out.n.1 | exact HE.out.drew.n.1) Hv.out (by omega)).mono ?_; rintro e w4 ⟨r, rfl, hk, hb⟩; replace HE := zmZ (Env.rx HE.out hk hb); replace c := Env.c3 HE.out; clear hk hb)))
  go_wp2_with fail
  replace HE := zmZ (Env.put2 (by first | exact HE.out | exact HE.out.drew) (.bool r.neg) (.slice r.A r.k r.c))
  replace c := Env.c3 HE.out
  rw [show z + y = iv p.neg (z.natAbs + y.natAbs) from Hz.out]
  exact bodyPost_ret (v := .agg #[.bool r.neg, .slice r.A r.k r.c]) (by simp [results, Tryz.results155, go_sem, c]) rfl (HE.out.retZ fun _ h => h.1)
 ·have hb : (p.neg == q.neg) = false := by rw [hq]; exact decide_eq_false hs
  go_wp2_with fail
  obtain ⟨W2, hW2, HE⟩ := Env.st2_1 HE.out (.bool q.neg) (.slice q.A q.k q.c)
  (try rw [hW2])
  clear hW2
  replace c := Env.c3 HE.out
  refine (zqs (by first | exact HE.out.n.2.1 | exact HE.out.drew.n.2.1) (by first | exact HE.out.n.1 | exact HE.out.drew.n.1) Hlz.out Hly.out (by omega) (by omega)).mono ?_
  rintro e w4 ⟨rfl, hb4⟩
  replace HE := zmZ (Env.cx HE.out hb4)
  replace c := Env.c3 HE.out
  clear hb4
  by_cases hc : y.natAbs ≤ z.natAbs
  ·have h0 : 0 ≤ cmpN z.natAbs y.natAbs := by unfold cmpN; split <;> (try split) <;> omega
   have Hz := zmZ (show z + y = iv p.neg (z.natAbs - y.natAbs) from zrs Hiv.out hq hs hc)
   have Hv := zmZ (show z.natAbs - y.natAbs < B64 ^ (n + m + 1) from Nat.lt_of_le_of_lt (by omega) (zoM Hlz.out Hly.out))
   clear hq hs hc
   go_wp2_with fail
   go_region_held3 (fun W => CB (w.heap.size + 1) #[.bool q.neg, .slice q.A q.k q.c] W ∧ CB (w.heap.size) #[.bool p.neg, .slice p.A p.k p.c] W) (first | exact ⟨c.2.1, c.2.2⟩ | ((repeat' apply And.intro) <;> go_keep))
    (first
     | (go_at_call 199; go_must (refine (zpc (by first | exact HE.out.n.2.1 | exact HE.out.drew.n.2.1) (by first | exact HE.out.n.1 | exact HE.out.drew.n.1) Hlz.out Hly.out (by omega) (by omega)).mono ?_; rintro e w5 ⟨Al, cl, rfl, hcp, hrd, hb, hf⟩; replace HE := zmZ (Env.rx HE.out (za7 hrd (fun k hk => hf k hk)) hb); replace c := Env.c3 HE.out; have Hcl := zmZ hcp; clear hcp hrd hb hf))
     | (go_at_call 159; go_must (refine (znK (n := n + m + 1) (by first | exact HE.out.n.1 | exact HE.out.drew.n.1) Hv.out (by omega)).mono ?_; rintro e w6 ⟨r, rfl, hk, hb⟩; replace HE := zmZ (Env.rx HE.out hk hb); replace c := Env.c3 HE.out; clear hk hb)))
   go_wp2_with fail
   replace HE := zmZ (Env.put2 (by first | exact HE.out | exact HE.out.drew) (.bool r.neg) (.slice r.A r.k r.c))
   replace c := Env.c3 HE.out
   rw [show z + y = iv p.neg (z.natAbs - y.natAbs) from Hz.out]
   exact bodyPost_ret (v := .agg #[.bool r.neg, .slice r.A r.k r.c]) (by simp [results, Tryz.results155, go_sem, c]) rfl (HE.out.retZ fun _ h => h.1)
  ·have h0 : cmpN z.natAbs y.natAbs < 0 := by unfold cmpN; split <;> (try split) <;> omega
   have Hz := zmZ (show z + y = iv q.neg (y.natAbs - z.natAbs) from zrj Hiv.out Hjv.out hq hs hc)
   have Hv := zmZ (show y.natAbs - z.natAbs < B64 ^ (n + m + 1) from Nat.lt_of_le_of_lt (by omega) (zoM Hlz.out Hly.out))
   clear hq hs hc
   go_wp2_with fail
   go_region_held3 (fun W => CB (w.heap.size + 1) #[.bool q.neg, .slice q.A q.k q.c] W ∧ CB (w.heap.size) #[.bool p.neg, .slice p.A p.k p.c] W) (first | exact ⟨c.2.1, c.2.2⟩ | ((repeat' apply And.intro) <;> go_keep))
    (first
     | (go_at_call 199; go_must (refine (zpc (by first | exact HE.out.n.1 | exact HE.out.drew.n.1) (by first | exact HE.out.n.2.1 | exact HE.out.drew.n.2.1) Hly.out Hlz.out (by omega) (by omega)).mono ?_; rintro e w7 ⟨Al, cl, rfl, hcp, hrd, hb, hf⟩; replace HE := zmZ (Env.rx HE.out (za7 hrd (fun k hk => hf k hk)) hb); replace c := Env.c3 HE.out; have Hcl := zmZ hcp; clear hcp hrd hb hf))
     | (go_at_call 159; go_must (refine (znK (n := n + m + 1) (by first | exact HE.out.n.1 | exact HE.out.drew.n.1) Hv.out (by omega)).mono ?_; rintro e w8 ⟨r, rfl, hk, hb⟩; replace HE := zmZ (Env.rx HE.out hk hb); replace c := Env.c3 HE.out; clear hk hb)))
   go_wp2_with fail
   replace HE := zmZ (Env.put2 (by first | exact HE.out | exact HE.out.drew) (.bool r.neg) (.slice r.A r.k r.c))
   replace c := Env.c3 HE.out
   rw [show z + y = iv q.neg (y.natAbs - z.natAbs) from Hz.out]
   exact bodyPost_ret (v := .agg #[.bool r.neg, .slice r.A r.k r.c]) (by simp [results, Tryz.results155, go_sem, c]) rfl (HE.out.retZ fun _ h => h.1)
set_option maxRecDepth 100000 in
theorem znr (w : World) (i j : IV) (z y : Int) (n m : Nat) (hn : n ≤ 400000) (hm : m ≤ 400000) (h : IntD i z n w) (h2 : IntD j y m w) :
 Calls Tryz.prog 207 #[iA i, iA j] w (RetZ (z - y) w) := by
 have HE := zmZ (zmN i j ((h.old).and (h2.old)))
 have c := Env.c3 HE.out
 have d := Env.d3 HE.out
 have Hly := zmZ h2.lt
 clear h h2
 unfold iA
 go_enter Tryz.func207, Tryz.ntmps207
 go_wp2_with fail
 go_region_held3 (fun W => CB (w.heap.size) #[.bool i.neg, .slice i.A i.k i.c] W ∧ CB (w.heap.size + 1) #[.bool j.neg, .slice j.A j.k j.c] W) (first | exact ⟨c.2.2, c.2.1⟩ | ((repeat' apply And.intro) <;> go_keep))
  (first
   | (go_at_call 158; go_must (refine (zno _ j y m (by omega) (by first | exact HE.out.o.2 | exact HE.out.drew.o.2)).mono ?_; rintro e w1 ⟨k, rfl, hk, hb⟩; replace HE := zmZ (Env.rx HE.out hk hb); replace c := Env.c3 HE.out; clear hk hb))
   | (go_at_call 155; go_must (refine (znI _ i k z (-y) n m hn hm (by first | exact HE.out.o.1 | exact HE.out.drew.o.1) (IntN.ofLt (by first | exact HE.out.n.1 | exact HE.out.drew.n.1) (by rw [Int.natAbs_neg]; exact Hly.out))).mono ?_; rintro e w2 ⟨l, rfl, hk, hb⟩; replace HE := zmZ (Env.rx HE.out hk hb); replace c := Env.c3 HE.out; clear hk hb)))
 go_wp2_with fail
 replace HE := zmZ (Env.put2 (by first | exact HE.out | exact HE.out.drew) (.bool l.neg) (.slice l.A l.k l.c))
 replace c := Env.c3 HE.out
 rw [show z - y = z + -y by omega]
 exact bodyPost_ret (v := .agg #[.bool l.neg, .slice l.A l.k l.c]) (by simp [results, Tryz.results207, go_sem, c]) rfl (HE.out.retZ fun _ h => h.1)
set_option maxRecDepth 100000 in
theorem zoZ (w : World) (i j : IV) (z y : Int) (n m : Nat) (hn : n ≤ 400000) (hm : m ≤ 400000) (h : IntD i z n w) (h2 : IntD j y m w) :
 Calls Tryz.prog 166 #[iA i, iA j] w fun e w' => e = .returned (.int .i64 (z - y).sign) ∧ Below w.heap.size w w' := by
 have HE := zmZ (lyII i j ((h.old).and (h2.old)))
 have c := Env.c2 HE.out
 have d := Env.d2 HE.out
 have Hz := zmZ h.lt
 have Hy := zmZ h2.lt
 clear h h2
 unfold iA
 go_enter Tryz.func166, Tryz.ntmps166
 go_wp2_with fail
 refine (znr _ i j z y n m hn hm (by first | exact HE.out.o.1 | exact HE.out.drew.o.1) (by first | exact HE.out.o.2 | exact HE.out.drew.o.2)).mono ?_
 rintro e w1 ⟨l, rfl, hk, hb⟩
 replace HE := zmZ (Env.rx HE.out hk hb)
 replace c := Env.c2 HE.out
 clear hk hb
 go_wp2_with fail
 refine (zn1 _ l (z - y) (n + m + 1) (by omega) (IntN.ofLt (by first | exact HE.out.n.1 | exact HE.out.drew.n.1) (zq1 Hz.out Hy.out))).mono ?_
 rintro e w2 ⟨rfl, hb⟩
 replace HE := zmZ (Env.cx HE.out hb)
 replace c := Env.c2 HE.out
 clear hb
 go_wp2_with fail
 go_ret
 exact ⟨rfl, HE.out.bel⟩

theorem zqe {W : World} {i j : IV} {z y : Int} {n m : Nat} (h : IntD i z n W) (h' : IntD j y m W) (hn : n ≤ 1000000) (hm : m ≤ 1000000) (hy0 : y ≠ 0) :
 Calls Tryz.prog 206 #[.slice i.A i.k i.c, .slice j.A j.k j.c] W (zrC (digs B64 (z.natAbs / y.natAbs)) (digs B64 (z.natAbs % y.natAbs)) W) := by
 obtain ⟨l, hk, hr, hx, rfl⟩ := h.ex
 obtain ⟨l', hk', hr', hx', rfl⟩ := h'.ex
 have := h.le; have := h'.le
 rw [hk, hk', za6, za6]
 exact zps W i.A j.A i.c j.c l l' (by omega) (by omega) hr hr' hx hx' (by unfold iv at hy0; split at hy0 <;> omega)
theorem zrG {i j : IV} {z y : Int} {n m : Nat} {W : World} (h : IntD i z n W) (h' : IntD j y m W) : z = iv i.neg z.natAbs ∧ y = iv j.neg y.natAbs := by
 obtain ⟨l, -, -, -, rfl⟩ := h.ex
 obtain ⟨l', -, -, -, rfl⟩ := h'.ex
 rw [za6, za6]; exact ⟨rfl, rfl⟩
theorem zpd {p q : Bool} {z y : Int} (hz : z = iv p z.natAbs) (hy : y = iv q y.natAbs) (hy0 : y ≠ 0) : (z - iv (!(p == q)) (z.natAbs / y.natAbs) * y).natAbs < y.natAbs ∧ (iv (!(p == q)) (z.natAbs / y.natAbs)).natAbs ≤ z.natAbs := by
 refine ⟨?_, by rw [za6]; exact Nat.div_le_self _ _⟩
 have h1 := Nat.div_add_mod z.natAbs y.natAbs
 have h2 := Nat.mod_lt z.natAbs (show 0 < y.natAbs by omega)
 generalize z.natAbs = a at *
 generalize hb : y.natAbs = b at *
 generalize hk : a / b = k at *
 have h3 : z - iv (!(p == q)) k * y = iv p (a % b) := by
  rw [hz, hy]
  have h4 : (a : Int) = (k : Int) * b + (a % b : Nat) := by rw [Int.mul_comm]; exact_mod_cast h1.symm
  unfold iv
  clear hz hy h1 h2 hk
  generalize (a % b : Nat) = t at *
  rw [h4]
  cases p <;> cases q <;> simp [Int.neg_mul, Int.mul_neg] <;> omega
 rw [h3, za6]; exact h2
theorem zqC {z y q r : Int} (hr : r = z - q * y) (h0 : 0 ≤ r) (h1 : r.natAbs < y.natAbs) : q = z / y ∧ r = z % y := by
 have hy : y ≠ 0 := by intro e; subst e; simp at h1
 rcases Int.lt_or_gt_of_ne hy with hy | hy
 ·have h := (Int.ediv_emod_unique (a := z) (b := -y) (r := r) (q := -q) (by omega)).2 ⟨by rw [hr, Int.neg_mul_neg, Int.mul_comm y q]; omega, h0, by omega⟩
  rw [Int.ediv_neg, Int.emod_neg] at h
  exact ⟨by omega, h.2.symm⟩
 ·have h := (Int.ediv_emod_unique (a := z) (b := y) (r := r) (q := q) hy).2 ⟨by rw [hr, Int.mul_comm y q]; omega, h0, by omega⟩
  exact ⟨h.1.symm, h.2.symm⟩
theorem zol {x : Int} {n k : Nat} (h : x.natAbs < B64 ^ n) (z : Int) (hz : z.natAbs ≤ x.natAbs + 1) (hk : n + 1 ≤ k) : z.natAbs < B64 ^ k := by
 have h1 : B64 ^ (n + 1) ≤ B64 ^ k := Nat.pow_le_pow_right za0 hk
 have h3 : 2 * B64 ^ n ≤ B64 ^ (n + 1) := by rw [Nat.pow_succ, Nat.mul_comm]; exact Nat.mul_le_mul_left _ (by decide)
 have h4 : 0 < B64 ^ n := Nat.pow_pos za0
 omega
theorem znE {x y : Int} {n m : Nat} (h : x.natAbs < B64 ^ n) (h' : y.natAbs < B64 ^ m) : (x * y).natAbs < B64 ^ (n + m) := by
 rw [Int.natAbs_mul, Nat.pow_add]; exact Nat.mul_lt_mul_of_lt_of_le h (Nat.le_of_lt h') (Nat.pow_pos za0)
structure DmI (z y q r : Int) : Prop where
 eq : r = z - q * y
 lt : r.natAbs < y.natAbs
 le : q.natAbs ≤ z.natAbs + 1
 one : r < 0 → q.natAbs ≤ z.natAbs
theorem DmI.up {z y q r : Int} (h : DmI z y q r) (h0 : r < 0) (hy : 0 < y) : DmI z y (q - 1) (z - (q - 1) * y) ∧ ¬ z - (q - 1) * y < 0 := by
 have e := h.eq; have l := h.lt; have o := h.one h0
 have e2 : z - (q - 1) * y = r + y := by rw [e, Int.sub_mul]; omega
 exact ⟨⟨rfl, by omega, by omega, by omega⟩, by omega⟩
theorem DmI.down {z y q r : Int} (h : DmI z y q r) (h0 : r < 0) (hy : ¬ 0 < y) : DmI z y (q + 1) (z - (q + 1) * y) ∧ ¬ z - (q + 1) * y < 0 := by
 have e := h.eq; have l := h.lt; have o := h.one h0
 have e2 : z - (q + 1) * y = r - y := by rw [e, Int.add_mul]; omega
 exact ⟨⟨rfl, by omega, by omega, by omega⟩, by omega⟩
theorem Env.retZ2 {w W : World} {bs : List Bo} {old new : World → Prop} {i j : IV} {z y : Int} (h : Env w bs old new W) (hn : ∀ V, new V → IntN i z V) (hm : ∀ V, new V → IntN j y V) :
 zhb z y w (.returned (.tuple #[.agg #[.bool i.neg, .slice i.A i.k i.c], .agg #[.bool j.neg, .slice j.A j.k j.c]])) W :=
 ⟨i, j, rfl, (h.rsn.imp hn).mono fun _ h => h.1, (h.rsn.imp hm).mono fun _ h => h.1, h.bel⟩
set_option maxRecDepth 100000 in
theorem znJ (w : World) (i j : IV) (z y : Int) (n m : Nat) (hn : n ≤ 10000) (hm : m ≤ 10000) (h : IntD i z n w) (h2 : IntD j y m w) (hy0 : y ≠ 0) :
 Calls Tryz.prog 165 #[iA i, iA j] w (zhb (z / y) (z % y) w) := by
 have HE := zmZ (zh9 i j ((h.old).and (h2.old)))
 have c := Env.c4 HE.out
 have dd := Env.d4 HE.out
 have Hlz := zmZ h.lt
 have Hly := zmZ h2.lt
 obtain ⟨hz1, hy1⟩ := zrG h h2
 have HF := zmZ (zpd hz1 hy1 hy0)
 have hs : (y.sign == 0) = false := by simpa [Int.sign_eq_zero_iff_zero] using hy0
 have Hy0 := zmZ hy0
 clear h h2 hz1 hy1 hy0
 unfold iA
 go_enter Tryz.func165, Tryz.ntmps165
 go_wp2_with fail
 refine (zn1 _ j y m (by omega) (by first | exact HE.out.o.2 | exact HE.out.drew.o.2)).mono ?_
 rintro e w1 ⟨rfl, hb⟩
 replace HE := zmZ (Env.cx HE.out hb)
 replace c := Env.c4 HE.out
 clear hb
 go_wp2_with fail
 refine (zqe (by first | exact HE.out.o.1 | exact HE.out.drew.o.1) (by first | exact HE.out.o.2 | exact HE.out.drew.o.2) (by omega) (by omega) Hy0.out).mono ?_
 rintro e w2 ⟨A, c1, A', c1', rfl, hc1, hc1', hr1, hr1', hb, hf, hf'⟩
 replace HE := zmZ (Env.rx HE.out (za7 hr1 (fun k hk => hf k hk)) hb)
 replace c := Env.c4 HE.out
 clear hb hr1 hr1' hc1' hf hf' hc1
 go_wp2_with fail
 refine (znK (n := n) (by first | exact HE.out.n.1 | exact HE.out.drew.n.1) (Nat.lt_of_le_of_lt (Nat.div_le_self _ _) Hlz.out) (by omega)).mono ?_
 rintro e w3 ⟨k, rfl, hk, hb⟩
 replace HE := zmZ (Env.rx HE.out hk hb)
 replace c := Env.c4 HE.out
 clear hb hk
 generalize iv (!(i.neg == j.neg)) (z.natAbs / y.natAbs) = q0 at *
 go_upto_region 5 with fail
 obtain ⟨W3, gq, hW3, hgq, HE⟩ := Env.al HE.out 39 #[.bool k.neg, .slice k.A k.k k.c]
 rw [hW3, hgq]
 clear hW3 hgq
 replace c := Env.c5 HE.out
 replace dd := Env.d5 HE.out
 have Hdm := zmZ (show DmI z y q0 (z - q0 * y) from ⟨rfl, HF.out.1, Nat.le_succ_of_le HF.out.2, fun _ => HF.out.2⟩)
 have Hq := zmZ (Nat.lt_of_le_of_lt HF.out.2 Hlz.out)
 go_cut [9] (fun v wx => ∃ gr kq kr q r, DmI z y q r ∧ v = .pointer (some ⟨gr, 0, none⟩) ∧ Hid (Env w [⟨gr, 39, #[.bool kr.neg, .slice kr.A kr.k kr.c]⟩, ⟨gq, 39, #[.bool kq.neg, .slice kq.A kq.k kq.c]⟩, ⟨w.heap.size + 1 + 1 + 1, 39, #[.bool false, .slice none 0 0]⟩, ⟨w.heap.size + 1 + 1, 39, #[.bool false, .slice none 0 0]⟩, ⟨w.heap.size + 1, 39, #[.bool j.neg, .slice j.A j.k j.c]⟩, ⟨w.heap.size, 39, #[.bool i.neg, .slice i.A i.k i.c]⟩] (fun V => IntD i z n V ∧ IntD j y m V) (fun V => IntN kr r V ∧ IntN kq q V) wx))
 case first =>
  go_region_held3 (fun W => CB (w.heap.size) #[.bool i.neg, .slice i.A i.k i.c] W ∧ CB (w.heap.size + 1) #[.bool j.neg, .slice j.A j.k j.c] W ∧ CB (gq) #[.bool k.neg, .slice k.A k.k k.c] W) (first | exact ⟨c.2.2.2.2, c.2.2.2.1, c.1⟩ | exact ⟨c.2.2.2.2.2, c.2.2.2.2.1, c.2.1⟩ | exact ⟨(Env.c5 (HE.out.other _)).2.2.2.2, (Env.c5 (HE.out.other _)).2.2.2.1, (Env.c5 (HE.out.other _)).1⟩ | exact ⟨(Env.c5 (HE.out.drew.other _)).2.2.2.2, (Env.c5 (HE.out.drew.other _)).2.2.2.1, (Env.c5 (HE.out.drew.other _)).1⟩ | exact ⟨(Env.c6 (HE.out.put2 _ _ )).2.2.2.2.2, (Env.c6 (HE.out.put2 _ _ )).2.2.2.2.1, (Env.c6 (HE.out.put2 _ _ )).2.1⟩ | exact ⟨(Env.c6 (HE.out.drew.put2 _ _ )).2.2.2.2.2, (Env.c6 (HE.out.drew.put2 _ _ )).2.2.2.2.1, (Env.c6 (HE.out.drew.put2 _ _ )).2.1⟩ | ((repeat' apply And.intro) <;> go_keep))
   (first
    | (go_at_call 156; go_must (refine (znb _ k j q0 y n m (by omega) (by omega) (IntN.ofLt (by first | exact HE.out.n.1 | exact HE.out.drew.n.1 | exact (HE.out.nn _ _).n.1 | exact (HE.out.nn _ _).drew.n.1 | exact (HE.out.nd_ _ _).n.1) Hq.out) (by first | exact HE.out.o.2 | exact HE.out.drew.o.2 | exact (HE.out.nn _ _).o.2 | exact (HE.out.nn _ _).drew.o.2 | exact (HE.out.nd_ _ _).o.2)).mono ?_; rintro e w2 ⟨k1, rfl, hk, hb⟩; replace HE := zmZ (Env.ret (by first | exact HE.out | exact HE.out.drew | exact HE.out.nn _ _ | exact HE.out.nd_ _ _ | exact (HE.out.nn _ _).drew) hk hb); (first | (replace c := Env.c5 HE.out) | (replace c := Env.c6 HE.out)); clear hk hb))
    | (go_at_call 207; go_must (refine (znr _ i k1 z (q0 * y) n (n + m) (by omega) (by omega) (by first | exact HE.out.o.1 | exact HE.out.drew.o.1 | exact (HE.out.nn _ _).o.1 | exact (HE.out.nn _ _).drew.o.1 | exact (HE.out.nd_ _ _).o.1) (IntN.ofLt (by first | exact HE.out.n.1 | exact HE.out.drew.n.1 | exact (HE.out.nn _ _).n.1 | exact (HE.out.nn _ _).drew.n.1 | exact (HE.out.nd_ _ _).n.1) (znE Hq.out Hly.out))).mono ?_; rintro e w3 ⟨k2, rfl, hk, hb⟩; replace HE := zmZ (Env.ret (by first | exact HE.out | exact HE.out.drew | exact HE.out.nn _ _ | exact HE.out.nd_ _ _ | exact (HE.out.nn _ _).drew) hk hb); (first | (replace c := Env.c5 HE.out) | (replace c := Env.c6 HE.out)); clear hk hb)))
  all_goals
   go_wp2_with fail
   go_meet
   exact ⟨_, k, k2, q0, _, Hdm.out, rfl, zmZ (by first | exact (HE.out.put2 _ _).imp (fun _ h => h) (fun _ h => ⟨h.1, h.2.2.1⟩) | exact (HE.out.drew.put2 _ _).imp (fun _ h => h) (fun _ h => ⟨h.1, h.2.2.1⟩) | exact (HE.out.nn _ _).imp (fun _ h => h) (fun _ h => ⟨h.1, h.2.2.1⟩) | exact (HE.out.nd_ _ _).imp (fun _ h => h) (fun _ h => ⟨h.1, h.2.2.1⟩))⟩
 case rest =>
  clear HE c dd Hdm Hq HF
  obtain ⟨gr, kq, kr, q, r, hdm, rfl, HE⟩ := hcut
  have dd := Env.d6 HE.out
  go_wp2_with fail
  go_loopg [] (if r < 0 then 1 else 0) (fun gk wr => ∃ kq kr q r, DmI z y q r ∧ gk = (if r < 0 then 1 else 0) ∧ Hid (Env w [⟨gr, 39, #[.bool kr.neg, .slice kr.A kr.k kr.c]⟩, ⟨gq, 39, #[.bool kq.neg, .slice kq.A kq.k kq.c]⟩, ⟨w.heap.size + 1 + 1 + 1, 39, #[.bool false, .slice none 0 0]⟩, ⟨w.heap.size + 1 + 1, 39, #[.bool false, .slice none 0 0]⟩, ⟨w.heap.size + 1, 39, #[.bool j.neg, .slice j.A j.k j.c]⟩, ⟨w.heap.size, 39, #[.bool i.neg, .slice i.A i.k i.c]⟩] (fun V => IntD i z n V ∧ IntD j y m V) (fun V => IntN kr r V ∧ IntN kq q V) wr))
  case atStart => exact ⟨kq, kr, q, r, hdm, rfl, HE⟩
  case round =>
   clear HE hdm kq kr q r
   obtain ⟨kq, kr, q, r, hdm, hgk, HE⟩ := hrel
   have c := Env.c6 HE.out
   have Hdm := zmZ hdm
   clear hdm
   by_cases h0 : r < 0
   ·have hsg : r.sign < 0 := by rw [Int.sign_eq_neg_one_of_neg h0]; decide
    have Hh0 := zmZ h0
    rw [if_pos h0] at hgk
    subst hgk
    clear h0
    go_wp2_with fail
    refine (zn1 _ kr r m (by omega) (IntN.ofLt (by first | exact HE.out.n.1 | exact HE.out.drew.n.1) (Nat.lt_trans Hdm.out.lt Hly.out))).mono ?_
    rintro e w4 ⟨rfl, hb⟩
    replace HE := zmZ (Env.cx HE.out hb)
    replace c := Env.c6 HE.out
    clear hb
    go_wp2_with fail
    refine (zn1 _ j y m (by omega) (by first | exact HE.out.o.2 | exact HE.out.drew.o.2)).mono ?_
    rintro e w5 ⟨rfl, hb⟩
    replace HE := zmZ (Env.cx HE.out hb)
    replace c := Env.c6 HE.out
    clear hb
    by_cases hy : 0 < y
    ·have hsy : 0 < y.sign := by rw [Int.sign_eq_one_of_pos hy]; decide
     obtain ⟨hn1, hn2⟩ := Hdm.out.up Hh0.out hy
     have HD := zmZ hn1
     have HN := zmZ hn2
     clear hn1 hn2
     generalize hqq : q - 1 = q' at HD HN
     have Hqq := zmZ hqq
     clear hqq
     have Hq' := zmZ (zol (k := n + 1) Hlz.out q' HD.out.le (Nat.le_refl _))
     have Hq := zmZ (zol (k := n + 1) Hlz.out q Hdm.out.le (Nat.le_refl _))
     go_upto_region 8 with fail
     clear hy
     go_cut [] (fun wx => ∃ k', Hid (Env w [⟨gr, 39, #[.bool kr.neg, .slice kr.A kr.k kr.c]⟩, ⟨gq, 39, #[.bool k'.neg, .slice k'.A k'.k k'.c]⟩, ⟨w.heap.size + 1 + 1 + 1, 39, #[.bool false, .slice none 0 0]⟩, ⟨w.heap.size + 1 + 1, 39, #[.bool false, .slice none 0 0]⟩, ⟨w.heap.size + 1, 39, #[.bool j.neg, .slice j.A j.k j.c]⟩, ⟨w.heap.size, 39, #[.bool i.neg, .slice i.A i.k i.c]⟩] (fun V => IntD i z n V ∧ IntD j y m V) (fun V => IntN k' q' V) wx))
     case first =>
      go_region_with (first
       | (go_at_call 109; go_must (refine (znq _ 1 (by decide) (by decide)).mono ?_; rintro e w6 ⟨k3, rfl, hk, hb⟩; replace HE := zmZ (Env.rx HE.out hk hb); replace c := Env.c6 HE.out; clear hk hb))
       | (go_at_call 207; go_must (refine (znr _ kq k3 q 1 (n + 1) 1 (by omega) (by omega) (IntN.ofLt (by first | exact HE.out.n.2.2 | exact HE.out.n.2 | exact HE.out.drew.n.2.2 | exact HE.out.drew.n.2) Hq.out) (IntN.ofLt (by first | exact HE.out.n.1 | exact HE.out.drew.n.1) (by decide))).mono ?_; rintro e w7 ⟨k4, rfl, hk, hb⟩; replace HE := zmZ (Env.rx HE.out hk hb); replace c := Env.c6 HE.out; clear hk hb)))
      all_goals
       go_wp2_with fail
       go_meet
       exact ⟨k4, zmZ (by rw [← Hqq.out]; first | exact (HE.out.put2_1 _ _).imp (fun _ h => h) (fun _ h => h.1) | exact (HE.out.drew.put2_1 _ _).imp (fun _ h => h) (fun _ h => h.1))⟩
     case rest =>
      clear HE c Hq
      obtain ⟨k', HE⟩ := hcut
      have c := Env.c6 HE.out
      go_wp2_with fail
      go_region_held3 (fun W => CB (w.heap.size) #[.bool i.neg, .slice i.A i.k i.c] W ∧ CB (w.heap.size + 1) #[.bool j.neg, .slice j.A j.k j.c] W ∧ CB (gq) #[.bool k'.neg, .slice k'.A k'.k k'.c] W) (first | exact ⟨c.2.2.2.2.2, c.2.2.2.2.1, c.2.1⟩ | ((repeat' apply And.intro) <;> go_keep))
       (first
        | (go_at_call 156; go_must (refine (znb _ k' j q' y (n + 1) m (by omega) (by omega) (IntN.ofLt (by first | exact HE.out.n | exact HE.out.drew.n) Hq'.out) (by first | exact HE.out.o.2 | exact HE.out.drew.o.2)).mono ?_; rintro e w8 ⟨k5, rfl, hk, hb⟩; replace HE := zmZ (Env.rx HE.out hk hb); replace c := Env.c6 HE.out; clear hk hb))
        | (go_at_call 207; go_must (refine (znr _ i k5 z (q' * y) n (n + 1 + m) (by omega) (by omega) (by first | exact HE.out.o.1 | exact HE.out.drew.o.1) (IntN.ofLt (by first | exact HE.out.n.1 | exact HE.out.drew.n.1) (znE Hq'.out Hly.out))).mono ?_; rintro e w9 ⟨k6, rfl, hk, hb⟩; replace HE := zmZ (Env.rx HE.out hk hb); replace c := Env.c6 HE.out; clear hk hb)))
      go_wp2_with fail
      go_roundg 0
      case measure => omega
      case rel => exact ⟨k', k6, q', z - q' * y, HD.out, by rw [if_neg (by have := HN.out; omega)], zmZ (by first | exact (HE.out.put2 _ _).imp (fun _ h => h) (fun _ h => ⟨h.1, h.2.2⟩) | exact (HE.out.drew.put2 _ _).imp (fun _ h => h) (fun _ h => ⟨h.1, h.2.2⟩))⟩
    ·have hsy : (0 < y.sign) = False := by rw [Int.sign_eq_neg_one_of_neg (by have := Hy0.out; omega)]; decide
     obtain ⟨hn1, hn2⟩ := Hdm.out.down Hh0.out hy
     have HD := zmZ hn1
     have HN := zmZ hn2
     clear hn1 hn2
     generalize hqq : q + 1 = q' at HD HN
     have Hqq := zmZ hqq
     clear hqq
     have Hq' := zmZ (zol (k := n + 1) Hlz.out q' HD.out.le (Nat.le_refl _))
     have Hq := zmZ (zol (k := n + 1) Hlz.out q Hdm.out.le (Nat.le_refl _))
     go_upto_region 9 with fail
     clear hy
     go_cut [] (fun wx => ∃ k', Hid (Env w [⟨gr, 39, #[.bool kr.neg, .slice kr.A kr.k kr.c]⟩, ⟨gq, 39, #[.bool k'.neg, .slice k'.A k'.k k'.c]⟩, ⟨w.heap.size + 1 + 1 + 1, 39, #[.bool false, .slice none 0 0]⟩, ⟨w.heap.size + 1 + 1, 39, #[.bool false, .slice none 0 0]⟩, ⟨w.heap.size + 1, 39, #[.bool j.neg, .slice j.A j.k j.c]⟩, ⟨w.heap.size, 39, #[.bool i.neg, .slice i.A i.k i.c]⟩] (fun V => IntD i z n V ∧ IntD j y m V) (fun V => IntN k' q' V) wx))
     case first =>
      go_region_with (first
       | (go_at_call 109; go_must (refine (znq _ 1 (by decide) (by decide)).mono ?_; rintro e w10 ⟨k3, rfl, hk, hb⟩; replace HE := zmZ (Env.rx HE.out hk hb); replace c := Env.c6 HE.out; clear hk hb))
       | (go_at_call 155; go_must (refine (znI _ kq k3 q 1 (n + 1) 1 (by omega) (by omega) (IntN.ofLt (by first | exact HE.out.n.2.2 | exact HE.out.n.2 | exact HE.out.drew.n.2.2 | exact HE.out.drew.n.2) Hq.out) (IntN.ofLt (by first | exact HE.out.n.1 | exact HE.out.drew.n.1) (by decide))).mono ?_; rintro e w11 ⟨k4, rfl, hk, hb⟩; replace HE := zmZ (Env.rx HE.out hk hb); replace c := Env.c6 HE.out; clear hk hb)))
      all_goals
       go_wp2_with fail
       go_meet
       exact ⟨k4, zmZ (by rw [← Hqq.out]; first | exact (HE.out.put2_1 _ _).imp (fun _ h => h) (fun _ h => h.1) | exact (HE.out.drew.put2_1 _ _).imp (fun _ h => h) (fun _ h => h.1))⟩
     case rest =>
      clear HE c Hq
      obtain ⟨k', HE⟩ := hcut
      have c := Env.c6 HE.out
      go_wp2_with fail
      go_region_held3 (fun W => CB (w.heap.size) #[.bool i.neg, .slice i.A i.k i.c] W ∧ CB (w.heap.size + 1) #[.bool j.neg, .slice j.A j.k j.c] W ∧ CB (gq) #[.bool k'.neg, .slice k'.A k'.k k'.c] W) (first | exact ⟨c.2.2.2.2.2, c.2.2.2.2.1, c.2.1⟩ | ((repeat' apply And.intro) <;> go_keep))
       (first
        | (go_at_call 156; go_must (refine (znb _ k' j q' y (n + 1) m (by omega) (by omega) (IntN.ofLt (by first | exact HE.out.n | exact HE.out.drew.n) Hq'.out) (by first | exact HE.out.o.2 | exact HE.out.drew.o.2)).mono ?_; rintro e w12 ⟨k5, rfl, hk, hb⟩; replace HE := zmZ (Env.rx HE.out hk hb); replace c := Env.c6 HE.out; clear hk hb))
        | (go_at_call 207; go_must (refine (znr _ i k5 z (q' * y) n (n + 1 + m) (by omega) (by omega) (by first | exact HE.out.o.1 | exact HE.out.drew.o.1) (IntN.ofLt (by first | exact HE.out.n.1 | exact HE.out.drew.n.1) (znE Hq'.out Hly.out))).mono ?_; rintro e w13 ⟨k6, rfl, hk, hb⟩; replace HE := zmZ (Env.rx HE.out hk hb); replace c := Env.c6 HE.out; clear hk hb)))
      go_wp2_with fail
      go_roundg 0
      case measure => omega
      case rel => exact ⟨k', k6, q', z - q' * y, HD.out, by rw [if_neg (by have := HN.out; omega)], zmZ (by first | exact (HE.out.put2 _ _).imp (fun _ h => h) (fun _ h => ⟨h.1, h.2.2⟩) | exact (HE.out.drew.put2 _ _).imp (fun _ h => h) (fun _ h => ⟨h.1, h.2.2⟩))⟩
   ·have hsg : ¬ r.sign < 0 := by rw [Int.sign_neg_iff]; exact h0
    obtain ⟨rfl, rfl⟩ := zqC Hdm.out.eq (by omega) Hdm.out.lt
    clear hgk
    go_wp2_with fail
    refine (zn1 _ kr (z % y) m (by omega) (IntN.ofLt (by first | exact HE.out.n.1 | exact HE.out.drew.n.1) (Nat.lt_trans Hdm.out.lt Hly.out))).mono ?_
    rintro e w14 ⟨rfl, hb⟩
    replace HE := zmZ (Env.cx HE.out hb)
    replace c := Env.c6 HE.out
    clear hb
    go_wp2_with fail
    go_region_held3 (fun W => CB (gq) #[.bool kq.neg, .slice kq.A kq.k kq.c] W ∧ CB (gr) #[.bool kr.neg, .slice kr.A kr.k kr.c] W) (first | exact ⟨c.2.1, c.1⟩ | ((repeat' apply And.intro) <;> go_keep)) (fail)
    all_goals
     go_wp2_with fail
     first
     | (have hE := ((HE.out.put2_3 (.bool kq.neg) (.slice kq.A kq.k kq.c)).put2_2 (.bool kr.neg) (.slice kr.A kr.k kr.c)).drew; replace c := Env.c6 hE; exact bodyPost_ret (v := .tuple #[.agg #[.bool kq.neg, .slice kq.A kq.k kq.c], .agg #[.bool kr.neg, .slice kr.A kr.k kr.c]]) (by simp [results, Tryz.results165, go_sem, c]) rfl (hE.retZ2 (fun _ h => h.2) fun _ h => h.1))
     | (have hE := (HE.out.put2_3 (.bool kq.neg) (.slice kq.A kq.k kq.c)).put2_2 (.bool kr.neg) (.slice kr.A kr.k kr.c); replace c := Env.c6 hE; exact bodyPost_ret (v := .tuple #[.agg #[.bool kq.neg, .slice kq.A kq.k kq.c], .agg #[.bool kr.neg, .slice kr.A kr.k kr.c]]) (by simp [results, Tryz.results165, go_sem, c]) rfl (hE.retZ2 (fun _ h => h.2) fun _ h => h.1))
     | (have hE := ((HE.out.put2_2 (.bool kr.neg) (.slice kr.A kr.k kr.c)).put2_3 (.bool kq.neg) (.slice kq.A kq.k kq.c)).drew; replace c := Env.c6 hE; exact bodyPost_ret (v := .tuple #[.agg #[.bool kq.neg, .slice kq.A kq.k kq.c], .agg #[.bool kr.neg, .slice kr.A kr.k kr.c]]) (by simp [results, Tryz.results165, go_sem, c]) rfl (hE.retZ2 (fun _ h => h.2) fun _ h => h.1))
     | (have hE := (HE.out.put2_2 (.bool kr.neg) (.slice kr.A kr.k kr.c)).put2_3 (.bool kq.neg) (.slice kq.A kq.k kq.c); replace c := Env.c6 hE; exact bodyPost_ret (v := .tuple #[.agg #[.bool kq.neg, .slice kq.A kq.k kq.c], .agg #[.bool kr.neg, .slice kr.A kr.k kr.c]]) (by simp [results, Tryz.results165, go_sem, c]) rfl (hE.retZ2 (fun _ h => h.2) fun _ h => h.1))

theorem Env.retR {w W : World} {bs : List Bo} {old new : World → Prop} {g : Nat} {t : TypeId} {r : RV} {q : Rat}
 (h : Env w (⟨g, t, #[.bool r.num.neg, .slice r.num.A r.num.k r.num.c, .bool r.den.neg, .slice r.den.A r.den.k r.den.c]⟩ :: bs) old new W) (hn : ∀ V, new V → RatN r q V) :
 RetR q w (.returned (.agg #[.bool r.num.neg, .slice r.num.A r.num.k r.num.c, .bool r.den.neg, .slice r.den.A r.den.k r.den.c])) W :=
 ⟨r, rfl, (h.rsn.imp hn).mono fun _ h => h.1, h.bel⟩
theorem lowN {x d : Int} (hd : 0 < d) {V : World} {k l : IV} (h : IntN k (x / ((Nat.gcd x.natAbs d.natAbs : Nat) : Int)) V) (h' : IntN l (d / ((Nat.gcd x.natAbs d.natAbs : Nat) : Int)) V) (h1 : d / ((Nat.gcd x.natAbs d.natAbs : Nat) : Int) ≠ 1) : RatN ⟨k, l⟩ (Rat.divInt x d) V := by
 obtain ⟨e1, e2⟩ := zfx (x := x) hd
 refine ⟨by rw [e1]; exact h, ?_⟩
 unfold dn
 rw [if_neg (by intro e; rw [e] at e2; omega), e2]; exact h'
theorem zrI {x d : Int} (hd : 0 < d) {V : World} {k : IV} (h : IntN k (x / ((Nat.gcd x.natAbs d.natAbs : Nat) : Int)) V) (h1 : d / ((Nat.gcd x.natAbs d.natAbs : Nat) : Int) = 1) : RatN ⟨k, ⟨false, none, 0, 0⟩⟩ (Rat.divInt x d) V := by
 obtain ⟨e1, e2⟩ := zfx (x := x) hd
 refine ⟨by rw [e1]; exact h, ?_⟩
 unfold dn
 rw [if_pos (by omega)]; exact zcM V
theorem zrF {x d : Int} {n : Nat} (hd : 0 < d) (h : d.natAbs < B64 ^ n) : (((Nat.gcd x.natAbs d.natAbs : Nat) : Int)).natAbs < B64 ^ n ∧ ((Nat.gcd x.natAbs d.natAbs : Nat) : Int) ≠ 0 := by
 have := Nat.gcd_le_right x.natAbs (show 0 < d.natAbs by omega)
 have := Nat.gcd_pos_of_pos_right x.natAbs (show 0 < d.natAbs by omega)
 exact ⟨by omega, by omega⟩
theorem zra {x g : Int} {n : Nat} (h : x.natAbs < B64 ^ n) (hx : 0 < x) (hg : 0 ≤ g) : (x / g).natAbs < B64 ^ n := by
 have h1 := Int.ediv_le_self g (Int.le_of_lt hx)
 have h2 := Int.ediv_nonneg (Int.le_of_lt hx) hg
 omega
theorem zqB (z : Int) : ((z - 1).sign == 0) = decide (z = 1) := by
 rw [Bool.eq_iff_iff]; simp [Int.sign_eq_zero_iff_zero]; omega
set_option maxRecDepth 100000 in
theorem znn (w : World) (i j : IV) (x d : Int) (n : Nat) (hn : n ≤ 10000) (h : IntD i x n w) (h2 : IntD j d n w) (hd : 0 < d) :
 Calls Tryz.prog 113 #[iA i, iA j] w (RetR (Rat.divInt x d) w) := by
 have HE := zmZ (zm8 i j ((h.old).and (h2.old)))
 have c := Env.c3 HE.out
 have dd := Env.d3 HE.out
 have Hlx := zmZ h.lt
 have Hld := zmZ h2.lt
 obtain ⟨hg1, hg2⟩ := zrF (x := x) hd h2.lt
 have Hg1 := zmZ hg1
 have Hg2 := zmZ hg2
 have Hd := zmZ hd
 have HL := zmZ (fun V k l => lowN (V := V) (k := k) (l := l) (x := x) hd)
 have HL1 := zmZ (fun V k => zrI (V := V) (k := k) (x := x) hd)
 clear h h2 hd hg1 hg2
 unfold iA
 go_enter Tryz.func113, Tryz.ntmps113
 go_wp2_with fail
 refine (zoO _ i j x d n n hn hn (by first | exact HE.out.o.1 | exact HE.out.drew.o.1) (by first | exact HE.out.o.2 | exact HE.out.drew.o.2)).mono ?_
 rintro e w1 ⟨kg, rfl, hk, hb⟩
 replace HE := zmZ (Env.rx HE.out hk hb)
 replace c := Env.c3 HE.out
 clear hk hb
 generalize hGG : ((Nat.gcd x.natAbs d.natAbs : Nat) : Int) = G at *
 have HG := zmZ hGG
 clear hGG
 go_upto_region 2 with fail
 obtain ⟨W3, gg, hW3, hgg, HE⟩ := Env.al HE.out 39 #[.bool kg.neg, .slice kg.A kg.k kg.c]
 rw [hW3, hgg]
 clear hW3 hgg
 replace c := Env.c4 HE.out
 replace dd := Env.d4 HE.out
 go_wp2_with fail
 refine (znJ _ i kg x G n n (by omega) (by omega) (by first | exact HE.out.o.1 | exact HE.out.drew.o.1) (IntN.ofLt (by first | exact HE.out.n.1 | exact HE.out.drew.n.1) Hg1.out) Hg2.out).mono ?_
 rintro e w4 ⟨k, k0, rfl, hk, hk0, hb⟩
 replace HE := zmZ (Env.rx HE.out hk hb)
 replace c := Env.c4 HE.out
 clear hk hk0 hb
 go_wp2_with fail
 obtain ⟨W5, hW5, HE⟩ := Env.st2_3 HE.out (.bool k.neg) (.slice k.A k.k k.c)
 rw [hW5]
 clear hW5
 replace c := Env.c4 HE.out
 refine (znJ _ j kg d G n n (by omega) (by omega) (by first | exact HE.out.o.2 | exact HE.out.drew.o.2) (IntN.ofLt (by first | exact HE.out.n.2.1 | exact HE.out.drew.n.2.1) Hg1.out) Hg2.out).mono ?_
 rintro e w6 ⟨l, l0, rfl, hk, hk0, hb⟩
 replace HE := zmZ (Env.rx HE.out hk hb)
 replace c := Env.c4 HE.out
 clear hk hk0 hb
 have hsg := zqB (d / G)
 by_cases h1 : d / G = 1
 all_goals
  have H1 := zmZ h1
  first | rw [decide_eq_true h1] at hsg | rw [decide_eq_false h1] at hsg
  clear h1
  go_upto_region 4 with fail
  obtain ⟨W7, hW7, HE⟩ := Env.st2_2 HE.out (.bool l.neg) (.slice l.A l.k l.c)
  (try rw [hW7])
  clear hW7
  replace c := Env.c4 HE.out
  go_region_held3 (fun W => CB (w.heap.size + 1) #[.bool l.neg, .slice l.A l.k l.c] W) (first | exact c.2.2.1 | ((repeat' apply And.intro) <;> go_keep))
   (first
    | (go_at_call 109; go_must (refine (znq _ 1 (by decide) (by decide)).mono ?_; rintro e w1 ⟨k3, rfl, hk, hb⟩; replace HE := zmZ (Env.rx HE.out hk hb); replace c := Env.c4 HE.out; clear hk hb))
    | (go_at_call 166; go_must (refine (zoZ _ l k3 (d / G) 1 n 1 (by omega) (by decide) (IntN.ofLt (by first | exact HE.out.n.2.1 | exact HE.out.drew.n.2.1) (zra Hld.out Hd.out (by rw [← HG.out]; exact Int.natCast_nonneg _))) (IntN.ofLt (by first | exact HE.out.n.1 | exact HE.out.drew.n.1) (by decide))).mono ?_; rintro e w2 ⟨rfl, hb⟩; replace HE := zmZ (Env.cx HE.out hb); replace c := Env.c4 HE.out; clear hb)))
 ·go_wp2_with fail
  have hE := (HE.out.put2_2 (.bool false) (.slice none 0 0)).put4_1 (.bool k.neg) (.slice k.A k.k k.c) (.bool false) (.slice none 0 0)
  replace c := Env.c4 hE
  exact bodyPost_ret (v := .agg #[.bool k.neg, .slice k.A k.k k.c, .bool false, .slice none 0 0]) (by simp [results, Tryz.results113, go_sem, c]) rfl ((hE.perm (List.Perm.swap ..)).retR (r := ⟨k, ⟨false, none, 0, 0⟩⟩) fun V h => HL1.out V k h.2.2.1 H1.out)
 ·go_wp2_with fail
  have hE := HE.out.put4_1 (.bool k.neg) (.slice k.A k.k k.c) (.bool l.neg) (.slice l.A l.k l.c)
  replace c := Env.c4 hE
  exact bodyPost_ret (v := .agg #[.bool k.neg, .slice k.A k.k k.c, .bool l.neg, .slice l.A l.k l.c]) (by simp [results, Tryz.results113, go_sem, c]) rfl ((hE.perm (List.Perm.swap ..)).retR (r := ⟨k, l⟩) fun V h => HL.out V k l h.2.2.1 h.2.1 H1.out)
set_option maxRecDepth 100000 in
theorem zqM (w : World) (i j : IV) (x d : Int) (n : Nat) (hn : n ≤ 10000) (h : IntD i x n w) (h2 : IntD j d n w) (hd : d = 0) :
 Calls Tryz.prog 108 #[iA i, iA j] w (RetR (Rat.divInt x d) w) := by
 have HE := zmZ (zm8 i j ((h.old).and (h2.old)))
 have c := Env.c3 HE.out
 have dd := Env.d3 HE.out
 have Hs := zmZ (show d.sign = 0 by rw [hd]; rfl)
 have Hx := zmZ h.lt
 have Hd := zmZ h2.lt
 have Hd0 := zmZ hd
 clear h h2 hd
 unfold iA
 go_enter Tryz.func108, Tryz.ntmps108
 go_wp2_with fail
 refine (zn1 _ j d n (by omega) (by first | exact HE.out.o.2 | exact HE.out.drew.o.2)).mono ?_
 rintro e w1 ⟨rfl, hb⟩
 replace HE := zmZ (Env.cx HE.out hb)
 replace c := Env.c3 HE.out
 clear hb
 rw [Hs.out]
 go_wp2_with fail
 have hE := HE.out.put4 (.bool false) (.slice none 0 0) (.bool false) (.slice none 0 0)
 replace c := Env.c3 hE
 rw [Hd0.out, Rat.divInt_zero]
 exact bodyPost_ret (v := .agg #[.bool false, .slice none 0 0, .bool false, .slice none 0 0]) (by simp [results, Tryz.results108, go_sem, c]) rfl (hE.retR (r := ⟨⟨false, none, 0, 0⟩, ⟨false, none, 0, 0⟩⟩) fun V _ => ⟨zcM V, by simpa [dn] using zcM V⟩)
set_option maxRecDepth 100000 in
theorem zr4 (w : World) (i j : IV) (x d : Int) (n : Nat) (hn : n ≤ 10000) (h : IntD i x n w) (h2 : IntD j d n w) (hd : 0 < d) :
 Calls Tryz.prog 108 #[iA i, iA j] w (RetR (Rat.divInt x d) w) := by
 have HE := zmZ (zm8 i j ((h.old).and (h2.old)))
 have c := Env.c3 HE.out
 have dd := Env.d3 HE.out
 have Hs := zmZ (show d.sign = 1 by exact Int.sign_eq_one_of_pos hd)
 have Hx := zmZ h.lt
 have Hd := zmZ h2.lt
 have Hd0 := zmZ hd
 clear h h2 hd
 unfold iA
 go_enter Tryz.func108, Tryz.ntmps108
 go_wp2_with fail
 refine (zn1 _ j d n (by omega) (by first | exact HE.out.o.2 | exact HE.out.drew.o.2)).mono ?_
 rintro e w1 ⟨rfl, hb⟩
 replace HE := zmZ (Env.cx HE.out hb)
 replace c := Env.c3 HE.out
 clear hb
 rw [Hs.out]
 go_wp2_with fail
 refine (znn _ i j x d n hn (by first | exact HE.out.o.1 | exact HE.out.drew.o.1) (by first | exact HE.out.o.2 | exact HE.out.drew.o.2) (by have := Hd0.out; omega)).mono ?_
 rintro e w6 ⟨r, rfl, hk, hb⟩
 replace HE := zmZ (Env.rx HE.out hk hb)
 replace c := Env.c3 HE.out
 clear hk hb
 go_wp2_with fail
 have hE := HE.out.put4 (.bool r.num.neg) (.slice r.num.A r.num.k r.num.c) (.bool r.den.neg) (.slice r.den.A r.den.k r.den.c)
 replace c := Env.c3 hE
 exact bodyPost_ret (v := .agg #[.bool r.num.neg, .slice r.num.A r.num.k r.num.c, .bool r.den.neg, .slice r.den.A r.den.k r.den.c]) (by simp [results, Tryz.results108, go_sem, c]) rfl (hE.retR fun _ h => h.1)
set_option maxRecDepth 100000 in
theorem zqX (w : World) (i j : IV) (x d : Int) (n : Nat) (hn : n ≤ 10000) (h : IntD i x n w) (h2 : IntD j d n w) (hd : d < 0) :
 Calls Tryz.prog 108 #[iA i, iA j] w (RetR (Rat.divInt x d) w) := by
 have HE := zmZ (zm8 i j ((h.old).and (h2.old)))
 have c := Env.c3 HE.out
 have dd := Env.d3 HE.out
 have Hs := zmZ (show d.sign = -1 by exact Int.sign_eq_neg_one_of_neg hd)
 have Hx := zmZ h.lt
 have Hd := zmZ h2.lt
 have Hd0 := zmZ hd
 clear h h2 hd
 unfold iA
 go_enter Tryz.func108, Tryz.ntmps108
 go_wp2_with fail
 refine (zn1 _ j d n (by omega) (by first | exact HE.out.o.2 | exact HE.out.drew.o.2)).mono ?_
 rintro e w1 ⟨rfl, hb⟩
 replace HE := zmZ (Env.cx HE.out hb)
 replace c := Env.c3 HE.out
 clear hb
 rw [Hs.out]
 go_wp2_with fail
 refine (zno _ i x n (by omega) (by first | exact HE.out.o.1 | exact HE.out.drew.o.1)).mono ?_
 rintro e w2 ⟨k, rfl, hk, hb⟩
 replace HE := zmZ (Env.rx HE.out hk hb)
 replace c := Env.c3 HE.out
 clear hk hb
 go_wp2_with fail
 obtain ⟨W3, hW3, HE⟩ := Env.st2_2 HE.out (.bool k.neg) (.slice k.A k.k k.c)
 rw [hW3]
 clear hW3
 replace c := Env.c3 HE.out
 refine (zno _ j d n (by omega) (by first | exact HE.out.o.2 | exact HE.out.drew.o.2)).mono ?_
 rintro e w4 ⟨l, rfl, hk, hb⟩
 replace HE := zmZ (Env.rx HE.out hk hb)
 replace c := Env.c3 HE.out
 clear hk hb
 go_wp2_with fail
 obtain ⟨W5, hW5, HE⟩ := Env.st2_1 HE.out (.bool l.neg) (.slice l.A l.k l.c)
 rw [hW5]
 clear hW5
 replace c := Env.c3 HE.out
 refine (znn _ k l (-x) (-d) n hn (IntN.ofLt (by first | exact HE.out.n.2.1 | exact HE.out.drew.n.2.1) (by rw [Int.natAbs_neg]; exact Hx.out)) (IntN.ofLt (by first | exact HE.out.n.1 | exact HE.out.drew.n.1) (by rw [Int.natAbs_neg]; exact Hd.out)) (by have := Hd0.out; omega)).mono ?_
 rintro e w6 ⟨r, rfl, hk, hb⟩
 replace HE := zmZ (Env.rx HE.out hk hb)
 replace c := Env.c3 HE.out
 clear hk hb
 go_wp2_with fail
 rw [show Rat.divInt x d = Rat.divInt (-x) (-d) from (Rat.neg_divInt_neg x d).symm]
 have hE := HE.out.put4 (.bool r.num.neg) (.slice r.num.A r.num.k r.num.c) (.bool r.den.neg) (.slice r.den.A r.den.k r.den.c)
 replace c := Env.c3 hE
 exact bodyPost_ret (v := .agg #[.bool r.num.neg, .slice r.num.A r.num.k r.num.c, .bool r.den.neg, .slice r.den.A r.den.k r.den.c]) (by simp [results, Tryz.results108, go_sem, c]) rfl (hE.retR fun _ h => h.1)
theorem zpC (w : World) (i j : IV) (x d : Int) (n : Nat) (hn : n ≤ 10000) (h : IntD i x n w) (h2 : IntD j d n w) : Calls Tryz.prog 108 #[iA i, iA j] w (RetR (Rat.divInt x d) w) := by
 rcases Int.lt_trichotomy d 0 with hd | hd | hd
 ·exact zqX w i j x d n hn h h2 hd
 ·exact zqM w i j x d n hn h h2 hd
 ·exact zr4 w i j x d n hn h h2 hd
set_option maxRecDepth 100000 in
theorem zpk (w : World) (x y : Int) (h1 : -9223372036854775808 ≤ x) (h2 : x ≤ 9223372036854775807) (h3 : -9223372036854775808 ≤ y) (h4 : y ≤ 9223372036854775807) :
 Calls Tryz.prog 65 #[.int .i64 x, .int .i64 y] w (RetR (Rat.divInt x y) w) := by
 have HE := zmZ (lyZ (Rests.pure trivial w _))
 have c := Env.c1 HE.out
 go_enter Tryz.func65, Tryz.ntmps65
 go_wp2_with fail
 refine (znq _ x h1 h2).mono ?_
 rintro e w1 ⟨k, rfl, hk, hb⟩
 replace HE := zmZ (Env.rx HE.out hk hb)
 replace c := Env.c1 HE.out
 clear hk hb
 go_wp2_with fail
 refine (znq _ y h3 h4).mono ?_
 rintro e w2 ⟨l, rfl, hk, hb⟩
 replace HE := zmZ (Env.rx HE.out hk hb)
 replace c := Env.c1 HE.out
 clear hk hb
 go_wp2_with fail
 refine (zpC _ k l x y 1 (by decide) (IntN.ofLt (by first | exact HE.out.n.2.1 | exact HE.out.drew.n.2.1) (by simp only [B64]; omega)) (IntN.ofLt (by first | exact HE.out.n.1 | exact HE.out.drew.n.1) (by simp only [B64]; omega))).mono ?_
 rintro e w3 ⟨r, rfl, hk, hb⟩
 replace HE := zmZ (Env.rx HE.out hk hb)
 replace c := Env.c1 HE.out
 clear hk hb
 go_wp2_with fail
 have hE := HE.out.put4 (.bool r.num.neg) (.slice r.num.A r.num.k r.num.c) (.bool r.den.neg) (.slice r.den.A r.den.k r.den.c)
 replace c := Env.c1 hE
 exact bodyPost_ret (v := .agg #[.bool r.num.neg, .slice r.num.A r.num.k r.num.c, .bool r.den.neg, .slice r.den.A r.den.k r.den.c]) (by simp [results, Tryz.results65, go_sem, c]) rfl (hE.retR fun _ h => h.1)
end Go.Proofs.YtikmgoefjbhcjaaGreatDoor
