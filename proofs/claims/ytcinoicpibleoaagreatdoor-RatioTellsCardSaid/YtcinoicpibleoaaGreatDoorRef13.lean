/-
  tripwireref04: Sub, Abs, Max, Min, Floor, Ceil.
-/
import Derived.Test.YtcinoicpibleoaaGreatDoorRef12
import Derived.Test.YtcinoicpibleoaaGreatDoorSL
import Derived.Test.YtcinoicpibleoaaGreatDoorQC
import Derived.Test.YtcinoicpibleoaaGreatDoorRQ
namespace Go.Proofs.YtcinoicpibleoaaGreatDoor
open Go.RowKit

theorem cmpQ_sub (a b : Rat) : (a - b).num.sign = cmpQ a b := (cmp_sg a b).symm
set_option maxRecDepth 100000 in
set_option maxHeartbeats 2000000 in
theorem refsub4_any (w : World) (r s : RV) (a b : Rat) (n : Nat) (hn : n ≤ 3000) (h1n : 1 ≤ n) (ha : RatD r a n w) (hb : RatD s b n w) :
    Calls Tryz.prog 20 #[.agg #[.bool r.num.neg, .slice r.num.A r.num.k r.num.c, .bool r.den.neg, .slice r.den.A r.den.k r.den.c], .agg #[.bool s.num.neg, .slice s.num.A s.num.k s.num.c, .bool s.den.neg, .slice s.den.A s.den.k s.den.c]] w (RetR (a - b) w) := by
  have Hs := Lib.hid (hb.sz h1n)
  obtain ⟨W0, hW0⟩ : ∃ W0, W0 = (((w.alloc (.cells #[.bool r.num.neg, .slice r.num.A r.num.k r.num.c, .bool r.den.neg, .slice r.den.A r.den.k r.den.c] 31)).alloc (.cells #[.bool s.num.neg, .slice s.num.A s.num.k s.num.c, .bool s.den.neg, .slice s.den.A s.den.k s.den.c] 31)).alloc (.cells #[.bool false, .slice none 0 0, .bool false, .slice none 0 0] 31)) := ⟨_, rfl⟩
  have HE := Lib.hid (Env.lay3 (Env.start ((ha.old).and (hb.old))) hW0)
  subst hW0
  have c := Env.c3 HE.out
  have dd := Env.d3 HE.out
  clear ha hb
  go_enter Tryz.func20, Tryz.ntmps20
  go_wp2_with fail
  go_region_held3 (fun W => CB (w.heap.size) #[.bool r.num.neg, .slice r.num.A r.num.k r.num.c, .bool r.den.neg, .slice r.den.A r.den.k r.den.c] W ∧ CB (w.heap.size + 1) #[.bool s.num.neg, .slice s.num.A s.num.k s.num.c, .bool s.den.neg, .slice s.den.A s.den.k s.den.c] W) (first | exact ⟨c.2.2, c.2.1⟩ | ((repeat' apply And.intro) <;> go_keep))
    (first
      | (go_at_call 31; go_must (refine (refneg4_any _ s b n (by omega) h1n (by first | exact HE.out.o.2 | exact HE.out.drew.o.2)).mono ?_; rintro e w1 ⟨k, rfl, hk, hb⟩; replace HE := Lib.hid (Env.ret (by first | exact HE.out | exact HE.out.drew) hk hb); replace c := Env.c3 HE.out; clear hk hb))
      | (go_at_call 18; go_must (refine (refadd4_any _ r k a (-b) n hn h1n (by first | exact HE.out.o.1 | exact HE.out.drew.o.1) (RatN.rat (by first | exact HE.out.n.1 | exact HE.out.drew.n.1) (Sz.neg Hs.out))).mono ?_; rintro e w2 ⟨q, rfl, hk, hb⟩; replace HE := Lib.hid (Env.ret (by first | exact HE.out | exact HE.out.drew) hk hb); replace c := Env.c3 HE.out; clear hk hb)))
  go_wp2_with fail
  rw [Rat.sub_eq_add_neg]
  have hE := HE.out.put4 (.bool q.num.neg) (.slice q.num.A q.num.k q.num.c) (.bool q.den.neg) (.slice q.den.A q.den.k q.den.c)
  replace c := Env.c3 hE
  exact bodyPost_ret (v := .agg #[.bool q.num.neg, .slice q.num.A q.num.k q.num.c, .bool q.den.neg, .slice q.den.A q.den.k q.den.c]) (by simp [results, Tryz.results20, go_sem, c]) rfl (hE.retR' rfl fun _ h => h.1)
set_option maxRecDepth 100000 in
set_option maxHeartbeats 2000000 in
theorem refabs4_m (w : World) (r : RV) (a : Rat) (n : Nat) (hn : n ≤ 10000) (h1n : 1 ≤ n) (ha : RatD r a n w) (hc : a.num < 0) :
    Calls Tryz.prog 33 #[.agg #[.bool r.num.neg, .slice r.num.A r.num.k r.num.c, .bool r.den.neg, .slice r.den.A r.den.k r.den.c]] w (RetR (-a) w) := by
  have Hc := Lib.hid hc
  clear hc
  obtain ⟨W0, hW0⟩ : ∃ W0, W0 = ((w.alloc (.cells #[.bool r.num.neg, .slice r.num.A r.num.k r.num.c, .bool r.den.neg, .slice r.den.A r.den.k r.den.c] 31)).alloc (.cells #[.bool false, .slice none 0 0, .bool false, .slice none 0 0] 31)) := ⟨_, rfl⟩
  have HE := Lib.hid (Env.lay2 (Env.start (ha.old)) hW0)
  subst hW0
  have c := Env.c2 HE.out
  have dd := Env.d2 HE.out
  clear ha
  go_enter Tryz.func33, Tryz.ntmps33
  go_wp2_with fail
  refine (refsign4_any _ r a n hn h1n (by first | exact HE.out.o | exact HE.out.drew.o)).mono ?_
  rintro e w1 ⟨rfl, hb⟩
  replace HE := Lib.hid (Env.call (by first | exact HE.out | exact HE.out.drew) hb)
  replace c := Env.c2 HE.out
  clear hb
  have hs : a.num.sign < 0 := by rw [Int.sign_neg_iff]; have := Hc.out; omega
  have hc := Hc.out
  go_wp2_with fail
  refine (refneg4_any _ r a n hn h1n (by first | exact HE.out.o | exact HE.out.drew.o)).mono ?_
  rintro e w2 ⟨q, rfl, hk, hb⟩
  replace HE := Lib.hid (Env.ret (by first | exact HE.out | exact HE.out.drew) hk hb)
  replace c := Env.c2 HE.out
  clear hk hb
  go_wp2_with fail
  have hE := HE.out.put4 (.bool q.num.neg) (.slice q.num.A q.num.k q.num.c) (.bool q.den.neg) (.slice q.den.A q.den.k q.den.c)
  replace c := Env.c2 hE
  exact bodyPost_ret (v := .agg #[.bool q.num.neg, .slice q.num.A q.num.k q.num.c, .bool q.den.neg, .slice q.den.A q.den.k q.den.c]) (by simp [results, Tryz.results33, go_sem, c]) rfl (hE.retR' rfl fun _ h => h.1)
set_option maxRecDepth 100000 in
set_option maxHeartbeats 2000000 in
theorem refabs4_p (w : World) (r : RV) (a : Rat) (n : Nat) (hn : n ≤ 10000) (h1n : 1 ≤ n) (ha : RatD r a n w) (hc : ¬ a.num < 0) :
    Calls Tryz.prog 33 #[.agg #[.bool r.num.neg, .slice r.num.A r.num.k r.num.c, .bool r.den.neg, .slice r.den.A r.den.k r.den.c]] w (RetR a w) := by
  have Hc := Lib.hid hc
  clear hc
  obtain ⟨W0, hW0⟩ : ∃ W0, W0 = ((w.alloc (.cells #[.bool r.num.neg, .slice r.num.A r.num.k r.num.c, .bool r.den.neg, .slice r.den.A r.den.k r.den.c] 31)).alloc (.cells #[.bool false, .slice none 0 0, .bool false, .slice none 0 0] 31)) := ⟨_, rfl⟩
  have HE := Lib.hid (Env.lay2 (Env.start (ha.old)) hW0)
  subst hW0
  have c := Env.c2 HE.out
  have dd := Env.d2 HE.out
  clear ha
  go_enter Tryz.func33, Tryz.ntmps33
  go_wp2_with fail
  refine (refsign4_any _ r a n hn h1n (by first | exact HE.out.o | exact HE.out.drew.o)).mono ?_
  rintro e w1 ⟨rfl, hb⟩
  replace HE := Lib.hid (Env.call (by first | exact HE.out | exact HE.out.drew) hb)
  replace c := Env.c2 HE.out
  clear hb
  have hs : ¬ a.num.sign < 0 := by rw [Int.sign_neg_iff]; have := Hc.out; omega
  have hc := Hc.out
  go_wp2_with fail
  refine (refnorm4_any _ r a n hn h1n (by first | exact HE.out.o | exact HE.out.drew.o)).mono ?_
  rintro e w2 ⟨q, rfl, hk, hb⟩
  replace HE := Lib.hid (Env.ret (by first | exact HE.out | exact HE.out.drew) hk hb)
  replace c := Env.c2 HE.out
  clear hk hb
  go_wp2_with fail
  have hE := HE.out.put4 (.bool q.num.neg) (.slice q.num.A q.num.k q.num.c) (.bool q.den.neg) (.slice q.den.A q.den.k q.den.c)
  replace c := Env.c2 hE
  exact bodyPost_ret (v := .agg #[.bool q.num.neg, .slice q.num.A q.num.k q.num.c, .bool q.den.neg, .slice q.den.A q.den.k q.den.c]) (by simp [results, Tryz.results33, go_sem, c]) rfl (hE.retR' rfl fun _ h => h.1)
theorem refabs4_any (w : World) (r : RV) (a : Rat) (n : Nat) (hn : n ≤ 10000) (h1n : 1 ≤ n) (ha : RatD r a n w) : Calls Tryz.prog 33 #[.agg #[.bool r.num.neg, .slice r.num.A r.num.k r.num.c, .bool r.den.neg, .slice r.den.A r.den.k r.den.c]] w (RetR (rabs a) w) := by
  unfold rabs
  split
  · exact refabs4_m w r a n hn h1n ha (by assumption)
  · exact refabs4_p w r a n hn h1n ha (by assumption)
set_option maxRecDepth 100000 in
set_option maxHeartbeats 2000000 in
theorem refmax4_b (w : World) (r s : RV) (a b : Rat) (n : Nat) (hn : n ≤ 3000) (h1n : 1 ≤ n) (ha : RatD r a n w) (hb : RatD s b n w) (hc : cmpQ a b < 0) :
    Calls Tryz.prog 35 #[.agg #[.bool r.num.neg, .slice r.num.A r.num.k r.num.c, .bool r.den.neg, .slice r.den.A r.den.k r.den.c], .agg #[.bool s.num.neg, .slice s.num.A s.num.k s.num.c, .bool s.den.neg, .slice s.den.A s.den.k s.den.c]] w (RetR b w) := by
  have Hc := Lib.hid hc
  clear hc
  obtain ⟨W0, hW0⟩ : ∃ W0, W0 = (((w.alloc (.cells #[.bool r.num.neg, .slice r.num.A r.num.k r.num.c, .bool r.den.neg, .slice r.den.A r.den.k r.den.c] 31)).alloc (.cells #[.bool s.num.neg, .slice s.num.A s.num.k s.num.c, .bool s.den.neg, .slice s.den.A s.den.k s.den.c] 31)).alloc (.cells #[.bool false, .slice none 0 0, .bool false, .slice none 0 0] 31)) := ⟨_, rfl⟩
  have HE := Lib.hid (Env.lay3 (Env.start ((ha.old).and (hb.old))) hW0)
  subst hW0
  have c := Env.c3 HE.out
  have dd := Env.d3 HE.out
  clear ha hb
  go_enter Tryz.func35, Tryz.ntmps35
  go_wp2_with fail
  refine (refcmp4_any _ r s a b n hn h1n (by first | exact HE.out.o.1 | exact HE.out.drew.o.1) (by first | exact HE.out.o.2 | exact HE.out.drew.o.2)).mono ?_
  rintro e w1 ⟨rfl, hb⟩
  replace HE := Lib.hid (Env.call (by first | exact HE.out | exact HE.out.drew) hb)
  replace c := Env.c3 HE.out
  clear hb
  rw [cmpQ_sub]
  have hc := Hc.out
  generalize cmpQ a b = C at *
  go_wp2_with fail
  refine (refnorm4_any _ s b n (by omega) h1n (by first | exact HE.out.o.2 | exact HE.out.drew.o.2)).mono ?_
  rintro e w2 ⟨q, rfl, hk, hb⟩
  replace HE := Lib.hid (Env.ret (by first | exact HE.out | exact HE.out.drew) hk hb)
  replace c := Env.c3 HE.out
  clear hk hb
  go_wp2_with fail
  have hE := HE.out.put4 (.bool q.num.neg) (.slice q.num.A q.num.k q.num.c) (.bool q.den.neg) (.slice q.den.A q.den.k q.den.c)
  replace c := Env.c3 hE
  exact bodyPost_ret (v := .agg #[.bool q.num.neg, .slice q.num.A q.num.k q.num.c, .bool q.den.neg, .slice q.den.A q.den.k q.den.c]) (by simp [results, Tryz.results35, go_sem, c]) rfl (hE.retR' rfl fun _ h => h.1)
set_option maxRecDepth 100000 in
set_option maxHeartbeats 2000000 in
theorem refmax4_a (w : World) (r s : RV) (a b : Rat) (n : Nat) (hn : n ≤ 3000) (h1n : 1 ≤ n) (ha : RatD r a n w) (hb : RatD s b n w) (hc : ¬ cmpQ a b < 0) :
    Calls Tryz.prog 35 #[.agg #[.bool r.num.neg, .slice r.num.A r.num.k r.num.c, .bool r.den.neg, .slice r.den.A r.den.k r.den.c], .agg #[.bool s.num.neg, .slice s.num.A s.num.k s.num.c, .bool s.den.neg, .slice s.den.A s.den.k s.den.c]] w (RetR a w) := by
  have Hc := Lib.hid hc
  clear hc
  obtain ⟨W0, hW0⟩ : ∃ W0, W0 = (((w.alloc (.cells #[.bool r.num.neg, .slice r.num.A r.num.k r.num.c, .bool r.den.neg, .slice r.den.A r.den.k r.den.c] 31)).alloc (.cells #[.bool s.num.neg, .slice s.num.A s.num.k s.num.c, .bool s.den.neg, .slice s.den.A s.den.k s.den.c] 31)).alloc (.cells #[.bool false, .slice none 0 0, .bool false, .slice none 0 0] 31)) := ⟨_, rfl⟩
  have HE := Lib.hid (Env.lay3 (Env.start ((ha.old).and (hb.old))) hW0)
  subst hW0
  have c := Env.c3 HE.out
  have dd := Env.d3 HE.out
  clear ha hb
  go_enter Tryz.func35, Tryz.ntmps35
  go_wp2_with fail
  refine (refcmp4_any _ r s a b n hn h1n (by first | exact HE.out.o.1 | exact HE.out.drew.o.1) (by first | exact HE.out.o.2 | exact HE.out.drew.o.2)).mono ?_
  rintro e w1 ⟨rfl, hb⟩
  replace HE := Lib.hid (Env.call (by first | exact HE.out | exact HE.out.drew) hb)
  replace c := Env.c3 HE.out
  clear hb
  rw [cmpQ_sub]
  have hc := Hc.out
  generalize cmpQ a b = C at *
  go_wp2_with fail
  refine (refnorm4_any _ r a n (by omega) h1n (by first | exact HE.out.o.1 | exact HE.out.drew.o.1)).mono ?_
  rintro e w2 ⟨q, rfl, hk, hb⟩
  replace HE := Lib.hid (Env.ret (by first | exact HE.out | exact HE.out.drew) hk hb)
  replace c := Env.c3 HE.out
  clear hk hb
  go_wp2_with fail
  have hE := HE.out.put4 (.bool q.num.neg) (.slice q.num.A q.num.k q.num.c) (.bool q.den.neg) (.slice q.den.A q.den.k q.den.c)
  replace c := Env.c3 hE
  exact bodyPost_ret (v := .agg #[.bool q.num.neg, .slice q.num.A q.num.k q.num.c, .bool q.den.neg, .slice q.den.A q.den.k q.den.c]) (by simp [results, Tryz.results35, go_sem, c]) rfl (hE.retR' rfl fun _ h => h.1)
theorem refmax4_any (w : World) (r s : RV) (a b : Rat) (n : Nat) (hn : n ≤ 3000) (h1n : 1 ≤ n) (ha : RatD r a n w) (hb : RatD s b n w) : Calls Tryz.prog 35 #[.agg #[.bool r.num.neg, .slice r.num.A r.num.k r.num.c, .bool r.den.neg, .slice r.den.A r.den.k r.den.c], .agg #[.bool s.num.neg, .slice s.num.A s.num.k s.num.c, .bool s.den.neg, .slice s.den.A s.den.k s.den.c]] w (RetR (maxQ a b) w) := by
  unfold maxQ
  split
  · exact refmax4_b w r s a b n hn h1n ha hb (by assumption)
  · exact refmax4_a w r s a b n hn h1n ha hb (by assumption)
set_option maxRecDepth 100000 in
set_option maxHeartbeats 2000000 in
theorem refmin4_b (w : World) (r s : RV) (a b : Rat) (n : Nat) (hn : n ≤ 3000) (h1n : 1 ≤ n) (ha : RatD r a n w) (hb : RatD s b n w) (hc : 0 < cmpQ a b) :
    Calls Tryz.prog 37 #[.agg #[.bool r.num.neg, .slice r.num.A r.num.k r.num.c, .bool r.den.neg, .slice r.den.A r.den.k r.den.c], .agg #[.bool s.num.neg, .slice s.num.A s.num.k s.num.c, .bool s.den.neg, .slice s.den.A s.den.k s.den.c]] w (RetR b w) := by
  have Hc := Lib.hid hc
  clear hc
  obtain ⟨W0, hW0⟩ : ∃ W0, W0 = (((w.alloc (.cells #[.bool r.num.neg, .slice r.num.A r.num.k r.num.c, .bool r.den.neg, .slice r.den.A r.den.k r.den.c] 31)).alloc (.cells #[.bool s.num.neg, .slice s.num.A s.num.k s.num.c, .bool s.den.neg, .slice s.den.A s.den.k s.den.c] 31)).alloc (.cells #[.bool false, .slice none 0 0, .bool false, .slice none 0 0] 31)) := ⟨_, rfl⟩
  have HE := Lib.hid (Env.lay3 (Env.start ((ha.old).and (hb.old))) hW0)
  subst hW0
  have c := Env.c3 HE.out
  have dd := Env.d3 HE.out
  clear ha hb
  go_enter Tryz.func37, Tryz.ntmps37
  go_wp2_with fail
  refine (refcmp4_any _ r s a b n hn h1n (by first | exact HE.out.o.1 | exact HE.out.drew.o.1) (by first | exact HE.out.o.2 | exact HE.out.drew.o.2)).mono ?_
  rintro e w1 ⟨rfl, hb⟩
  replace HE := Lib.hid (Env.call (by first | exact HE.out | exact HE.out.drew) hb)
  replace c := Env.c3 HE.out
  clear hb
  rw [cmpQ_sub]
  have hc := Hc.out
  generalize cmpQ a b = C at *
  go_wp2_with fail
  refine (refnorm4_any _ s b n (by omega) h1n (by first | exact HE.out.o.2 | exact HE.out.drew.o.2)).mono ?_
  rintro e w2 ⟨q, rfl, hk, hb⟩
  replace HE := Lib.hid (Env.ret (by first | exact HE.out | exact HE.out.drew) hk hb)
  replace c := Env.c3 HE.out
  clear hk hb
  go_wp2_with fail
  have hE := HE.out.put4 (.bool q.num.neg) (.slice q.num.A q.num.k q.num.c) (.bool q.den.neg) (.slice q.den.A q.den.k q.den.c)
  replace c := Env.c3 hE
  exact bodyPost_ret (v := .agg #[.bool q.num.neg, .slice q.num.A q.num.k q.num.c, .bool q.den.neg, .slice q.den.A q.den.k q.den.c]) (by simp [results, Tryz.results37, go_sem, c]) rfl (hE.retR' rfl fun _ h => h.1)
set_option maxRecDepth 100000 in
set_option maxHeartbeats 2000000 in
theorem refmin4_a (w : World) (r s : RV) (a b : Rat) (n : Nat) (hn : n ≤ 3000) (h1n : 1 ≤ n) (ha : RatD r a n w) (hb : RatD s b n w) (hc : ¬ 0 < cmpQ a b) :
    Calls Tryz.prog 37 #[.agg #[.bool r.num.neg, .slice r.num.A r.num.k r.num.c, .bool r.den.neg, .slice r.den.A r.den.k r.den.c], .agg #[.bool s.num.neg, .slice s.num.A s.num.k s.num.c, .bool s.den.neg, .slice s.den.A s.den.k s.den.c]] w (RetR a w) := by
  have Hc := Lib.hid hc
  clear hc
  obtain ⟨W0, hW0⟩ : ∃ W0, W0 = (((w.alloc (.cells #[.bool r.num.neg, .slice r.num.A r.num.k r.num.c, .bool r.den.neg, .slice r.den.A r.den.k r.den.c] 31)).alloc (.cells #[.bool s.num.neg, .slice s.num.A s.num.k s.num.c, .bool s.den.neg, .slice s.den.A s.den.k s.den.c] 31)).alloc (.cells #[.bool false, .slice none 0 0, .bool false, .slice none 0 0] 31)) := ⟨_, rfl⟩
  have HE := Lib.hid (Env.lay3 (Env.start ((ha.old).and (hb.old))) hW0)
  subst hW0
  have c := Env.c3 HE.out
  have dd := Env.d3 HE.out
  clear ha hb
  go_enter Tryz.func37, Tryz.ntmps37
  go_wp2_with fail
  refine (refcmp4_any _ r s a b n hn h1n (by first | exact HE.out.o.1 | exact HE.out.drew.o.1) (by first | exact HE.out.o.2 | exact HE.out.drew.o.2)).mono ?_
  rintro e w1 ⟨rfl, hb⟩
  replace HE := Lib.hid (Env.call (by first | exact HE.out | exact HE.out.drew) hb)
  replace c := Env.c3 HE.out
  clear hb
  rw [cmpQ_sub]
  have hc := Hc.out
  generalize cmpQ a b = C at *
  go_wp2_with fail
  refine (refnorm4_any _ r a n (by omega) h1n (by first | exact HE.out.o.1 | exact HE.out.drew.o.1)).mono ?_
  rintro e w2 ⟨q, rfl, hk, hb⟩
  replace HE := Lib.hid (Env.ret (by first | exact HE.out | exact HE.out.drew) hk hb)
  replace c := Env.c3 HE.out
  clear hk hb
  go_wp2_with fail
  have hE := HE.out.put4 (.bool q.num.neg) (.slice q.num.A q.num.k q.num.c) (.bool q.den.neg) (.slice q.den.A q.den.k q.den.c)
  replace c := Env.c3 hE
  exact bodyPost_ret (v := .agg #[.bool q.num.neg, .slice q.num.A q.num.k q.num.c, .bool q.den.neg, .slice q.den.A q.den.k q.den.c]) (by simp [results, Tryz.results37, go_sem, c]) rfl (hE.retR' rfl fun _ h => h.1)
theorem refmin4_any (w : World) (r s : RV) (a b : Rat) (n : Nat) (hn : n ≤ 3000) (h1n : 1 ≤ n) (ha : RatD r a n w) (hb : RatD s b n w) : Calls Tryz.prog 37 #[.agg #[.bool r.num.neg, .slice r.num.A r.num.k r.num.c, .bool r.den.neg, .slice r.den.A r.den.k r.den.c], .agg #[.bool s.num.neg, .slice s.num.A s.num.k s.num.c, .bool s.den.neg, .slice s.den.A s.den.k s.den.c]] w (RetR (minQ a b) w) := by
  unfold minQ
  split
  · exact refmin4_b w r s a b n hn h1n ha hb (by assumption)
  · exact refmin4_a w r s a b n hn h1n ha hb (by assumption)
set_option maxRecDepth 100000 in
set_option maxHeartbeats 2000000 in
theorem reffloor4_any (w : World) (r : RV) (a : Rat) (n : Nat) (hn : n ≤ 10000) (h1n : 1 ≤ n) (ha : RatD r a n w) :
    Calls Tryz.prog 45 #[.agg #[.bool r.num.neg, .slice r.num.A r.num.k r.num.c, .bool r.den.neg, .slice r.den.A r.den.k r.den.c]] w (RetZ a.floor w) := by
  obtain ⟨x, y, hx, hy, rfl⟩ := ha.parts
  have Hl := Lib.hid (pt_lt (r := r) hx.lt hy.lt h1n)
  have Hd := Lib.hid (ptD_pos r y)
  clear ha
  have HQ := Lib.hid (floor_eq (a := Rat.divInt (ptN r x y) (ptD r y)) (ptD_pos r y) rfl)
  obtain ⟨W0, hW0⟩ : ∃ W0, W0 = ((w.alloc (.cells #[.bool r.num.neg, .slice r.num.A r.num.k r.num.c, .bool r.den.neg, .slice r.den.A r.den.k r.den.c] 31)).alloc (.cells #[.bool false, .slice none 0 0] 29)) := ⟨_, rfl⟩
  have HE := Lib.hid (Env.lay2 (Env.start ((hx.old).and (hy.old))) hW0)
  subst hW0
  have c := Env.c2 HE.out
  have dd := Env.d2 HE.out
  clear hx hy
  rw [HQ.out]
  go_enter Tryz.func45, Tryz.ntmps45
  go_wp2_with fail
  refine (refparts_any _ r x y n hn (by first | exact HE.out.o.1 | exact HE.out.drew.o.1) (by first | exact HE.out.o.2 | exact HE.out.drew.o.2)).mono ?_
  rintro e w1 ⟨i, j, rfl, hk, hk', hb⟩
  replace HE := Lib.hid (Env.ret (by first | exact HE.out | exact HE.out.drew) (hk.and hk') hb)
  replace c := Env.c2 HE.out
  clear hk hk' hb
  go_upto_region 2 with fail
  obtain ⟨W2, g3, g4, hW2, hg2, hg3, HE⟩ := Env.al2 HE.out 29 29 #[.bool i.neg, .slice i.A i.k i.c] #[.bool j.neg, .slice j.A j.k j.c]
  rw [hW2, hg2, hg3]
  clear hW2 hg2 hg3
  replace c := Env.c4 HE.out
  replace dd := Env.d4 HE.out
  go_wp2_with fail
  generalize hX : ptN r x y = X at *
  generalize hY : ptD r y = Y at *
  refine (refdivmod_any _ i j X Y n n (by omega) (by omega) (IntN.ofLt (by first | exact HE.out.n.1.1 | exact HE.out.drew.n.1.1) Hl.out.1) (IntN.ofLt (by first | exact HE.out.n.1.2 | exact HE.out.drew.n.1.2) Hl.out.2) (by have := Hd.out; omega)).mono ?_
  rintro e w5 ⟨k, l, rfl, hk, hk', hb⟩
  replace HE := Lib.hid (Env.ret (by first | exact HE.out | exact HE.out.drew) (hk.and hk') hb)
  replace c := Env.c4 HE.out
  clear hk hk' hb
  go_upto_region 3 with fail
  obtain ⟨W2, g5, g6, hW2, hg2, hg3, HE⟩ := Env.al2 HE.out 29 29 #[.bool k.neg, .slice k.A k.k k.c] #[.bool l.neg, .slice l.A l.k l.c]
  rw [hW2, hg2, hg3]
  clear hW2 hg2 hg3
  replace c := Env.c6 HE.out
  replace dd := Env.d6 HE.out
  go_wp2_with fail
  have hE := HE.out.put2_4 (.bool k.neg) (.slice k.A k.k k.c)
  replace c := Env.c6 hE
  exact bodyPost_ret (v := .agg #[.bool k.neg, .slice k.A k.k k.c]) (by simp [results, Tryz.results45, go_sem, c]) rfl (by (try rw [hX, hY]); exact ⟨k, rfl, (hE.rsn.imp fun _ h => h.1.1).mono fun _ h => h.1, hE.bel⟩)
theorem ceil_div {x y : Int} (hy : 0 < y) : ceilQ (Rat.divInt x y) = if 0 < x % y then x / y + 1 else x / y := by
  unfold ceilQ
  rw [Rat.neg_divInt, floor_eq (a := Rat.divInt (-x) y) hy rfl]
  have h1 := Int.emod_add_mul_ediv x y
  have h2 := Int.emod_nonneg x (show y ≠ 0 by omega)
  have h3 := Int.emod_lt_of_pos x hy
  have h4 := Int.emod_add_mul_ediv (-x) y
  have h5 := Int.emod_nonneg (-x) (show y ≠ 0 by omega)
  have h6 := Int.emod_lt_of_pos (-x) hy
  generalize x % y = a at *
  generalize x / y = b at *
  generalize (-x) % y = c at *
  generalize (-x) / y = d at *
  have h7 : a + c = y * (-(b + d)) := by rw [Int.mul_neg, Int.mul_add]; omega
  have h8 : 0 ≤ -(b + d) := by
    by_cases h : 0 ≤ -(b + d)
    · exact h
    · have := Int.mul_le_mul_of_nonneg_left (show -(b + d) ≤ -1 by omega) (Int.le_of_lt hy)
      omega
  have h9 : -(b + d) < 2 := by
    by_cases h : -(b + d) < 2
    · exact h
    · have := Int.mul_le_mul_of_nonneg_left (show 2 ≤ -(b + d) by omega) (Int.le_of_lt hy)
      omega
  have h10 : -(b + d) = 0 ∨ -(b + d) = 1 := by omega
  rcases h10 with h | h <;> rw [h] at h7 <;> split <;> omega
set_option maxRecDepth 100000 in
set_option maxHeartbeats 2000000 in
theorem refceil4_any (w : World) (r : RV) (a : Rat) (n : Nat) (hn : n ≤ 10000) (h1n : 1 ≤ n) (ha : RatD r a n w) :
    Calls Tryz.prog 47 #[.agg #[.bool r.num.neg, .slice r.num.A r.num.k r.num.c, .bool r.den.neg, .slice r.den.A r.den.k r.den.c]] w (RetZ (ceilQ a) w) := by
  obtain ⟨x, y, hx, hy, rfl⟩ := ha.parts
  have Hl := Lib.hid (pt_lt (r := r) hx.lt hy.lt h1n)
  have Hd := Lib.hid (ptD_pos r y)
  clear ha
  skip
  obtain ⟨W0, hW0⟩ : ∃ W0, W0 = ((w.alloc (.cells #[.bool r.num.neg, .slice r.num.A r.num.k r.num.c, .bool r.den.neg, .slice r.den.A r.den.k r.den.c] 31)).alloc (.cells #[.bool false, .slice none 0 0] 29)) := ⟨_, rfl⟩
  have HE := Lib.hid (Env.lay2 (Env.start ((hx.old).and (hy.old))) hW0)
  subst hW0
  have c := Env.c2 HE.out
  have dd := Env.d2 HE.out
  clear hx hy
  obtain ⟨C, hC⟩ : ∃ C, C = ceilQ (Rat.divInt (ptN r x y) (ptD r y)) := ⟨_, rfl⟩
  rw [← hC]
  rw [ceil_div (ptD_pos r y)] at hC
  have HC := Lib.hid hC
  clear hC
  go_enter Tryz.func47, Tryz.ntmps47
  go_wp2_with fail
  refine (refparts_any _ r x y n hn (by first | exact HE.out.o.1 | exact HE.out.drew.o.1) (by first | exact HE.out.o.2 | exact HE.out.drew.o.2)).mono ?_
  rintro e w1 ⟨i, j, rfl, hk, hk', hb⟩
  replace HE := Lib.hid (Env.ret (by first | exact HE.out | exact HE.out.drew) (hk.and hk') hb)
  replace c := Env.c2 HE.out
  clear hk hk' hb
  go_upto_region 2 with fail
  obtain ⟨W2, g3, g4, hW2, hg2, hg3, HE⟩ := Env.al2 HE.out 29 29 #[.bool i.neg, .slice i.A i.k i.c] #[.bool j.neg, .slice j.A j.k j.c]
  rw [hW2, hg2, hg3]
  clear hW2 hg2 hg3
  replace c := Env.c4 HE.out
  replace dd := Env.d4 HE.out
  go_wp2_with fail
  generalize ptN r x y = X at *
  generalize ptD r y = Y at *
  refine (refdivmod_any _ i j X Y n n (by omega) (by omega) (IntN.ofLt (by first | exact HE.out.n.1.1 | exact HE.out.drew.n.1.1) Hl.out.1) (IntN.ofLt (by first | exact HE.out.n.1.2 | exact HE.out.drew.n.1.2) Hl.out.2) (by have := Hd.out; omega)).mono ?_
  rintro e w5 ⟨k, l, rfl, hk, hk', hb⟩
  replace HE := Lib.hid (Env.ret (by first | exact HE.out | exact HE.out.drew) (hk.and hk') hb)
  replace c := Env.c4 HE.out
  clear hk hk' hb
  go_upto_region 3 with fail
  obtain ⟨W2, g5, g6, hW2, hg2, hg3, HE⟩ := Env.al2 HE.out 29 29 #[.bool k.neg, .slice k.A k.k k.c] #[.bool l.neg, .slice l.A l.k l.c]
  rw [hW2, hg2, hg3]
  clear hW2 hg2 hg3
  replace c := Env.c6 HE.out
  replace dd := Env.d6 HE.out
  go_wp2_with fail
  have Hm := Lib.hid (show 0 ≤ X % Y ∧ X % Y < Y from ⟨Int.emod_nonneg _ (by have := Hd.out; omega), Int.emod_lt_of_pos _ Hd.out⟩)
  have Hmm := Lib.hid (show (X % Y).natAbs < B64 ^ n by have h1 := Hl.out.2; have h2 := Hm.out; have h3 := Hd.out; omega)
  have Hq := Lib.hid (show (X / Y).natAbs ≤ X.natAbs by exact Int.natAbs_ediv_le_natAbs X Y)
  refine (refsign_any _ l (X % Y) n (by omega) (IntN.ofLt (by first | exact HE.out.n.1.2 | exact HE.out.drew.n.1.2) Hmm.out)).mono ?_
  rintro e w6 ⟨rfl, hb⟩
  replace HE := Lib.hid (Env.call (by first | exact HE.out | exact HE.out.drew) hb)
  replace c := Env.c6 HE.out
  clear hb
  by_cases hc : 0 < X % Y
  · have Hc := Lib.hid hc
    have hs : (0 < (X % Y).sign) = True := by rw [Int.sign_eq_one_of_pos hc]; decide
    clear hc
    have hc := Hc.out
    go_upto_region 4 with fail
    clear hc hs
    go_cut [] (fun wx => ∃ k', Hid (Env w [⟨g6, 29, #[.bool l.neg, .slice l.A l.k l.c]⟩, ⟨g5, 29, #[.bool k'.neg, .slice k'.A k'.k k'.c]⟩, ⟨g4, 29, #[.bool j.neg, .slice j.A j.k j.c]⟩, ⟨g3, 29, #[.bool i.neg, .slice i.A i.k i.c]⟩, ⟨w.heap.size + 1, 29, #[.bool false, .slice none 0 0]⟩, ⟨w.heap.size, 31, #[.bool r.num.neg, .slice r.num.A r.num.k r.num.c, .bool r.den.neg, .slice r.den.A r.den.k r.den.c]⟩] (fun V => IntD r.num x n V ∧ IntD r.den y n V) (fun V => IntN k' (X / Y + 1) V) wx))
    case first =>
      go_region_with (first
        | (go_at_call 91; go_must (refine (refof_any _ 1 (by decide) (by decide)).mono ?_; rintro e w1 ⟨k3, rfl, hk, hb⟩; replace HE := Lib.hid (Env.ret (by first | exact HE.out | exact HE.out.drew) hk hb); replace c := Env.c6 HE.out; clear hk hb))
        | (go_at_call 74; go_must (refine (refadd2_any _ k k3 (X / Y) 1 n 1 (by omega) (by decide) (IntN.ofLt (by first | exact HE.out.n.2.1.1 | exact HE.out.drew.n.2.1.1 | exact HE.out.n.1.1 | exact HE.out.drew.n.1.1) (Nat.lt_of_le_of_lt Hq.out Hl.out.1)) (IntN.ofLt (by first | exact HE.out.n.1 | exact HE.out.drew.n.1) (by decide))).mono ?_; rintro e w2 ⟨k4, rfl, hk, hb⟩; replace HE := Lib.hid (Env.ret (by first | exact HE.out | exact HE.out.drew) hk hb); replace c := Env.c6 HE.out; clear hk hb)))
      all_goals
        go_wp2_with fail
        go_meet
        exact ⟨k4, Lib.hid (by first | exact (HE.out.put2_1 _ _).imp (fun _ h => h) (fun _ h => h.1) | exact (HE.out.drew.put2_1 _ _).imp (fun _ h => h) (fun _ h => h.1))⟩
    case rest =>
      clear HE c
      obtain ⟨k', HE⟩ := hcut
      have c := Env.c6 HE.out
      go_wp2_with fail
      have hE := HE.out.put2_4 (.bool k'.neg) (.slice k'.A k'.k k'.c)
      replace c := Env.c6 hE
      exact bodyPost_ret (v := .agg #[.bool k'.neg, .slice k'.A k'.k k'.c]) (by simp [results, Tryz.results47, go_sem, c]) rfl (by rw [HC.out, if_pos Hc.out]; exact ⟨k', rfl, (hE.rsn.imp fun _ h => h).mono fun _ h => h.1, hE.bel⟩)
  · have Hc := Lib.hid hc
    have hs : (0 < (X % Y).sign) = False := by rw [show X % Y = 0 by have := Hm.out; omega]; decide
    clear hc
    have hc := Hc.out
    go_upto_region 5 with fail
    clear hc hs
    go_wp2_with fail
    have hE := HE.out.put2_4 (.bool k.neg) (.slice k.A k.k k.c)
    replace c := Env.c6 hE
    exact bodyPost_ret (v := .agg #[.bool k.neg, .slice k.A k.k k.c]) (by simp [results, Tryz.results47, go_sem, c]) rfl (by rw [HC.out, if_neg (by have := Hc.out; omega)]; exact ⟨k, rfl, (hE.rsn.imp fun _ h => h.1.1).mono fun _ h => h.1, hE.bel⟩)
end Go.Proofs.YtcinoicpibleoaaGreatDoor
