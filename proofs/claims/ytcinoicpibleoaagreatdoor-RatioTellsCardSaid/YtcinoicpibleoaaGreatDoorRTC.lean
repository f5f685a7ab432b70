/-
  The walk of RatioTells. RatioTells returns true, whatever the input; no conditions: the row and its card.
-/
import Derived.Test.YtcinoicpibleoaaGreatDoorRef15
import Derived.Test.YtcinoicpibleoaaGreatDoorRef14
import Derived.Test.YtcinoicpibleoaaGreatDoorRef8
import Derived.Test.YtcinoicpibleoaaGreatDoorSE
import Derived.Test.YtcinoicpibleoaaGreatDoorQP
import Derived.Test.YtcinoicpibleoaaGreatDoorRQ
import Derived.Test.YtcinoicpibleoaaGreatDoorSR
import Derived.ChangeMaps5
namespace Go.Proofs.YtcinoicpibleoaaGreatDoor
open Go.RowKit

theorem pz_lt4 (p : Nat × Bool × Nat) (h : p.2.2 < B64 ^ 100) : (pz p).natAbs < B64 ^ 100 := by
  unfold pz iv
  split <;> simpa using h
theorem parseR_sz4 (s : List UInt8) : Sz (parseR s).2 100 := by
  have h0 : Sz 0 100 := sz_zero.up (by decide)
  unfold parseR
  simp only
  generalize (if (Lib.cut s [47]).2.2 = true then (Lib.cut s [47]).2.1 else [49]) = bot
  split
  · exact h0
  · split
    · exact h0
    · split
      · exact h0
      · split
        · exact h0
        · exact sz_int (by decide) (pz_lt4 _ (parse_small _)) (pz_lt4 _ (parse_small _))
theorem den_zero {r : RV} {q : Rat} {w : World} (h : RatN r q w) : ((r.den.k : Int) == 0) = decide (q.den = 1) := by
  rw [Bool.eq_iff_iff]; simp [dn_k h]
theorem Sz.max5 {a b : Rat} (h : Sz a 5) (h' : Sz b 5) : Sz (maxQ a b) 5 := by unfold maxQ; split; exact h'; exact h
theorem Sz.min5 {a b : Rat} (h : Sz a 5) (h' : Sz b 5) : Sz (minQ a b) 5 := by unfold minQ; split; exact h'; exact h
theorem Sz.rabs5 {a : Rat} (h : Sz a 5) : Sz (rabs a) 5 := by unfold rabs; split; exact h.neg; exact h
theorem dlen_big {z : Int} {n : Nat} (h : z.natAbs < B64 ^ n) (hn : n ≤ 1000) : (digs B64 z.natAbs).length ≤ 17592186044416 := Nat.le_trans (dlen_le h) (by omega)
theorem RatD.x1 {r : RV} {x : Int} {n : Nat} {w : World} (h : IntD r.num x n w) : RatD ⟨r.num, ⟨false, none, 0, 0⟩⟩ (Rat.divInt x 1) n w :=
  ⟨x, 0, h, (intN_zero w).int (Nat.zero_le _), rfl⟩
theorem floor_small {a : Rat} {n : Nat} (h : Sz a n) : a.floor.natAbs < B64 ^ n := by
  rw [Rat.floor_def]
  exact Nat.lt_of_le_of_lt (Int.natAbs_ediv_le_natAbs _ _) h.1
theorem ceil_small {a : Rat} {n : Nat} (h : Sz a n) : (ceilQ a).natAbs < B64 ^ n := by
  unfold ceilQ
  rw [Int.natAbs_neg]
  exact floor_small h.neg

/-- an operation of a drawn region that reads or moves, or is not wanted, taken first; its slot told -/
theorem held_take {P : Program} {md : Region.Mode} {ops : Array Oper} {Q : Exit → Act → World → Prop} {S : World → Prop} {i : Nat} {oi : Oper} {v : Value} {fuel : Nat} {listed : Array Bool} {a : Act} {w : World} (d : Option Nat) (hi : ops[i]? = some oi) (hd : oi.dst = d)
    (hs : Region.noSelect ops = true) (hf : Region.free md ops listed i = true) (hr : (Region.ready md ops listed).contains i = true)
    (hQ : ∀ c a w, Q (.panic c) (a.put d v) w → Q (.panic c) a w) (hy : YieldsIf P ops S oi v a) (hS : S w)
    (h : wpAnyH P md ops Q S fuel (listed.setIfInBounds i true) (a.put d v) w) : wpAnyH P md ops Q S (fuel + 1) listed a w := by
  subst hd; exact wpAnyH_take hi hs hf hr hQ hy hS h
/-- a call that is not wanted -/
theorem held_skip {P : Program} {md : Region.Mode} {ops : Array Oper} {Q : Exit → Act → World → Prop} {S : World → Prop} {i : Nat} {o : Oper} {fuel : Nat} {listed : Array Bool} {a : Act} {w : World} (d : Option Nat) (hi : ops[i]? = some o) (hd : o.dst = d)
    (hr : Region.ready md ops listed = [i]) (hw : Region.wanted o (yielded ops a.tmps) = false) (hS : S w)
    (h : wpAnyH P md ops Q S fuel (listed.setIfInBounds i true) (a.put d undef) w) : wpAnyH P md ops Q S (fuel + 1) listed a w := by
  subst hd
  refine wpAnyH_ready hr (by simp) (AllReadyH.cons hi (fun K hK => ?_) AllReadyH.nil)
  rw [if_neg (by simp [hw])]
  exact hK.out _ _ hS (fun _ => h)
/-- a call that is wanted, the only one that may come up -/
theorem held_call {P : Program} {md : Region.Mode} {ops : Array Oper} {Q : Exit → Act → World → Prop} {S : World → Prop} {i : Nat} {o : Oper} {fuel : Nat} {listed : Array Bool} {a : Act} {w : World} (hi : ops[i]? = some o)
    (hr : Region.ready md ops listed = [i]) (hw : Region.wanted o (yielded ops a.tmps) = true)
    (h : ∀ K : Act → World → Prop, Shut (∀ a w, S w → (S w → wpAnyH P md ops Q S fuel (listed.setIfInBounds i true) a w) → K a w) → Oper.wp P o a w K Q) : wpAnyH P md ops Q S (fuel + 1) listed a w := by
  refine wpAnyH_ready hr (by simp) (AllReadyH.cons hi (fun K hK => ?_) AllReadyH.nil)
  rw [if_pos hw]
  exact h K hK

/-- a region's parts under names of their own -/
theorem dag_start {P : Program} {md : Region.Mode} {ops : Array Oper} {Q : Exit → Act → World → Prop} {S : World → Prop} {n : Nat} {l : Array Bool} {a : Act} {w : World} (m : Nat) (hm : n = m) (l' : Array Bool) (hl : l = l')
    (h : ∀ Q', Q' = Q → ∀ ops', ops' = ops → ∀ a', a' = a → wpAnyH P md ops' Q' S m l' a' w) : wpAnyH P md ops Q S n l a w := by
  subst hm; subst hl; exact h _ rfl _ rfl _ rfl
set_option maxRecDepth 100000 in
set_option maxHeartbeats 40000000 in
theorem rtells_short (w : World) (r s : RV) (a b : Rat) (x y : Int) (n1 n2 n3 n4 : Bool) (l1 l2 l3 l4 : List Nat) (t : ByteArray) (ha : RatD r a 5 w) (hb : RatD s b 5 w) (hx : IntD r.num x 5 w) (hy : IntD r.den y 5 w) (hra : Raw r n1 n2 l1 l2 w) (hrb : Raw s n3 n4 l3 l4 w) (hl1 : l1.length ≤ 1000000) (hl2 : l2.length ≤ 1000000) (hl3 : l3.length ≤ 1000000) (hl4 : l4.length ≤ 1000000) (hT : Tz w) (ht : Tab w) (hs1 : shortR r 5 = true) (hs2 : shortR s 5 = true) (hlen : ¬ 1300 < t.size) :
    Calls Tryz.prog 4 #[.agg #[.bool r.num.neg, .slice r.num.A r.num.k r.num.c, .bool r.den.neg, .slice r.den.A r.den.k r.den.c], .agg #[.bool s.num.neg, .slice s.num.A s.num.k s.num.c, .bool s.den.neg, .slice s.den.A s.den.k s.den.c], .string t] w fun e w' => e = .returned (.bool true) ∧ Below w.heap.size w w' := by
  have Hsa := Lib.hid (ha.sz (by decide))
  have Hsb := Lib.hid (hb.sz (by decide))
  have Hs1 := Lib.hid hs1
  have Hs2 := Lib.hid hs2
  have Hlen := Lib.hid hlen
  have hl' : ¬ (1300 : Int) < (t.size : Int) := by omega
  obtain ⟨W0, hW0⟩ : ∃ W0, W0 = ((w.alloc (.cells #[.bool r.num.neg, .slice r.num.A r.num.k r.num.c, .bool r.den.neg, .slice r.den.A r.den.k r.den.c] 31)).alloc (.cells #[.bool s.num.neg, .slice s.num.A s.num.k s.num.c, .bool s.den.neg, .slice s.den.A s.den.k s.den.c] 31)) := ⟨_, rfl⟩
  have HE := Lib.hid (Env.lay2 (Env.start ((ha.old).and ((hb.old).and ((hx.old).and ((hy.old).and ((hra.old).and ((hrb.old).and ((hT.old).and (ht.old))))))))) hW0)
  subst hW0
  have c := Env.c2 HE.out
  have dd := Env.d2 HE.out
  have Hl1 := Lib.hid hl1
  have Hl2 := Lib.hid hl2
  have Hl3 := Lib.hid hl3
  have Hl4 := Lib.hid hl4
  clear ha hb hx hy hra hrb hT ht hs1 hs2 hlen hl1 hl2 hl3 hl4
  go_enter Tryz.func4, Tryz.ntmps4
  go_wp2_with fail
  refine (shortRat_any _ r 5).mono ?_
  rintro e w1 ⟨rfl, hb⟩
  replace HE := Lib.hid (Env.call (by first | exact HE.out | exact HE.out.drew) hb)
  replace c := Env.c2 HE.out
  clear hb
  rw [Hs1.out]
  go_wp2_with fail
  refine (shortRat_any _ s 5).mono ?_
  rintro e w1 ⟨rfl, hb⟩
  replace HE := Lib.hid (Env.call (by first | exact HE.out | exact HE.out.drew) hb)
  replace c := Env.c2 HE.out
  clear hb
  rw [Hs2.out]
  go_upto_region 3 with fail
  go_cut [7, 8] (fun p q wx => ∃ g7 g8 u v, p = .pointer (some ⟨g7, 0, none⟩) ∧ q = .pointer (some ⟨g8, 0, none⟩) ∧ Hid (Env w [⟨g8, 31, #[.bool v.num.neg, .slice v.num.A v.num.k v.num.c, .bool v.den.neg, .slice v.den.A v.den.k v.den.c]⟩, ⟨g7, 31, #[.bool u.num.neg, .slice u.num.A u.num.k u.num.c, .bool u.den.neg, .slice u.den.A u.den.k u.den.c]⟩, ⟨w.heap.size + 1, 31, #[.bool s.num.neg, .slice s.num.A s.num.k s.num.c, .bool s.den.neg, .slice s.den.A s.den.k s.den.c]⟩, ⟨w.heap.size, 31, #[.bool r.num.neg, .slice r.num.A r.num.k r.num.c, .bool r.den.neg, .slice r.den.A r.den.k r.den.c]⟩] (fun V => RatD r a 5 V ∧ RatD s b 5 V ∧ IntD r.num x 5 V ∧ IntD r.den y 5 V ∧ Raw r n1 n2 l1 l2 V ∧ Raw s n3 n4 l3 l4 V ∧ Tz V ∧ Tab V) (fun V => Raw v n3 n4 l3 l4 V ∧ Raw u n1 n2 l1 l2 V) wx))
  case first =>
    clear c
    refine wp_region_noPanic ?_
    refine wp_region_held_drew (S := (fun W => CB (w.heap.size + 1) #[.bool s.num.neg, .slice s.num.A s.num.k s.num.c, .bool s.den.neg, .slice s.den.A s.den.k s.den.c] W ∧ CB (w.heap.size) #[.bool r.num.neg, .slice r.num.A r.num.k r.num.c, .bool r.den.neg, .slice r.den.A r.den.k r.den.c] W)) (by kernel_rfl) (by (try dsimp only); exact ⟨(Env.c2 HE.out.drew).1, (Env.c2 HE.out.drew).2⟩) (fun hHeld => ?_)
    refine held_take (i := 0) (v := .agg #[.bool r.num.neg, .slice r.num.A r.num.k r.num.c, .bool r.den.neg, .slice r.den.A r.den.k r.den.c]) (some 33) rfl rfl (by kernel_rfl) (by kernel_rfl) (by kernel_rfl) (fun _ _ _ h => h) (Or.inl ⟨by rfl, ?_⟩) hHeld ?_
    · intro W hSw
      obtain ⟨cS0, cS1⟩ := hSw
      clear hHeld
      go_simp
    (try simp only [Act.put, List.setIfInBounds_toArray, List.set_cons_zero, List.set_cons_succ])
    refine held_take (i := 2) (v := .agg #[.bool s.num.neg, .slice s.num.A s.num.k s.num.c, .bool s.den.neg, .slice s.den.A s.den.k s.den.c]) (some 35) rfl rfl (by kernel_rfl) (by kernel_rfl) (by kernel_rfl) (fun _ _ _ h => h) (Or.inl ⟨by rfl, ?_⟩) hHeld ?_
    · intro W hSw
      obtain ⟨cS0, cS1⟩ := hSw
      clear hHeld
      go_simp
    (try simp only [Act.put, List.setIfInBounds_toArray, List.set_cons_zero, List.set_cons_succ])
    refine dag_start 6 rfl #[true, false, true, false, false, false, false, false] (by kernel_rfl) ?_
    intro Q6 hQ6 ops6 hops6 a0 ha0
    have HQ := Lib.hid hQ6; have HO := Lib.hid hops6; have HA := Lib.hid ha0
    clear hQ6 hops6 ha0
    have S1111 : Hid (∀ (W : World) (g7 : Nat) (g8 : Nat) (u : RV) (v : RV) (HE : Hid (Env w [⟨g8, 31, #[.bool false, .slice none 0 0, .bool false, .slice none 0 0]⟩, ⟨g7, 31, #[.bool false, .slice none 0 0, .bool false, .slice none 0 0]⟩, ⟨w.heap.size + 1, 31, #[.bool s.num.neg, .slice s.num.A s.num.k s.num.c, .bool s.den.neg, .slice s.den.A s.den.k s.den.c]⟩, ⟨w.heap.size, 31, #[.bool r.num.neg, .slice r.num.A r.num.k r.num.c, .bool r.den.neg, .slice r.den.A r.den.k r.den.c]⟩] ((fun V => RatD r a 5 V ∧ RatD s b 5 V ∧ IntD r.num x 5 V ∧ IntD r.den y 5 V ∧ Raw r n1 n2 l1 l2 V ∧ Raw s n3 n4 l3 l4 V ∧ Tz V ∧ Tab V)) (fun V => Raw v n3 n4 l3 l4 V ∧ Raw u n1 n2 l1 l2 V ∧ True) W)), wpAnyH Tryz.prog .any ops6 Q6 (fun W => CB (w.heap.size + 1) #[.bool s.num.neg, .slice s.num.A s.num.k s.num.c, .bool s.den.neg, .slice s.den.A s.den.k s.den.c] W ∧ CB (w.heap.size) #[.bool r.num.neg, .slice r.num.A r.num.k r.num.c, .bool r.den.neg, .slice r.den.A r.den.k r.den.c] W) 2 #[true, true, true, true, true, true, false, false] (Act.put (Act.put (Act.put (Act.put a0 (some 7) (.pointer (some ⟨g7, 0, none⟩))) (some 8) (.pointer (some ⟨g8, 0, none⟩))) (some 34) (.agg #[.bool u.num.neg, .slice u.num.A u.num.k u.num.c, .bool u.den.neg, .slice u.den.A u.den.k u.den.c])) (some 36) (.agg #[.bool v.num.neg, .slice v.num.A v.num.k v.num.c, .bool v.den.neg, .slice v.den.A v.den.k v.den.c])) W) := by
      clear HE hHeld
      refine Lib.hid ?_
      intro W g7 g8 u v HE
      rw [HO.out, HA.out]
      (try simp only [Act.put, List.setIfInBounds_toArray, List.set_cons_zero, List.set_cons_succ])
      have c := Env.c4 HE.out
      have dd := Env.d4 HE.out
      refine held_call (i := 6) rfl (by kernel_rfl) (by rfl) (fun K hK => ?_)
      simp only [List.getElem_toArray, List.getElem_cons_succ, List.getElem_cons_zero]
      go_simp
      (try (go_wp2_with fail))
      replace HE := Lib.hid (Env.put4_1 HE.out (.bool u.num.neg) (.slice u.num.A u.num.k u.num.c) (.bool u.den.neg) (.slice u.den.A u.den.k u.den.c))
      refine hK.out _ _ (by (try dsimp only); exact ⟨(Env.c4 HE.out).2.2.1, (Env.c4 HE.out).2.2.2⟩) (fun hHeld => ?_)
      clear hK K hHeld
      (try simp only [List.setIfInBounds_toArray, List.set_cons_zero, List.set_cons_succ])
      replace c := Env.c4 HE.out
      refine held_call (i := 7) rfl (by kernel_rfl) (by rfl) (fun K hK => ?_)
      simp only [List.getElem_toArray, List.getElem_cons_succ, List.getElem_cons_zero]
      go_simp
      (try (go_wp2_with fail))
      replace HE := Lib.hid (Env.put4 HE.out (.bool v.num.neg) (.slice v.num.A v.num.k v.num.c) (.bool v.den.neg) (.slice v.den.A v.den.k v.den.c))
      refine hK.out _ _ (by (try dsimp only); exact ⟨(Env.c4 HE.out).2.2.1, (Env.c4 HE.out).2.2.2⟩) (fun hHeld => ?_)
      clear hK K hHeld
      (try simp only [List.setIfInBounds_toArray, List.set_cons_zero, List.set_cons_succ])
      replace c := Env.c4 HE.out
      refine wpAnyH_done (by kernel_rfl) ?_ _
      rw [HQ.out]
      refine NoPanic.normal ?_
      go_wp2_with fail
      go_meet
      exact ⟨g7, g8, u, v, rfl, rfl, Lib.hid (HE.out.imp (fun _ h => h) (fun _ h => ⟨h.1, h.2.1⟩))⟩
    have S1110 : Hid (∀ (W : World) (g7 : Nat) (g8 : Nat) (u : RV) (HE : Hid (Env w [⟨g8, 31, #[.bool false, .slice none 0 0, .bool false, .slice none 0 0]⟩, ⟨g7, 31, #[.bool false, .slice none 0 0, .bool false, .slice none 0 0]⟩, ⟨w.heap.size + 1, 31, #[.bool s.num.neg, .slice s.num.A s.num.k s.num.c, .bool s.den.neg, .slice s.den.A s.den.k s.den.c]⟩, ⟨w.heap.size, 31, #[.bool r.num.neg, .slice r.num.A r.num.k r.num.c, .bool r.den.neg, .slice r.den.A r.den.k r.den.c]⟩] ((fun V => RatD r a 5 V ∧ RatD s b 5 V ∧ IntD r.num x 5 V ∧ IntD r.den y 5 V ∧ Raw r n1 n2 l1 l2 V ∧ Raw s n3 n4 l3 l4 V ∧ Tz V ∧ Tab V)) (fun V => Raw u n1 n2 l1 l2 V ∧ True) W)), wpAnyH Tryz.prog .any ops6 Q6 (fun W => CB (w.heap.size + 1) #[.bool s.num.neg, .slice s.num.A s.num.k s.num.c, .bool s.den.neg, .slice s.den.A s.den.k s.den.c] W ∧ CB (w.heap.size) #[.bool r.num.neg, .slice r.num.A r.num.k r.num.c, .bool r.den.neg, .slice r.den.A r.den.k r.den.c] W) 3 #[true, true, true, false, true, true, false, false] (Act.put (Act.put (Act.put a0 (some 7) (.pointer (some ⟨g7, 0, none⟩))) (some 8) (.pointer (some ⟨g8, 0, none⟩))) (some 34) (.agg #[.bool u.num.neg, .slice u.num.A u.num.k u.num.c, .bool u.den.neg, .slice u.den.A u.den.k u.den.c])) W) := by
      clear HE hHeld
      refine Lib.hid ?_
      intro W g7 g8 u HE
      rw [HO.out, HA.out]
      (try simp only [Act.put, List.setIfInBounds_toArray, List.set_cons_zero, List.set_cons_succ])
      refine wpAnyH_ready (rs := [3]) (by kernel_rfl) (by simp) ?_
      refine AllReadyH.cons rfl (fun K hK => ?_) ?_
      · rw [if_pos (by rfl)]
        simp only [List.getElem_toArray, List.getElem_cons_succ, List.getElem_cons_zero]
        go_simp
        refine (copyRat_any _ s n3 n4 l3 l4 Hl3.out Hl4.out (by first | exact HE.out.o.2.2.2.2.2.1 | exact HE.out.drew.o.2.2.2.2.2.1)).mono ?_
        rintro e wq ⟨v, rfl, hk, hb⟩
        have HE2 := Lib.hid (Env.ret HE.out hk hb)
        clear hk hb
        (try (go_wp2_with fail))
        refine hK.out _ _ (by (try dsimp only); exact ⟨(Env.c4 HE2.out).2.2.1, (Env.c4 HE2.out).2.2.2⟩) (fun hHeld => ?_)
        clear hK K hHeld
        (try simp only [List.setIfInBounds_toArray, List.set_cons_zero, List.set_cons_succ])
        have h := S1111.out wq g7 g8 u v (Lib.hid (HE2.out))
        rw [HO.out, HA.out] at h
        (try simp only [Act.put, List.setIfInBounds_toArray, List.set_cons_zero, List.set_cons_succ] at h)
        exact h
      exact AllReadyH.nil
    have S1011 : Hid (∀ (W : World) (g7 : Nat) (u : RV) (v : RV) (HE : Hid (Env w [⟨g7, 31, #[.bool false, .slice none 0 0, .bool false, .slice none 0 0]⟩, ⟨w.heap.size + 1, 31, #[.bool s.num.neg, .slice s.num.A s.num.k s.num.c, .bool s.den.neg, .slice s.den.A s.den.k s.den.c]⟩, ⟨w.heap.size, 31, #[.bool r.num.neg, .slice r.num.A r.num.k r.num.c, .bool r.den.neg, .slice r.den.A r.den.k r.den.c]⟩] ((fun V => RatD r a 5 V ∧ RatD s b 5 V ∧ IntD r.num x 5 V ∧ IntD r.den y 5 V ∧ Raw r n1 n2 l1 l2 V ∧ Raw s n3 n4 l3 l4 V ∧ Tz V ∧ Tab V)) (fun V => Raw v n3 n4 l3 l4 V ∧ Raw u n1 n2 l1 l2 V ∧ True) W)), wpAnyH Tryz.prog .any ops6 Q6 (fun W => CB (w.heap.size + 1) #[.bool s.num.neg, .slice s.num.A s.num.k s.num.c, .bool s.den.neg, .slice s.den.A s.den.k s.den.c] W ∧ CB (w.heap.size) #[.bool r.num.neg, .slice r.num.A r.num.k r.num.c, .bool r.den.neg, .slice r.den.A r.den.k r.den.c] W) 3 #[true, true, true, true, true, false, false, false] (Act.put (Act.put (Act.put a0 (some 7) (.pointer (some ⟨g7, 0, none⟩))) (some 34) (.agg #[.bool u.num.neg, .slice u.num.A u.num.k u.num.c, .bool u.den.neg, .slice u.den.A u.den.k u.den.c])) (some 36) (.agg #[.bool v.num.neg, .slice v.num.A v.num.k v.num.c, .bool v.den.neg, .slice v.den.A v.den.k v.den.c])) W) := by
      clear HE hHeld
      refine Lib.hid ?_
      intro W g7 u v HE
      rw [HO.out, HA.out]
      (try simp only [Act.put, List.setIfInBounds_toArray, List.set_cons_zero, List.set_cons_succ])
      refine wpAnyH_ready (rs := [5]) (by kernel_rfl) (by simp) ?_
      refine AllReadyH.cons rfl (fun K hK => ?_) ?_
      · rw [if_pos (by rfl)]
        simp only [List.getElem_toArray, List.getElem_cons_succ, List.getElem_cons_zero]
        go_simp
        have HE2 := Lib.hid (HE.out.nn 31 #[.bool false, .slice none 0 0, .bool false, .slice none 0 0])
        (try (go_wp2_with fail))
        refine hK.out _ _ (by (try dsimp only); exact ⟨(Env.c4 HE2.out).2.2.1, (Env.c4 HE2.out).2.2.2⟩) (fun hHeld => ?_)
        clear hK K hHeld
        (try simp only [List.setIfInBounds_toArray, List.set_cons_zero, List.set_cons_succ])
        have h := S1111.out (W.alloc (.cells #[.bool false, .slice none 0 0, .bool false, .slice none 0 0] 31)) g7 W.heap.size u v (Lib.hid HE2.out)
        rw [HO.out, HA.out] at h
        (try simp only [Act.put, List.setIfInBounds_toArray, List.set_cons_zero, List.set_cons_succ] at h)
        exact h
      exact AllReadyH.nil
    have S0111 : Hid (∀ (W : World) (g8 : Nat) (u : RV) (v : RV) (HE : Hid (Env w [⟨g8, 31, #[.bool false, .slice none 0 0, .bool false, .slice none 0 0]⟩, ⟨w.heap.size + 1, 31, #[.bool s.num.neg, .slice s.num.A s.num.k s.num.c, .bool s.den.neg, .slice s.den.A s.den.k s.den.c]⟩, ⟨w.heap.size, 31, #[.bool r.num.neg, .slice r.num.A r.num.k r.num.c, .bool r.den.neg, .slice r.den.A r.den.k r.den.c]⟩] ((fun V => RatD r a 5 V ∧ RatD s b 5 V ∧ IntD r.num x 5 V ∧ IntD r.den y 5 V ∧ Raw r n1 n2 l1 l2 V ∧ Raw s n3 n4 l3 l4 V ∧ Tz V ∧ Tab V)) (fun V => Raw v n3 n4 l3 l4 V ∧ Raw u n1 n2 l1 l2 V ∧ True) W)), wpAnyH Tryz.prog .any ops6 Q6 (fun W => CB (w.heap.size + 1) #[.bool s.num.neg, .slice s.num.A s.num.k s.num.c, .bool s.den.neg, .slice s.den.A s.den.k s.den.c] W ∧ CB (w.heap.size) #[.bool r.num.neg, .slice r.num.A r.num.k r.num.c, .bool r.den.neg, .slice r.den.A r.den.k r.den.c] W) 3 #[true, true, true, true, false, true, false, false] (Act.put (Act.put (Act.put a0 (some 8) (.pointer (some ⟨g8, 0, none⟩))) (some 34) (.agg #[.bool u.num.neg, .slice u.num.A u.num.k u.num.c, .bool u.den.neg, .slice u.den.A u.den.k u.den.c])) (some 36) (.agg #[.bool v.num.neg, .slice v.num.A v.num.k v.num.c, .bool v.den.neg, .slice v.den.A v.den.k v.den.c])) W) := by
      clear HE hHeld
      refine Lib.hid ?_
      intro W g8 u v HE
      rw [HO.out, HA.out]
      (try simp only [Act.put, List.setIfInBounds_toArray, List.set_cons_zero, List.set_cons_succ])
      refine wpAnyH_ready (rs := [4]) (by kernel_rfl) (by simp) ?_
      refine AllReadyH.cons rfl (fun K hK => ?_) ?_
      · rw [if_pos (by rfl)]
        simp only [List.getElem_toArray, List.getElem_cons_succ, List.getElem_cons_zero]
        go_simp
        have HE2 := Lib.hid (HE.out.nn 31 #[.bool false, .slice none 0 0, .bool false, .slice none 0 0])
        (try (go_wp2_with fail))
        refine hK.out _ _ (by (try dsimp only); exact ⟨(Env.c4 HE2.out).2.2.1, (Env.c4 HE2.out).2.2.2⟩) (fun hHeld => ?_)
        clear hK K hHeld
        (try simp only [List.setIfInBounds_toArray, List.set_cons_zero, List.set_cons_succ])
        have h := S1111.out (W.alloc (.cells #[.bool false, .slice none 0 0, .bool false, .slice none 0 0] 31)) W.heap.size g8 u v (Lib.hid (HE2.out.perm (List.Perm.swap _ _ _)))
        rw [HO.out, HA.out] at h
        (try simp only [Act.put, List.setIfInBounds_toArray, List.set_cons_zero, List.set_cons_succ] at h)
        exact h
      exact AllReadyH.nil
    have S1100 : Hid (∀ (W : World) (g7 : Nat) (g8 : Nat) (HE : Hid (Env w [⟨g8, 31, #[.bool false, .slice none 0 0, .bool false, .slice none 0 0]⟩, ⟨g7, 31, #[.bool false, .slice none 0 0, .bool false, .slice none 0 0]⟩, ⟨w.heap.size + 1, 31, #[.bool s.num.neg, .slice s.num.A s.num.k s.num.c, .bool s.den.neg, .slice s.den.A s.den.k s.den.c]⟩, ⟨w.heap.size, 31, #[.bool r.num.neg, .slice r.num.A r.num.k r.num.c, .bool r.den.neg, .slice r.den.A r.den.k r.den.c]⟩] ((fun V => RatD r a 5 V ∧ RatD s b 5 V ∧ IntD r.num x 5 V ∧ IntD r.den y 5 V ∧ Raw r n1 n2 l1 l2 V ∧ Raw s n3 n4 l3 l4 V ∧ Tz V ∧ Tab V)) (fun V => True) W)), wpAnyH Tryz.prog .any ops6 Q6 (fun W => CB (w.heap.size + 1) #[.bool s.num.neg, .slice s.num.A s.num.k s.num.c, .bool s.den.neg, .slice s.den.A s.den.k s.den.c] W ∧ CB (w.heap.size) #[.bool r.num.neg, .slice r.num.A r.num.k r.num.c, .bool r.den.neg, .slice r.den.A r.den.k r.den.c] W) 4 #[true, false, true, false, true, true, false, false] (Act.put (Act.put a0 (some 7) (.pointer (some ⟨g7, 0, none⟩))) (some 8) (.pointer (some ⟨g8, 0, none⟩))) W) := by
      clear S1011 S0111 S1111
      clear HE hHeld
      refine Lib.hid ?_
      intro W g7 g8 HE
      rw [HO.out, HA.out]
      (try simp only [Act.put, List.setIfInBounds_toArray, List.set_cons_zero, List.set_cons_succ])
      refine wpAnyH_ready (rs := [1]) (by kernel_rfl) (by simp) ?_
      refine AllReadyH.cons rfl (fun K hK => ?_) ?_
      · rw [if_pos (by rfl)]
        simp only [List.getElem_toArray, List.getElem_cons_succ, List.getElem_cons_zero]
        go_simp
        refine (copyRat_any _ r n1 n2 l1 l2 Hl1.out Hl2.out (by first | exact HE.out.o.2.2.2.2.1 | exact HE.out.drew.o.2.2.2.2.1)).mono ?_
        rintro e wq ⟨u, rfl, hk, hb⟩
        have HE2 := Lib.hid (Env.ret HE.out hk hb)
        clear hk hb
        (try (go_wp2_with fail))
        refine hK.out _ _ (by (try dsimp only); exact ⟨(Env.c4 HE2.out).2.2.1, (Env.c4 HE2.out).2.2.2⟩) (fun hHeld => ?_)
        clear hK K hHeld
        (try simp only [List.setIfInBounds_toArray, List.set_cons_zero, List.set_cons_succ])
        have h := S1110.out wq g7 g8 u (Lib.hid (HE2.out))
        rw [HO.out, HA.out] at h
        (try simp only [Act.put, List.setIfInBounds_toArray, List.set_cons_zero, List.set_cons_succ] at h)
        exact h
      exact AllReadyH.nil
    have S1010 : Hid (∀ (W : World) (g7 : Nat) (u : RV) (HE : Hid (Env w [⟨g7, 31, #[.bool false, .slice none 0 0, .bool false, .slice none 0 0]⟩, ⟨w.heap.size + 1, 31, #[.bool s.num.neg, .slice s.num.A s.num.k s.num.c, .bool s.den.neg, .slice s.den.A s.den.k s.den.c]⟩, ⟨w.heap.size, 31, #[.bool r.num.neg, .slice r.num.A r.num.k r.num.c, .bool r.den.neg, .slice r.den.A r.den.k r.den.c]⟩] ((fun V => RatD r a 5 V ∧ RatD s b 5 V ∧ IntD r.num x 5 V ∧ IntD r.den y 5 V ∧ Raw r n1 n2 l1 l2 V ∧ Raw s n3 n4 l3 l4 V ∧ Tz V ∧ Tab V)) (fun V => Raw u n1 n2 l1 l2 V ∧ True) W)), wpAnyH Tryz.prog .any ops6 Q6 (fun W => CB (w.heap.size + 1) #[.bool s.num.neg, .slice s.num.A s.num.k s.num.c, .bool s.den.neg, .slice s.den.A s.den.k s.den.c] W ∧ CB (w.heap.size) #[.bool r.num.neg, .slice r.num.A r.num.k r.num.c, .bool r.den.neg, .slice r.den.A r.den.k r.den.c] W) 4 #[true, true, true, false, true, false, false, false] (Act.put (Act.put a0 (some 7) (.pointer (some ⟨g7, 0, none⟩))) (some 34) (.agg #[.bool u.num.neg, .slice u.num.A u.num.k u.num.c, .bool u.den.neg, .slice u.den.A u.den.k u.den.c])) W) := by
      clear S0111 S1111
      clear HE hHeld
      refine Lib.hid ?_
      intro W g7 u HE
      rw [HO.out, HA.out]
      (try simp only [Act.put, List.setIfInBounds_toArray, List.set_cons_zero, List.set_cons_succ])
      refine wpAnyH_ready (rs := [3, 5]) (by kernel_rfl) (by simp) ?_
      refine AllReadyH.cons rfl (fun K hK => ?_) ?_
      · rw [if_pos (by rfl)]
        simp only [List.getElem_toArray, List.getElem_cons_succ, List.getElem_cons_zero]
        go_simp
        refine (copyRat_any _ s n3 n4 l3 l4 Hl3.out Hl4.out (by first | exact HE.out.o.2.2.2.2.2.1 | exact HE.out.drew.o.2.2.2.2.2.1)).mono ?_
        rintro e wq ⟨v, rfl, hk, hb⟩
        have HE2 := Lib.hid (Env.ret HE.out hk hb)
        clear hk hb
        (try (go_wp2_with fail))
        refine hK.out _ _ (by (try dsimp only); exact ⟨(Env.c3 HE2.out).2.1, (Env.c3 HE2.out).2.2⟩) (fun hHeld => ?_)
        clear hK K hHeld
        (try simp only [List.setIfInBounds_toArray, List.set_cons_zero, List.set_cons_succ])
        have h := S1011.out wq g7 u v (Lib.hid (HE2.out))
        rw [HO.out, HA.out] at h
        (try simp only [Act.put, List.setIfInBounds_toArray, List.set_cons_zero, List.set_cons_succ] at h)
        exact h
      refine AllReadyH.cons rfl (fun K hK => ?_) ?_
      · rw [if_pos (by rfl)]
        simp only [List.getElem_toArray, List.getElem_cons_succ, List.getElem_cons_zero]
        go_simp
        have HE2 := Lib.hid (HE.out.nn 31 #[.bool false, .slice none 0 0, .bool false, .slice none 0 0])
        (try (go_wp2_with fail))
        refine hK.out _ _ (by (try dsimp only); exact ⟨(Env.c4 HE2.out).2.2.1, (Env.c4 HE2.out).2.2.2⟩) (fun hHeld => ?_)
        clear hK K hHeld
        (try simp only [List.setIfInBounds_toArray, List.set_cons_zero, List.set_cons_succ])
        have h := S1110.out (W.alloc (.cells #[.bool false, .slice none 0 0, .bool false, .slice none 0 0] 31)) g7 W.heap.size u (Lib.hid HE2.out)
        rw [HO.out, HA.out] at h
        (try simp only [Act.put, List.setIfInBounds_toArray, List.set_cons_zero, List.set_cons_succ] at h)
        exact h
      exact AllReadyH.nil
    have S0110 : Hid (∀ (W : World) (g8 : Nat) (u : RV) (HE : Hid (Env w [⟨g8, 31, #[.bool false, .slice none 0 0, .bool false, .slice none 0 0]⟩, ⟨w.heap.size + 1, 31, #[.bool s.num.neg, .slice s.num.A s.num.k s.num.c, .bool s.den.neg, .slice s.den.A s.den.k s.den.c]⟩, ⟨w.heap.size, 31, #[.bool r.num.neg, .slice r.num.A r.num.k r.num.c, .bool r.den.neg, .slice r.den.A r.den.k r.den.c]⟩] ((fun V => RatD r a 5 V ∧ RatD s b 5 V ∧ IntD r.num x 5 V ∧ IntD r.den y 5 V ∧ Raw r n1 n2 l1 l2 V ∧ Raw s n3 n4 l3 l4 V ∧ Tz V ∧ Tab V)) (fun V => Raw u n1 n2 l1 l2 V ∧ True) W)), wpAnyH Tryz.prog .any ops6 Q6 (fun W => CB (w.heap.size + 1) #[.bool s.num.neg, .slice s.num.A s.num.k s.num.c, .bool s.den.neg, .slice s.den.A s.den.k s.den.c] W ∧ CB (w.heap.size) #[.bool r.num.neg, .slice r.num.A r.num.k r.num.c, .bool r.den.neg, .slice r.den.A r.den.k r.den.c] W) 4 #[true, true, true, false, false, true, false, false] (Act.put (Act.put a0 (some 8) (.pointer (some ⟨g8, 0, none⟩))) (some 34) (.agg #[.bool u.num.neg, .slice u.num.A u.num.k u.num.c, .bool u.den.neg, .slice u.den.A u.den.k u.den.c])) W) := by
      clear S1011 S1111
      clear HE hHeld
      refine Lib.hid ?_
      intro W g8 u HE
      rw [HO.out, HA.out]
      (try simp only [Act.put, List.setIfInBounds_toArray, List.set_cons_zero, List.set_cons_succ])
      refine wpAnyH_ready (rs := [3, 4]) (by kernel_rfl) (by simp) ?_
      refine AllReadyH.cons rfl (fun K hK => ?_) ?_
      · rw [if_pos (by rfl)]
        simp only [List.getElem_toArray, List.getElem_cons_succ, List.getElem_cons_zero]
        go_simp
        refine (copyRat_any _ s n3 n4 l3 l4 Hl3.out Hl4.out (by first | exact HE.out.o.2.2.2.2.2.1 | exact HE.out.drew.o.2.2.2.2.2.1)).mono ?_
        rintro e wq ⟨v, rfl, hk, hb⟩
        have HE2 := Lib.hid (Env.ret HE.out hk hb)
        clear hk hb
        (try (go_wp2_with fail))
        refine hK.out _ _ (by (try dsimp only); exact ⟨(Env.c3 HE2.out).2.1, (Env.c3 HE2.out).2.2⟩) (fun hHeld => ?_)
        clear hK K hHeld
        (try simp only [List.setIfInBounds_toArray, List.set_cons_zero, List.set_cons_succ])
        have h := S0111.out wq g8 u v (Lib.hid (HE2.out))
        rw [HO.out, HA.out] at h
        (try simp only [Act.put, List.setIfInBounds_toArray, List.set_cons_zero, List.set_cons_succ] at h)
        exact h
      refine AllReadyH.cons rfl (fun K hK => ?_) ?_
      · rw [if_pos (by rfl)]
        simp only [List.getElem_toArray, List.getElem_cons_succ, List.getElem_cons_zero]
        go_simp
        have HE2 := Lib.hid (HE.out.nn 31 #[.bool false, .slice none 0 0, .bool false, .slice none 0 0])
        (try (go_wp2_with fail))
        refine hK.out _ _ (by (try dsimp only); exact ⟨(Env.c4 HE2.out).2.2.1, (Env.c4 HE2.out).2.2.2⟩) (fun hHeld => ?_)
        clear hK K hHeld
        (try simp only [List.setIfInBounds_toArray, List.set_cons_zero, List.set_cons_succ])
        have h := S1110.out (W.alloc (.cells #[.bool false, .slice none 0 0, .bool false, .slice none 0 0] 31)) W.heap.size g8 u (Lib.hid (HE2.out.perm (List.Perm.swap _ _ _)))
        rw [HO.out, HA.out] at h
        (try simp only [Act.put, List.setIfInBounds_toArray, List.set_cons_zero, List.set_cons_succ] at h)
        exact h
      exact AllReadyH.nil
    have S0011 : Hid (∀ (W : World) (u : RV) (v : RV) (HE : Hid (Env w [⟨w.heap.size + 1, 31, #[.bool s.num.neg, .slice s.num.A s.num.k s.num.c, .bool s.den.neg, .slice s.den.A s.den.k s.den.c]⟩, ⟨w.heap.size, 31, #[.bool r.num.neg, .slice r.num.A r.num.k r.num.c, .bool r.den.neg, .slice r.den.A r.den.k r.den.c]⟩] ((fun V => RatD r a 5 V ∧ RatD s b 5 V ∧ IntD r.num x 5 V ∧ IntD r.den y 5 V ∧ Raw r n1 n2 l1 l2 V ∧ Raw s n3 n4 l3 l4 V ∧ Tz V ∧ Tab V)) (fun V => Raw v n3 n4 l3 l4 V ∧ Raw u n1 n2 l1 l2 V ∧ True) W)), wpAnyH Tryz.prog .any ops6 Q6 (fun W => CB (w.heap.size + 1) #[.bool s.num.neg, .slice s.num.A s.num.k s.num.c, .bool s.den.neg, .slice s.den.A s.den.k s.den.c] W ∧ CB (w.heap.size) #[.bool r.num.neg, .slice r.num.A r.num.k r.num.c, .bool r.den.neg, .slice r.den.A r.den.k r.den.c] W) 4 #[true, true, true, true, false, false, false, false] (Act.put (Act.put a0 (some 34) (.agg #[.bool u.num.neg, .slice u.num.A u.num.k u.num.c, .bool u.den.neg, .slice u.den.A u.den.k u.den.c])) (some 36) (.agg #[.bool v.num.neg, .slice v.num.A v.num.k v.num.c, .bool v.den.neg, .slice v.den.A v.den.k v.den.c])) W) := by
      clear S1110 S1111
      clear HE hHeld
      refine Lib.hid ?_
      intro W u v HE
      rw [HO.out, HA.out]
      (try simp only [Act.put, List.setIfInBounds_toArray, List.set_cons_zero, List.set_cons_succ])
      refine wpAnyH_ready (rs := [4, 5]) (by kernel_rfl) (by simp) ?_
      refine AllReadyH.cons rfl (fun K hK => ?_) ?_
      · rw [if_pos (by rfl)]
        simp only [List.getElem_toArray, List.getElem_cons_succ, List.getElem_cons_zero]
        go_simp
        have HE2 := Lib.hid (HE.out.nn 31 #[.bool false, .slice none 0 0, .bool false, .slice none 0 0])
        (try (go_wp2_with fail))
        refine hK.out _ _ (by (try dsimp only); exact ⟨(Env.c3 HE2.out).2.1, (Env.c3 HE2.out).2.2⟩) (fun hHeld => ?_)
        clear hK K hHeld
        (try simp only [List.setIfInBounds_toArray, List.set_cons_zero, List.set_cons_succ])
        have h := S1011.out (W.alloc (.cells #[.bool false, .slice none 0 0, .bool false, .slice none 0 0] 31)) W.heap.size u v (Lib.hid HE2.out)
        rw [HO.out, HA.out] at h
        (try simp only [Act.put, List.setIfInBounds_toArray, List.set_cons_zero, List.set_cons_succ] at h)
        exact h
      refine AllReadyH.cons rfl (fun K hK => ?_) ?_
      · rw [if_pos (by rfl)]
        simp only [List.getElem_toArray, List.getElem_cons_succ, List.getElem_cons_zero]
        go_simp
        have HE2 := Lib.hid (HE.out.nn 31 #[.bool false, .slice none 0 0, .bool false, .slice none 0 0])
        (try (go_wp2_with fail))
        refine hK.out _ _ (by (try dsimp only); exact ⟨(Env.c3 HE2.out).2.1, (Env.c3 HE2.out).2.2⟩) (fun hHeld => ?_)
        clear hK K hHeld
        (try simp only [List.setIfInBounds_toArray, List.set_cons_zero, List.set_cons_succ])
        have h := S0111.out (W.alloc (.cells #[.bool false, .slice none 0 0, .bool false, .slice none 0 0] 31)) W.heap.size u v (Lib.hid HE2.out)
        rw [HO.out, HA.out] at h
        (try simp only [Act.put, List.setIfInBounds_toArray, List.set_cons_zero, List.set_cons_succ] at h)
        exact h
      exact AllReadyH.nil
    have S1000 : Hid (∀ (W : World) (g7 : Nat) (HE : Hid (Env w [⟨g7, 31, #[.bool false, .slice none 0 0, .bool false, .slice none 0 0]⟩, ⟨w.heap.size + 1, 31, #[.bool s.num.neg, .slice s.num.A s.num.k s.num.c, .bool s.den.neg, .slice s.den.A s.den.k s.den.c]⟩, ⟨w.heap.size, 31, #[.bool r.num.neg, .slice r.num.A r.num.k r.num.c, .bool r.den.neg, .slice r.den.A r.den.k r.den.c]⟩] ((fun V => RatD r a 5 V ∧ RatD s b 5 V ∧ IntD r.num x 5 V ∧ IntD r.den y 5 V ∧ Raw r n1 n2 l1 l2 V ∧ Raw s n3 n4 l3 l4 V ∧ Tz V ∧ Tab V)) (fun V => True) W)), wpAnyH Tryz.prog .any ops6 Q6 (fun W => CB (w.heap.size + 1) #[.bool s.num.neg, .slice s.num.A s.num.k s.num.c, .bool s.den.neg, .slice s.den.A s.den.k s.den.c] W ∧ CB (w.heap.size) #[.bool r.num.neg, .slice r.num.A r.num.k r.num.c, .bool r.den.neg, .slice r.den.A r.den.k r.den.c] W) 5 #[true, false, true, false, true, false, false, false] (Act.put a0 (some 7) (.pointer (some ⟨g7, 0, none⟩))) W) := by
      clear S0110 S0011 S1110 S1011 S0111 S1111
      clear HE hHeld
      refine Lib.hid ?_
      intro W g7 HE
      rw [HO.out, HA.out]
      (try simp only [Act.put, List.setIfInBounds_toArray, List.set_cons_zero, List.set_cons_succ])
      refine wpAnyH_ready (rs := [1, 5]) (by kernel_rfl) (by simp) ?_
      refine AllReadyH.cons rfl (fun K hK => ?_) ?_
      · rw [if_pos (by rfl)]
        simp only [List.getElem_toArray, List.getElem_cons_succ, List.getElem_cons_zero]
        go_simp
        refine (copyRat_any _ r n1 n2 l1 l2 Hl1.out Hl2.out (by first | exact HE.out.o.2.2.2.2.1 | exact HE.out.drew.o.2.2.2.2.1)).mono ?_
        rintro e wq ⟨u, rfl, hk, hb⟩
        have HE2 := Lib.hid (Env.ret HE.out hk hb)
        clear hk hb
        (try (go_wp2_with fail))
        refine hK.out _ _ (by (try dsimp only); exact ⟨(Env.c3 HE2.out).2.1, (Env.c3 HE2.out).2.2⟩) (fun hHeld => ?_)
        clear hK K hHeld
        (try simp only [List.setIfInBounds_toArray, List.set_cons_zero, List.set_cons_succ])
        have h := S1010.out wq g7 u (Lib.hid (HE2.out))
        rw [HO.out, HA.out] at h
        (try simp only [Act.put, List.setIfInBounds_toArray, List.set_cons_zero, List.set_cons_succ] at h)
        exact h
      refine AllReadyH.cons rfl (fun K hK => ?_) ?_
      · rw [if_pos (by rfl)]
        simp only [List.getElem_toArray, List.getElem_cons_succ, List.getElem_cons_zero]
        go_simp
        have HE2 := Lib.hid (HE.out.nn 31 #[.bool false, .slice none 0 0, .bool false, .slice none 0 0])
        (try (go_wp2_with fail))
        refine hK.out _ _ (by (try dsimp only); exact ⟨(Env.c4 HE2.out).2.2.1, (Env.c4 HE2.out).2.2.2⟩) (fun hHeld => ?_)
        clear hK K hHeld
        (try simp only [List.setIfInBounds_toArray, List.set_cons_zero, List.set_cons_succ])
        have h := S1100.out (W.alloc (.cells #[.bool false, .slice none 0 0, .bool false, .slice none 0 0] 31)) g7 W.heap.size (Lib.hid HE2.out)
        rw [HO.out, HA.out] at h
        (try simp only [Act.put, List.setIfInBounds_toArray, List.set_cons_zero, List.set_cons_succ] at h)
        exact h
      exact AllReadyH.nil
    have S0100 : Hid (∀ (W : World) (g8 : Nat) (HE : Hid (Env w [⟨g8, 31, #[.bool false, .slice none 0 0, .bool false, .slice none 0 0]⟩, ⟨w.heap.size + 1, 31, #[.bool s.num.neg, .slice s.num.A s.num.k s.num.c, .bool s.den.neg, .slice s.den.A s.den.k s.den.c]⟩, ⟨w.heap.size, 31, #[.bool r.num.neg, .slice r.num.A r.num.k r.num.c, .bool r.den.neg, .slice r.den.A r.den.k r.den.c]⟩] ((fun V => RatD r a 5 V ∧ RatD s b 5 V ∧ IntD r.num x 5 V ∧ IntD r.den y 5 V ∧ Raw r n1 n2 l1 l2 V ∧ Raw s n3 n4 l3 l4 V ∧ Tz V ∧ Tab V)) (fun V => True) W)), wpAnyH Tryz.prog .any ops6 Q6 (fun W => CB (w.heap.size + 1) #[.bool s.num.neg, .slice s.num.A s.num.k s.num.c, .bool s.den.neg, .slice s.den.A s.den.k s.den.c] W ∧ CB (w.heap.size) #[.bool r.num.neg, .slice r.num.A r.num.k r.num.c, .bool r.den.neg, .slice r.den.A r.den.k r.den.c] W) 5 #[true, false, true, false, false, true, false, false] (Act.put a0 (some 8) (.pointer (some ⟨g8, 0, none⟩))) W) := by
      clear S1010 S0011 S1110 S1011 S0111 S1111
      clear HE hHeld
      refine Lib.hid ?_
      intro W g8 HE
      rw [HO.out, HA.out]
      (try simp only [Act.put, List.setIfInBounds_toArray, List.set_cons_zero, List.set_cons_succ])
      refine wpAnyH_ready (rs := [1, 4]) (by kernel_rfl) (by simp) ?_
      refine AllReadyH.cons rfl (fun K hK => ?_) ?_
      · rw [if_pos (by rfl)]
        simp only [List.getElem_toArray, List.getElem_cons_succ, List.getElem_cons_zero]
        go_simp
        refine (copyRat_any _ r n1 n2 l1 l2 Hl1.out Hl2.out (by first | exact HE.out.o.2.2.2.2.1 | exact HE.out.drew.o.2.2.2.2.1)).mono ?_
        rintro e wq ⟨u, rfl, hk, hb⟩
        have HE2 := Lib.hid (Env.ret HE.out hk hb)
        clear hk hb
        (try (go_wp2_with fail))
        refine hK.out _ _ (by (try dsimp only); exact ⟨(Env.c3 HE2.out).2.1, (Env.c3 HE2.out).2.2⟩) (fun hHeld => ?_)
        clear hK K hHeld
        (try simp only [List.setIfInBounds_toArray, List.set_cons_zero, List.set_cons_succ])
        have h := S0110.out wq g8 u (Lib.hid (HE2.out))
        rw [HO.out, HA.out] at h
        (try simp only [Act.put, List.setIfInBounds_toArray, List.set_cons_zero, List.set_cons_succ] at h)
        exact h
      refine AllReadyH.cons rfl (fun K hK => ?_) ?_
      · rw [if_pos (by rfl)]
        simp only [List.getElem_toArray, List.getElem_cons_succ, List.getElem_cons_zero]
        go_simp
        have HE2 := Lib.hid (HE.out.nn 31 #[.bool false, .slice none 0 0, .bool false, .slice none 0 0])
        (try (go_wp2_with fail))
        refine hK.out _ _ (by (try dsimp only); exact ⟨(Env.c4 HE2.out).2.2.1, (Env.c4 HE2.out).2.2.2⟩) (fun hHeld => ?_)
        clear hK K hHeld
        (try simp only [List.setIfInBounds_toArray, List.set_cons_zero, List.set_cons_succ])
        have h := S1100.out (W.alloc (.cells #[.bool false, .slice none 0 0, .bool false, .slice none 0 0] 31)) W.heap.size g8 (Lib.hid (HE2.out.perm (List.Perm.swap _ _ _)))
        rw [HO.out, HA.out] at h
        (try simp only [Act.put, List.setIfInBounds_toArray, List.set_cons_zero, List.set_cons_succ] at h)
        exact h
      exact AllReadyH.nil
    have S0010 : Hid (∀ (W : World) (u : RV) (HE : Hid (Env w [⟨w.heap.size + 1, 31, #[.bool s.num.neg, .slice s.num.A s.num.k s.num.c, .bool s.den.neg, .slice s.den.A s.den.k s.den.c]⟩, ⟨w.heap.size, 31, #[.bool r.num.neg, .slice r.num.A r.num.k r.num.c, .bool r.den.neg, .slice r.den.A r.den.k r.den.c]⟩] ((fun V => RatD r a 5 V ∧ RatD s b 5 V ∧ IntD r.num x 5 V ∧ IntD r.den y 5 V ∧ Raw r n1 n2 l1 l2 V ∧ Raw s n3 n4 l3 l4 V ∧ Tz V ∧ Tab V)) (fun V => Raw u n1 n2 l1 l2 V ∧ True) W)), wpAnyH Tryz.prog .any ops6 Q6 (fun W => CB (w.heap.size + 1) #[.bool s.num.neg, .slice s.num.A s.num.k s.num.c, .bool s.den.neg, .slice s.den.A s.den.k s.den.c] W ∧ CB (w.heap.size) #[.bool r.num.neg, .slice r.num.A r.num.k r.num.c, .bool r.den.neg, .slice r.den.A r.den.k r.den.c] W) 5 #[true, true, true, false, false, false, false, false] (Act.put a0 (some 34) (.agg #[.bool u.num.neg, .slice u.num.A u.num.k u.num.c, .bool u.den.neg, .slice u.den.A u.den.k u.den.c])) W) := by
      clear S1100 S1110 S1011 S0111 S1111
      clear HE hHeld
      refine Lib.hid ?_
      intro W u HE
      rw [HO.out, HA.out]
      (try simp only [Act.put, List.setIfInBounds_toArray, List.set_cons_zero, List.set_cons_succ])
      refine wpAnyH_ready (rs := [3, 4, 5]) (by kernel_rfl) (by simp) ?_
      refine AllReadyH.cons rfl (fun K hK => ?_) ?_
      · rw [if_pos (by rfl)]
        simp only [List.getElem_toArray, List.getElem_cons_succ, List.getElem_cons_zero]
        go_simp
        refine (copyRat_any _ s n3 n4 l3 l4 Hl3.out Hl4.out (by first | exact HE.out.o.2.2.2.2.2.1 | exact HE.out.drew.o.2.2.2.2.2.1)).mono ?_
        rintro e wq ⟨v, rfl, hk, hb⟩
        have HE2 := Lib.hid (Env.ret HE.out hk hb)
        clear hk hb
        (try (go_wp2_with fail))
        refine hK.out _ _ (by (try dsimp only); exact ⟨(Env.c2 HE2.out).1, (Env.c2 HE2.out).2⟩) (fun hHeld => ?_)
        clear hK K hHeld
        (try simp only [List.setIfInBounds_toArray, List.set_cons_zero, List.set_cons_succ])
        have h := S0011.out wq u v (Lib.hid (HE2.out))
        rw [HO.out, HA.out] at h
        (try simp only [Act.put, List.setIfInBounds_toArray, List.set_cons_zero, List.set_cons_succ] at h)
        exact h
      refine AllReadyH.cons rfl (fun K hK => ?_) ?_
      · rw [if_pos (by rfl)]
        simp only [List.getElem_toArray, List.getElem_cons_succ, List.getElem_cons_zero]
        go_simp
        have HE2 := Lib.hid (HE.out.nn 31 #[.bool false, .slice none 0 0, .bool false, .slice none 0 0])
        (try (go_wp2_with fail))
        refine hK.out _ _ (by (try dsimp only); exact ⟨(Env.c3 HE2.out).2.1, (Env.c3 HE2.out).2.2⟩) (fun hHeld => ?_)
        clear hK K hHeld
        (try simp only [List.setIfInBounds_toArray, List.set_cons_zero, List.set_cons_succ])
        have h := S1010.out (W.alloc (.cells #[.bool false, .slice none 0 0, .bool false, .slice none 0 0] 31)) W.heap.size u (Lib.hid HE2.out)
        rw [HO.out, HA.out] at h
        (try simp only [Act.put, List.setIfInBounds_toArray, List.set_cons_zero, List.set_cons_succ] at h)
        exact h
      refine AllReadyH.cons rfl (fun K hK => ?_) ?_
      · rw [if_pos (by rfl)]
        simp only [List.getElem_toArray, List.getElem_cons_succ, List.getElem_cons_zero]
        go_simp
        have HE2 := Lib.hid (HE.out.nn 31 #[.bool false, .slice none 0 0, .bool false, .slice none 0 0])
        (try (go_wp2_with fail))
        refine hK.out _ _ (by (try dsimp only); exact ⟨(Env.c3 HE2.out).2.1, (Env.c3 HE2.out).2.2⟩) (fun hHeld => ?_)
        clear hK K hHeld
        (try simp only [List.setIfInBounds_toArray, List.set_cons_zero, List.set_cons_succ])
        have h := S0110.out (W.alloc (.cells #[.bool false, .slice none 0 0, .bool false, .slice none 0 0] 31)) W.heap.size u (Lib.hid HE2.out)
        rw [HO.out, HA.out] at h
        (try simp only [Act.put, List.setIfInBounds_toArray, List.set_cons_zero, List.set_cons_succ] at h)
        exact h
      exact AllReadyH.nil
    have S0000 : Hid (∀ (W : World) (HE : Hid (Env w [⟨w.heap.size + 1, 31, #[.bool s.num.neg, .slice s.num.A s.num.k s.num.c, .bool s.den.neg, .slice s.den.A s.den.k s.den.c]⟩, ⟨w.heap.size, 31, #[.bool r.num.neg, .slice r.num.A r.num.k r.num.c, .bool r.den.neg, .slice r.den.A r.den.k r.den.c]⟩] ((fun V => RatD r a 5 V ∧ RatD s b 5 V ∧ IntD r.num x 5 V ∧ IntD r.den y 5 V ∧ Raw r n1 n2 l1 l2 V ∧ Raw s n3 n4 l3 l4 V ∧ Tz V ∧ Tab V)) (fun V => True) W)), wpAnyH Tryz.prog .any ops6 Q6 (fun W => CB (w.heap.size + 1) #[.bool s.num.neg, .slice s.num.A s.num.k s.num.c, .bool s.den.neg, .slice s.den.A s.den.k s.den.c] W ∧ CB (w.heap.size) #[.bool r.num.neg, .slice r.num.A r.num.k r.num.c, .bool r.den.neg, .slice r.den.A r.den.k r.den.c] W) 6 #[true, false, true, false, false, false, false, false] a0 W) := by
      clear S1100 S1010 S0110 S0011 S1110 S1011 S0111 S1111
      clear HE hHeld
      refine Lib.hid ?_
      intro W HE
      rw [HO.out, HA.out]
      (try simp only [Act.put, List.setIfInBounds_toArray, List.set_cons_zero, List.set_cons_succ])
      refine wpAnyH_ready (rs := [1, 4, 5]) (by kernel_rfl) (by simp) ?_
      refine AllReadyH.cons rfl (fun K hK => ?_) ?_
      · rw [if_pos (by rfl)]
        simp only [List.getElem_toArray, List.getElem_cons_succ, List.getElem_cons_zero]
        go_simp
        refine (copyRat_any _ r n1 n2 l1 l2 Hl1.out Hl2.out (by first | exact HE.out.o.2.2.2.2.1 | exact HE.out.drew.o.2.2.2.2.1)).mono ?_
        rintro e wq ⟨u, rfl, hk, hb⟩
        have HE2 := Lib.hid (Env.ret HE.out hk hb)
        clear hk hb
        (try (go_wp2_with fail))
        refine hK.out _ _ (by (try dsimp only); exact ⟨(Env.c2 HE2.out).1, (Env.c2 HE2.out).2⟩) (fun hHeld => ?_)
        clear hK K hHeld
        (try simp only [List.setIfInBounds_toArray, List.set_cons_zero, List.set_cons_succ])
        have h := S0010.out wq u (Lib.hid (HE2.out))
        rw [HO.out, HA.out] at h
        (try simp only [Act.put, List.setIfInBounds_toArray, List.set_cons_zero, List.set_cons_succ] at h)
        exact h
      refine AllReadyH.cons rfl (fun K hK => ?_) ?_
      · rw [if_pos (by rfl)]
        simp only [List.getElem_toArray, List.getElem_cons_succ, List.getElem_cons_zero]
        go_simp
        have HE2 := Lib.hid (HE.out.nn 31 #[.bool false, .slice none 0 0, .bool false, .slice none 0 0])
        (try (go_wp2_with fail))
        refine hK.out _ _ (by (try dsimp only); exact ⟨(Env.c3 HE2.out).2.1, (Env.c3 HE2.out).2.2⟩) (fun hHeld => ?_)
        clear hK K hHeld
        (try simp only [List.setIfInBounds_toArray, List.set_cons_zero, List.set_cons_succ])
        have h := S1000.out (W.alloc (.cells #[.bool false, .slice none 0 0, .bool false, .slice none 0 0] 31)) W.heap.size (Lib.hid HE2.out)
        rw [HO.out, HA.out] at h
        (try simp only [Act.put, List.setIfInBounds_toArray, List.set_cons_zero, List.set_cons_succ] at h)
        exact h
      refine AllReadyH.cons rfl (fun K hK => ?_) ?_
      · rw [if_pos (by rfl)]
        simp only [List.getElem_toArray, List.getElem_cons_succ, List.getElem_cons_zero]
        go_simp
        have HE2 := Lib.hid (HE.out.nn 31 #[.bool false, .slice none 0 0, .bool false, .slice none 0 0])
        (try (go_wp2_with fail))
        refine hK.out _ _ (by (try dsimp only); exact ⟨(Env.c3 HE2.out).2.1, (Env.c3 HE2.out).2.2⟩) (fun hHeld => ?_)
        clear hK K hHeld
        (try simp only [List.setIfInBounds_toArray, List.set_cons_zero, List.set_cons_succ])
        have h := S0100.out (W.alloc (.cells #[.bool false, .slice none 0 0, .bool false, .slice none 0 0] 31)) W.heap.size (Lib.hid HE2.out)
        rw [HO.out, HA.out] at h
        (try simp only [Act.put, List.setIfInBounds_toArray, List.set_cons_zero, List.set_cons_succ] at h)
        exact h
      exact AllReadyH.nil
    exact S0000.out _ (Lib.hid HE.out.drew)
  case rest =>
    clear HE c dd
    obtain ⟨g7, g8, u, v, rfl, rfl, HE⟩ := hcut
    have c := Env.c4 HE.out
    go_wp2_with fail
    refine (rdiv_k _ r s a b 5 (by decide) (by decide) (by first | exact HE.out.o.1 | exact HE.out.drew.o.1) (by first | exact HE.out.o.2.1 | exact HE.out.drew.o.2.1) (by first | exact HE.out.o.2.2.2.2.2.2.1 | exact HE.out.drew.o.2.2.2.2.2.2.1)).mono ?_
    rintro e w2 ⟨K, ⟨hq1, hq2⟩, q, rfl, hk, hb⟩
    replace HE := Lib.hid (Env.ret (by first | exact HE.out | exact HE.out.drew) hk hb)
    replace c := Env.c4 HE.out
    obtain ⟨B, hB⟩ : ∃ B, (b.num.sign == 0) = B := ⟨_, rfl⟩
    have hB2 : (b.num.sign != 0) = !B := by rw [← hB]; rfl
    rw [hB] at hq1; rw [hB2] at hq2
    clear hk hb
    go_upto_region 6 with fail
    obtain ⟨W3, g10, hW3, hg10, HE⟩ := Env.al HE.out 31 #[.bool q.num.neg, .slice q.num.A q.num.k q.num.c, .bool q.den.neg, .slice q.den.A q.den.k q.den.c]
    rw [hW3, hg10]
    clear hW3 hg10
    replace c := Env.c5 HE.out
    have dd := Env.d5 HE.out
    go_cut [12] (fun p wx => p = .bool true ∧ Hid (Env w [⟨g10, 31, #[.bool q.num.neg, .slice q.num.A q.num.k q.num.c, .bool q.den.neg, .slice q.den.A q.den.k q.den.c]⟩, ⟨g8, 31, #[.bool v.num.neg, .slice v.num.A v.num.k v.num.c, .bool v.den.neg, .slice v.den.A v.den.k v.den.c]⟩, ⟨g7, 31, #[.bool u.num.neg, .slice u.num.A u.num.k u.num.c, .bool u.den.neg, .slice u.den.A u.den.k u.den.c]⟩, ⟨w.heap.size + 1, 31, #[.bool s.num.neg, .slice s.num.A s.num.k s.num.c, .bool s.den.neg, .slice s.den.A s.den.k s.den.c]⟩, ⟨w.heap.size, 31, #[.bool r.num.neg, .slice r.num.A r.num.k r.num.c, .bool r.den.neg, .slice r.den.A r.den.k r.den.c]⟩] (fun V => RatD r a 5 V ∧ RatD s b 5 V ∧ IntD r.num x 5 V ∧ IntD r.den y 5 V ∧ Raw r n1 n2 l1 l2 V ∧ Raw s n3 n4 l3 l4 V ∧ Tz V ∧ Tab V) (fun V => RatN q (a / b) V ∧ Raw v n3 n4 l3 l4 V ∧ Raw u n1 n2 l1 l2 V) wx))
    case first => as_aux_lemma =>
      go_region_held3 (fun W => CB (g10) #[.bool q.num.neg, .slice q.num.A q.num.k q.num.c, .bool q.den.neg, .slice q.den.A q.den.k q.den.c] W ∧ CB (w.heap.size + 1) #[.bool s.num.neg, .slice s.num.A s.num.k s.num.c, .bool s.den.neg, .slice s.den.A s.den.k s.den.c] W ∧ CB (w.heap.size) #[.bool r.num.neg, .slice r.num.A r.num.k r.num.c, .bool r.den.neg, .slice r.den.A r.den.k r.den.c] W) (first | with_reducible exact ⟨c.1, c.2.2.2.1, c.2.2.2.2⟩ | ((repeat' apply And.intro) <;> go_keep) | exact ⟨c.1, c.2.2.2.1, c.2.2.2.2⟩)
        (first
          | (go_at_call_of 17 ((#[.agg #[.bool r.num.neg, .slice r.num.A r.num.k r.num.c, .bool r.den.neg, .slice r.den.A r.den.k r.den.c], .agg #[.bool s.num.neg, .slice s.num.A s.num.k s.num.c, .bool s.den.neg, .slice s.den.A s.den.k s.den.c]] : Array Value)); go_must (refine (radd_any _ r s a b 5 (by decide) (by decide) (by first | exact HE.out.o.1 | exact HE.out.drew.o.1) (by first | exact HE.out.o.2.1 | exact HE.out.drew.o.2.1) (by first | exact HE.out.o.2.2.2.2.2.2.1 | exact HE.out.drew.o.2.2.2.2.2.2.1)).mono ?_; rintro e w1 ⟨kAdd, rfl, hk, hb⟩; replace HE := Lib.hid (Env.ret (by first | exact HE.out | exact HE.out.drew) hk hb); replace c := Env.c5 HE.out; clear hk hb))
          | (go_at_call_of 18 ((#[.agg #[.bool r.num.neg, .slice r.num.A r.num.k r.num.c, .bool r.den.neg, .slice r.den.A r.den.k r.den.c], .agg #[.bool s.num.neg, .slice s.num.A s.num.k s.num.c, .bool s.den.neg, .slice s.den.A s.den.k s.den.c]] : Array Value)); go_must (refine (refadd4_any _ r s a b 5 (by decide) (by decide) (by first | exact HE.out.o.1 | exact HE.out.drew.o.1) (by first | exact HE.out.o.2.1 | exact HE.out.drew.o.2.1)).mono ?_; rintro e w2 ⟨lAdd, rfl, hk, hb⟩; replace HE := Lib.hid (Env.ret (by first | exact HE.out | exact HE.out.drew) hk hb); replace c := Env.c5 HE.out; clear hk hb))
          | (go_at_call_of 15 ((#[.agg #[.bool kAdd.num.neg, .slice kAdd.num.A kAdd.num.k kAdd.num.c, .bool kAdd.den.neg, .slice kAdd.den.A kAdd.den.k kAdd.den.c], .agg #[.bool lAdd.num.neg, .slice lAdd.num.A lAdd.num.k lAdd.num.c, .bool lAdd.den.neg, .slice lAdd.den.A lAdd.den.k lAdd.den.c]] : Array Value)); go_must (refine (sameRat_true _ kAdd lAdd (a + b) (a + b) 11 (by decide) (Sz.add (n := 5) (m := 5) Hsa.out Hsb.out) (by first | exact HE.out.n.2.1 | exact HE.out.drew.n.2.1) (by first | exact HE.out.n.1 | exact HE.out.drew.n.1) rfl).mono ?_; rintro e w3 ⟨rfl, hb⟩; replace HE := Lib.hid (Env.call (by first | exact HE.out | exact HE.out.drew) hb); replace HE := Lib.hid (HE.out.imp (fun _ h => h) (fun _ h => h.2.2)); replace c := Env.c5 HE.out; clear hb))
          | (go_at_call_of 19 ((#[.agg #[.bool r.num.neg, .slice r.num.A r.num.k r.num.c, .bool r.den.neg, .slice r.den.A r.den.k r.den.c], .agg #[.bool s.num.neg, .slice s.num.A s.num.k s.num.c, .bool s.den.neg, .slice s.den.A s.den.k s.den.c]] : Array Value)); go_must (refine (rsub_any _ r s a b 5 (by decide) (by decide) (by first | exact HE.out.o.1 | exact HE.out.drew.o.1) (by first | exact HE.out.o.2.1 | exact HE.out.drew.o.2.1) (by first | exact HE.out.o.2.2.2.2.2.2.1 | exact HE.out.drew.o.2.2.2.2.2.2.1)).mono ?_; rintro e w4 ⟨kSub, rfl, hk, hb⟩; replace HE := Lib.hid (Env.ret (by first | exact HE.out | exact HE.out.drew) hk hb); replace c := Env.c5 HE.out; clear hk hb))
          | (go_at_call_of 20 ((#[.agg #[.bool r.num.neg, .slice r.num.A r.num.k r.num.c, .bool r.den.neg, .slice r.den.A r.den.k r.den.c], .agg #[.bool s.num.neg, .slice s.num.A s.num.k s.num.c, .bool s.den.neg, .slice s.den.A s.den.k s.den.c]] : Array Value)); go_must (refine (refsub4_any _ r s a b 5 (by decide) (by decide) (by first | exact HE.out.o.1 | exact HE.out.drew.o.1) (by first | exact HE.out.o.2.1 | exact HE.out.drew.o.2.1)).mono ?_; rintro e w5 ⟨lSub, rfl, hk, hb⟩; replace HE := Lib.hid (Env.ret (by first | exact HE.out | exact HE.out.drew) hk hb); replace c := Env.c5 HE.out; clear hk hb))
          | (go_at_call_of 15 ((#[.agg #[.bool kSub.num.neg, .slice kSub.num.A kSub.num.k kSub.num.c, .bool kSub.den.neg, .slice kSub.den.A kSub.den.k kSub.den.c], .agg #[.bool lSub.num.neg, .slice lSub.num.A lSub.num.k lSub.num.c, .bool lSub.den.neg, .slice lSub.den.A lSub.den.k lSub.den.c]] : Array Value)); go_must (refine (sameRat_true _ kSub lSub (a - b) (a - b) 11 (by decide) (Sz.sub (n := 5) (m := 5) Hsa.out Hsb.out) (by first | exact HE.out.n.2.1 | exact HE.out.drew.n.2.1) (by first | exact HE.out.n.1 | exact HE.out.drew.n.1) rfl).mono ?_; rintro e w6 ⟨rfl, hb⟩; replace HE := Lib.hid (Env.call (by first | exact HE.out | exact HE.out.drew) hb); replace HE := Lib.hid (HE.out.imp (fun _ h => h) (fun _ h => h.2.2)); replace c := Env.c5 HE.out; clear hb))
          | (go_at_call_of 21 ((#[.agg #[.bool r.num.neg, .slice r.num.A r.num.k r.num.c, .bool r.den.neg, .slice r.den.A r.den.k r.den.c], .agg #[.bool s.num.neg, .slice s.num.A s.num.k s.num.c, .bool s.den.neg, .slice s.den.A s.den.k s.den.c]] : Array Value)); go_must (refine (rmul_any _ r s a b 5 (by decide) (by decide) (by first | exact HE.out.o.1 | exact HE.out.drew.o.1) (by first | exact HE.out.o.2.1 | exact HE.out.drew.o.2.1) (by first | exact HE.out.o.2.2.2.2.2.2.1 | exact HE.out.drew.o.2.2.2.2.2.2.1)).mono ?_; rintro e w7 ⟨kMul, rfl, hk, hb⟩; replace HE := Lib.hid (Env.ret (by first | exact HE.out | exact HE.out.drew) hk hb); replace c := Env.c5 HE.out; clear hk hb))
          | (go_at_call_of 22 ((#[.agg #[.bool r.num.neg, .slice r.num.A r.num.k r.num.c, .bool r.den.neg, .slice r.den.A r.den.k r.den.c], .agg #[.bool s.num.neg, .slice s.num.A s.num.k s.num.c, .bool s.den.neg, .slice s.den.A s.den.k s.den.c]] : Array Value)); go_must (refine (refmul4_any _ r s a b 5 (by decide) (by decide) (by first | exact HE.out.o.1 | exact HE.out.drew.o.1) (by first | exact HE.out.o.2.1 | exact HE.out.drew.o.2.1)).mono ?_; rintro e w8 ⟨lMul, rfl, hk, hb⟩; replace HE := Lib.hid (Env.ret (by first | exact HE.out | exact HE.out.drew) hk hb); replace c := Env.c5 HE.out; clear hk hb))
          | (go_at_call_of 15 ((#[.agg #[.bool kMul.num.neg, .slice kMul.num.A kMul.num.k kMul.num.c, .bool kMul.den.neg, .slice kMul.den.A kMul.den.k kMul.den.c], .agg #[.bool lMul.num.neg, .slice lMul.num.A lMul.num.k lMul.num.c, .bool lMul.den.neg, .slice lMul.den.A lMul.den.k lMul.den.c]] : Array Value)); go_must (refine (sameRat_true _ kMul lMul (a * b) (a * b) 11 (by decide) (Sz.mul (n := 5) (m := 5) Hsa.out Hsb.out) (by first | exact HE.out.n.2.1 | exact HE.out.drew.n.2.1) (by first | exact HE.out.n.1 | exact HE.out.drew.n.1) rfl).mono ?_; rintro e w9 ⟨rfl, hb⟩; replace HE := Lib.hid (Env.call (by first | exact HE.out | exact HE.out.drew) hb); replace HE := Lib.hid (HE.out.imp (fun _ h => h) (fun _ h => h.2.2)); replace c := Env.c5 HE.out; clear hb))
          | (go_at_call_of 23 ((#[.agg #[.bool r.num.neg, .slice r.num.A r.num.k r.num.c, .bool r.den.neg, .slice r.den.A r.den.k r.den.c], .agg #[.bool s.num.neg, .slice s.num.A s.num.k s.num.c, .bool s.den.neg, .slice s.den.A s.den.k s.den.c]] : Array Value)); go_must (refine (rquo_any _ r s a b 5 (by decide) (by decide) (by first | exact HE.out.o.1 | exact HE.out.drew.o.1) (by first | exact HE.out.o.2.1 | exact HE.out.drew.o.2.1) (by first | exact HE.out.o.2.2.2.2.2.2.1 | exact HE.out.drew.o.2.2.2.2.2.2.1)).mono ?_; rintro e w10 ⟨kQuo, rfl, hk, hb⟩; replace HE := Lib.hid (Env.ret (by first | exact HE.out | exact HE.out.drew) hk hb); replace c := Env.c5 HE.out; clear hk hb))
          | (go_at_call_of 24 ((#[.agg #[.bool r.num.neg, .slice r.num.A r.num.k r.num.c, .bool r.den.neg, .slice r.den.A r.den.k r.den.c], .agg #[.bool s.num.neg, .slice s.num.A s.num.k s.num.c, .bool s.den.neg, .slice s.den.A s.den.k s.den.c]] : Array Value)); go_must (refine (refquo4_any _ r s a b 5 (by decide) (by decide) (by first | exact HE.out.o.1 | exact HE.out.drew.o.1) (by first | exact HE.out.o.2.1 | exact HE.out.drew.o.2.1)).mono ?_; rintro e w11 ⟨lQuo, rfl, hk, hb⟩; replace HE := Lib.hid (Env.ret (by first | exact HE.out | exact HE.out.drew) hk hb); replace c := Env.c5 HE.out; clear hk hb))
          | (go_at_call_of 15 ((#[.agg #[.bool kQuo.num.neg, .slice kQuo.num.A kQuo.num.k kQuo.num.c, .bool kQuo.den.neg, .slice kQuo.den.A kQuo.den.k kQuo.den.c], .agg #[.bool lQuo.num.neg, .slice lQuo.num.A lQuo.num.k lQuo.num.c, .bool lQuo.den.neg, .slice lQuo.den.A lQuo.den.k lQuo.den.c]] : Array Value)); go_must (refine (sameRat_true _ kQuo lQuo (a / b) (a / b) 11 (by decide) (Sz.quo (n := 5) (m := 5) Hsa.out Hsb.out) (by first | exact HE.out.n.2.1 | exact HE.out.drew.n.2.1) (by first | exact HE.out.n.1 | exact HE.out.drew.n.1) rfl).mono ?_; rintro e w12 ⟨rfl, hb⟩; replace HE := Lib.hid (Env.call (by first | exact HE.out | exact HE.out.drew) hb); replace HE := Lib.hid (HE.out.imp (fun _ h => h) (fun _ h => h.2.2)); replace c := Env.c5 HE.out; clear hb))
          | (go_at_call_of 15 ((#[.agg #[.bool q.num.neg, .slice q.num.A q.num.k q.num.c, .bool q.den.neg, .slice q.den.A q.den.k q.den.c], .agg #[.bool lQuo.num.neg, .slice lQuo.num.A lQuo.num.k lQuo.num.c, .bool lQuo.den.neg, .slice lQuo.den.A lQuo.den.k lQuo.den.c]] : Array Value)); go_must (refine (sameRat_true _ q lQuo (a / b) (a / b) 11 (by decide) (Sz.quo (n := 5) (m := 5) Hsa.out Hsb.out) (by first | exact HE.out.n.2.1 | exact HE.out.drew.n.2.1) (by first | exact HE.out.n.1 | exact HE.out.drew.n.1) rfl).mono ?_; rintro e w13 ⟨rfl, hb⟩; replace HE := Lib.hid (Env.call (by first | exact HE.out | exact HE.out.drew) hb); replace HE := Lib.hid (HE.out.imp (fun _ h => h) (fun _ h => h.2)); replace c := Env.c5 HE.out; clear hb))
          | (go_at_call_of 25 ((#[.agg #[.bool s.num.neg, .slice s.num.A s.num.k s.num.c, .bool s.den.neg, .slice s.den.A s.den.k s.den.c]] : Array Value)); go_must (refine (refsign4_any _ s b 5 (by decide) (by decide) (by first | exact HE.out.o.2.1 | exact HE.out.drew.o.2.1)).mono ?_; rintro e w14 ⟨rfl, hb⟩; replace HE := Lib.hid (Env.call (by first | exact HE.out | exact HE.out.drew) hb); replace c := Env.c5 HE.out; clear hb)))
      go_wp2_with fail
      go_meet
      exact ⟨rfl, Lib.hid (HE.out.imp (fun _ h => h) fun _ h => h)⟩
    case rest =>
      clear HE c hq1 hq2 hB hB2
      obtain ⟨rfl, HE⟩ := hcut
      have c := Env.c5 HE.out
      have Hlx := Lib.hid HE.out.o.2.2.1.lt
      have Hly := Lib.hid HE.out.o.2.2.2.1.lt
      go_upto_region 7 with fail
      go_cut [13] (fun p wx => p = .bool true ∧ Hid (Env w [⟨g10, 31, #[.bool q.num.neg, .slice q.num.A q.num.k q.num.c, .bool q.den.neg, .slice q.den.A q.den.k q.den.c]⟩, ⟨g8, 31, #[.bool v.num.neg, .slice v.num.A v.num.k v.num.c, .bool v.den.neg, .slice v.den.A v.den.k v.den.c]⟩, ⟨g7, 31, #[.bool u.num.neg, .slice u.num.A u.num.k u.num.c, .bool u.den.neg, .slice u.den.A u.den.k u.den.c]⟩, ⟨w.heap.size + 1, 31, #[.bool s.num.neg, .slice s.num.A s.num.k s.num.c, .bool s.den.neg, .slice s.den.A s.den.k s.den.c]⟩, ⟨w.heap.size, 31, #[.bool r.num.neg, .slice r.num.A r.num.k r.num.c, .bool r.den.neg, .slice r.den.A r.den.k r.den.c]⟩] (fun V => RatD r a 5 V ∧ RatD s b 5 V ∧ IntD r.num x 5 V ∧ IntD r.den y 5 V ∧ Raw r n1 n2 l1 l2 V ∧ Raw s n3 n4 l3 l4 V ∧ Tz V ∧ Tab V) (fun V => RatN q (a / b) V ∧ Raw v n3 n4 l3 l4 V ∧ Raw u n1 n2 l1 l2 V) wx))
      case first => as_aux_lemma =>
        simp only [List.append]
        go_region_held3 (fun W => CB (w.heap.size + 1) #[.bool s.num.neg, .slice s.num.A s.num.k s.num.c, .bool s.den.neg, .slice s.den.A s.den.k s.den.c] W ∧ CB (w.heap.size) #[.bool r.num.neg, .slice r.num.A r.num.k r.num.c, .bool r.den.neg, .slice r.den.A r.den.k r.den.c] W) (first | with_reducible exact ⟨c.2.2.2.1, c.2.2.2.2⟩ | ((repeat' apply And.intro) <;> go_keep) | exact ⟨c.2.2.2.1, c.2.2.2.2⟩)
          (first
            | (go_at_call_of 8 ((#[.agg #[.bool r.num.neg, .slice r.num.A r.num.k r.num.c, .bool r.den.neg, .slice r.den.A r.den.k r.den.c]] : Array Value)); go_must (refine (rnorm_any _ r a 5 (by decide) (by decide) (by first | exact HE.out.o.1 | exact HE.out.drew.o.1) (by first | exact HE.out.o.2.2.2.2.2.2.1 | exact HE.out.drew.o.2.2.2.2.2.2.1)).mono ?_; rintro e w15 ⟨kNorm, rfl, hk, hb⟩; replace HE := Lib.hid (Env.ret (by first | exact HE.out | exact HE.out.drew) hk hb); replace c := Env.c5 HE.out; clear hk hb))
            | (go_at_call_of 26 ((#[.agg #[.bool r.num.neg, .slice r.num.A r.num.k r.num.c, .bool r.den.neg, .slice r.den.A r.den.k r.den.c]] : Array Value)); go_must (refine (refnorm4_any _ r a 5 (by decide) (by decide) (by first | exact HE.out.o.1 | exact HE.out.drew.o.1)).mono ?_; rintro e w16 ⟨lNorm, rfl, hk, hb⟩; replace HE := Lib.hid (Env.ret (by first | exact HE.out | exact HE.out.drew) hk hb); replace c := Env.c5 HE.out; clear hk hb))
            | (go_at_call_of 15 ((#[.agg #[.bool kNorm.num.neg, .slice kNorm.num.A kNorm.num.k kNorm.num.c, .bool kNorm.den.neg, .slice kNorm.den.A kNorm.den.k kNorm.den.c], .agg #[.bool lNorm.num.neg, .slice lNorm.num.A lNorm.num.k lNorm.num.c, .bool lNorm.den.neg, .slice lNorm.den.A lNorm.den.k lNorm.den.c]] : Array Value)); go_must (refine (sameRat_true _ kNorm lNorm a a 5 (by decide) Hsa.out (by first | exact HE.out.n.2.1 | exact HE.out.drew.n.2.1) (by first | exact HE.out.n.1 | exact HE.out.drew.n.1) rfl).mono ?_; rintro e w17 ⟨rfl, hb⟩; replace HE := Lib.hid (Env.call (by first | exact HE.out | exact HE.out.drew) hb); replace HE := Lib.hid (HE.out.imp (fun _ h => h) (fun _ h => h.2.2)); replace c := Env.c5 HE.out; clear hb))
            | (go_at_call_of 27 ((#[.agg #[.bool r.num.neg, .slice r.num.A r.num.k r.num.c], .agg #[.bool r.den.neg, .slice r.den.A r.den.k r.den.c]] : Array Value)); go_must (refine (make_any _ r.num r.den x y 5 (by decide) (by decide) (by first | exact HE.out.o.2.2.1 | exact HE.out.drew.o.2.2.1) (by first | exact HE.out.o.2.2.2.1 | exact HE.out.drew.o.2.2.2.1) (by first | exact HE.out.o.2.2.2.2.2.2.1 | exact HE.out.drew.o.2.2.2.2.2.2.1)).mono ?_; rintro e w18 ⟨kMake, rfl, hk, hb⟩; replace HE := Lib.hid (Env.ret (by first | exact HE.out | exact HE.out.drew) hk hb); replace c := Env.c5 HE.out; clear hk hb))
            | (go_at_call_of 28 ((#[.agg #[.bool r.num.neg, .slice r.num.A r.num.k r.num.c], .agg #[.bool r.den.neg, .slice r.den.A r.den.k r.den.c]] : Array Value)); go_must (refine (refmk_any _ r.num r.den x y 5 (by decide) (by first | exact HE.out.o.2.2.1 | exact HE.out.drew.o.2.2.1) (by first | exact HE.out.o.2.2.2.1 | exact HE.out.drew.o.2.2.2.1)).mono ?_; rintro e w19 ⟨lMake, rfl, hk, hb⟩; replace HE := Lib.hid (Env.ret (by first | exact HE.out | exact HE.out.drew) hk hb); replace c := Env.c5 HE.out; clear hk hb))
            | (go_at_call_of 15 ((#[.agg #[.bool kMake.num.neg, .slice kMake.num.A kMake.num.k kMake.num.c, .bool kMake.den.neg, .slice kMake.den.A kMake.den.k kMake.den.c], .agg #[.bool lMake.num.neg, .slice lMake.num.A lMake.num.k lMake.num.c, .bool lMake.den.neg, .slice lMake.den.A lMake.den.k lMake.den.c]] : Array Value)); go_must (refine (sameRat_true _ kMake lMake (Rat.divInt x y) (Rat.divInt x y) 5 (by decide) (sz_int (by decide) Hlx.out Hly.out) (by first | exact HE.out.n.2.1 | exact HE.out.drew.n.2.1) (by first | exact HE.out.n.1 | exact HE.out.drew.n.1) rfl).mono ?_; rintro e w20 ⟨rfl, hb⟩; replace HE := Lib.hid (Env.call (by first | exact HE.out | exact HE.out.drew) hb); replace HE := Lib.hid (HE.out.imp (fun _ h => h) (fun _ h => h.2.2)); replace c := Env.c5 HE.out; clear hb))
            | (go_at_call_of 29 ((#[.agg #[.bool r.num.neg, .slice r.num.A r.num.k r.num.c]] : Array Value)); go_must (refine (rwhole_any _ r.num x 5 (by decide) (by first | exact HE.out.o.2.2.1 | exact HE.out.drew.o.2.2.1)).mono ?_; rintro e w21 ⟨kWhole, rfl, hk, hb⟩; replace HE := Lib.hid (Env.ret (by first | exact HE.out | exact HE.out.drew) hk hb); replace c := Env.c5 HE.out; clear hk hb))
            | (go_at_call_of 26 ((#[.agg #[.bool r.num.neg, .slice r.num.A r.num.k r.num.c, .bool false, .slice none 0 0]] : Array Value)); go_must (refine (refnorm4_any _ ⟨r.num, ⟨false, none, 0, 0⟩⟩ (Rat.divInt x 1) 5 (by decide) (by decide) (RatD.x1 (by first | exact HE.out.o.2.2.1 | exact HE.out.drew.o.2.2.1))).mono ?_; rintro e w22 ⟨lWhole, rfl, hk, hb⟩; replace HE := Lib.hid (Env.ret (by first | exact HE.out | exact HE.out.drew) hk hb); replace c := Env.c5 HE.out; clear hk hb))
            | (go_at_call_of 15 ((#[.agg #[.bool kWhole.num.neg, .slice kWhole.num.A kWhole.num.k kWhole.num.c, .bool kWhole.den.neg, .slice kWhole.den.A kWhole.den.k kWhole.den.c], .agg #[.bool lWhole.num.neg, .slice lWhole.num.A lWhole.num.k lWhole.num.c, .bool lWhole.den.neg, .slice lWhole.den.A lWhole.den.k lWhole.den.c]] : Array Value)); go_must (refine (sameRat_true _ kWhole lWhole (Rat.divInt x 1) (Rat.divInt x 1) 5 (by decide) (sz_int (by decide) Hlx.out (by decide)) (by first | exact HE.out.n.2.1 | exact HE.out.drew.n.2.1) (by first | exact HE.out.n.1 | exact HE.out.drew.n.1) rfl).mono ?_; rintro e w23 ⟨rfl, hb⟩; replace HE := Lib.hid (Env.call (by first | exact HE.out | exact HE.out.drew) hb); replace HE := Lib.hid (HE.out.imp (fun _ h => h) (fun _ h => h.2.2)); replace c := Env.c5 HE.out; clear hb))
            | (go_at_call_of 30 ((#[.agg #[.bool r.num.neg, .slice r.num.A r.num.k r.num.c, .bool r.den.neg, .slice r.den.A r.den.k r.den.c]] : Array Value)); go_must (refine (rneg_any _ r a 5 (by decide) (by decide) (by first | exact HE.out.o.1 | exact HE.out.drew.o.1) (by first | exact HE.out.o.2.2.2.2.2.2.1 | exact HE.out.drew.o.2.2.2.2.2.2.1)).mono ?_; rintro e w24 ⟨kNeg, rfl, hk, hb⟩; replace HE := Lib.hid (Env.ret (by first | exact HE.out | exact HE.out.drew) hk hb); replace c := Env.c5 HE.out; clear hk hb))
            | (go_at_call_of 31 ((#[.agg #[.bool r.num.neg, .slice r.num.A r.num.k r.num.c, .bool r.den.neg, .slice r.den.A r.den.k r.den.c]] : Array Value)); go_must (refine (refneg4_any _ r a 5 (by decide) (by decide) (by first | exact HE.out.o.1 | exact HE.out.drew.o.1)).mono ?_; rintro e w25 ⟨lNeg, rfl, hk, hb⟩; replace HE := Lib.hid (Env.ret (by first | exact HE.out | exact HE.out.drew) hk hb); replace c := Env.c5 HE.out; clear hk hb))
            | (go_at_call_of 15 ((#[.agg #[.bool kNeg.num.neg, .slice kNeg.num.A kNeg.num.k kNeg.num.c, .bool kNeg.den.neg, .slice kNeg.den.A kNeg.den.k kNeg.den.c], .agg #[.bool lNeg.num.neg, .slice lNeg.num.A lNeg.num.k lNeg.num.c, .bool lNeg.den.neg, .slice lNeg.den.A lNeg.den.k lNeg.den.c]] : Array Value)); go_must (refine (sameRat_true _ kNeg lNeg (-a) (-a) 5 (by decide) (Sz.neg Hsa.out) (by first | exact HE.out.n.2.1 | exact HE.out.drew.n.2.1) (by first | exact HE.out.n.1 | exact HE.out.drew.n.1) rfl).mono ?_; rintro e w26 ⟨rfl, hb⟩; replace HE := Lib.hid (Env.call (by first | exact HE.out | exact HE.out.drew) hb); replace HE := Lib.hid (HE.out.imp (fun _ h => h) (fun _ h => h.2.2)); replace c := Env.c5 HE.out; clear hb))
            | (go_at_call_of 32 ((#[.agg #[.bool r.num.neg, .slice r.num.A r.num.k r.num.c, .bool r.den.neg, .slice r.den.A r.den.k r.den.c]] : Array Value)); go_must (refine (rabs_any _ r a 5 (by decide) (by decide) (by first | exact HE.out.o.1 | exact HE.out.drew.o.1) (by first | exact HE.out.o.2.2.2.2.2.2.1 | exact HE.out.drew.o.2.2.2.2.2.2.1)).mono ?_; rintro e w27 ⟨kAbs, rfl, hk, hb⟩; replace HE := Lib.hid (Env.ret (by first | exact HE.out | exact HE.out.drew) hk hb); replace c := Env.c5 HE.out; clear hk hb))
            | (go_at_call_of 33 ((#[.agg #[.bool r.num.neg, .slice r.num.A r.num.k r.num.c, .bool r.den.neg, .slice r.den.A r.den.k r.den.c]] : Array Value)); go_must (refine (refabs4_any _ r a 5 (by decide) (by decide) (by first | exact HE.out.o.1 | exact HE.out.drew.o.1)).mono ?_; rintro e w28 ⟨lAbs, rfl, hk, hb⟩; replace HE := Lib.hid (Env.ret (by first | exact HE.out | exact HE.out.drew) hk hb); replace c := Env.c5 HE.out; clear hk hb))
            | (go_at_call_of 15 ((#[.agg #[.bool kAbs.num.neg, .slice kAbs.num.A kAbs.num.k kAbs.num.c, .bool kAbs.den.neg, .slice kAbs.den.A kAbs.den.k kAbs.den.c], .agg #[.bool lAbs.num.neg, .slice lAbs.num.A lAbs.num.k lAbs.num.c, .bool lAbs.den.neg, .slice lAbs.den.A lAbs.den.k lAbs.den.c]] : Array Value)); go_must (refine (sameRat_true _ kAbs lAbs (rabs a) (rabs a) 5 (by decide) (Sz.rabs5 Hsa.out) (by first | exact HE.out.n.2.1 | exact HE.out.drew.n.2.1) (by first | exact HE.out.n.1 | exact HE.out.drew.n.1) rfl).mono ?_; rintro e w29 ⟨rfl, hb⟩; replace HE := Lib.hid (Env.call (by first | exact HE.out | exact HE.out.drew) hb); replace HE := Lib.hid (HE.out.imp (fun _ h => h) (fun _ h => h.2.2)); replace c := Env.c5 HE.out; clear hb))
            | (go_at_call_of 34 ((#[.agg #[.bool r.num.neg, .slice r.num.A r.num.k r.num.c, .bool r.den.neg, .slice r.den.A r.den.k r.den.c], .agg #[.bool s.num.neg, .slice s.num.A s.num.k s.num.c, .bool s.den.neg, .slice s.den.A s.den.k s.den.c]] : Array Value)); go_must (refine (rmax_any _ r s a b 5 (by decide) (by decide) (by first | exact HE.out.o.1 | exact HE.out.drew.o.1) (by first | exact HE.out.o.2.1 | exact HE.out.drew.o.2.1) (by first | exact HE.out.o.2.2.2.2.2.2.1 | exact HE.out.drew.o.2.2.2.2.2.2.1)).mono ?_; rintro e w30 ⟨kMax, rfl, hk, hb⟩; replace HE := Lib.hid (Env.ret (by first | exact HE.out | exact HE.out.drew) hk hb); replace c := Env.c5 HE.out; clear hk hb))
            | (go_at_call_of 35 ((#[.agg #[.bool r.num.neg, .slice r.num.A r.num.k r.num.c, .bool r.den.neg, .slice r.den.A r.den.k r.den.c], .agg #[.bool s.num.neg, .slice s.num.A s.num.k s.num.c, .bool s.den.neg, .slice s.den.A s.den.k s.den.c]] : Array Value)); go_must (refine (refmax4_any _ r s a b 5 (by decide) (by decide) (by first | exact HE.out.o.1 | exact HE.out.drew.o.1) (by first | exact HE.out.o.2.1 | exact HE.out.drew.o.2.1)).mono ?_; rintro e w31 ⟨lMax, rfl, hk, hb⟩; replace HE := Lib.hid (Env.ret (by first | exact HE.out | exact HE.out.drew) hk hb); replace c := Env.c5 HE.out; clear hk hb))
            | (go_at_call_of 15 ((#[.agg #[.bool kMax.num.neg, .slice kMax.num.A kMax.num.k kMax.num.c, .bool kMax.den.neg, .slice kMax.den.A kMax.den.k kMax.den.c], .agg #[.bool lMax.num.neg, .slice lMax.num.A lMax.num.k lMax.num.c, .bool lMax.den.neg, .slice lMax.den.A lMax.den.k lMax.den.c]] : Array Value)); go_must (refine (sameRat_true _ kMax lMax (maxQ a b) (maxQ a b) 5 (by decide) (Sz.max5 Hsa.out Hsb.out) (by first | exact HE.out.n.2.1 | exact HE.out.drew.n.2.1) (by first | exact HE.out.n.1 | exact HE.out.drew.n.1) rfl).mono ?_; rintro e w32 ⟨rfl, hb⟩; replace HE := Lib.hid (Env.call (by first | exact HE.out | exact HE.out.drew) hb); replace HE := Lib.hid (HE.out.imp (fun _ h => h) (fun _ h => h.2.2)); replace c := Env.c5 HE.out; clear hb))
            | (go_at_call_of 36 ((#[.agg #[.bool r.num.neg, .slice r.num.A r.num.k r.num.c, .bool r.den.neg, .slice r.den.A r.den.k r.den.c], .agg #[.bool s.num.neg, .slice s.num.A s.num.k s.num.c, .bool s.den.neg, .slice s.den.A s.den.k s.den.c]] : Array Value)); go_must (refine (rmin_any _ r s a b 5 (by decide) (by decide) (by first | exact HE.out.o.1 | exact HE.out.drew.o.1) (by first | exact HE.out.o.2.1 | exact HE.out.drew.o.2.1) (by first | exact HE.out.o.2.2.2.2.2.2.1 | exact HE.out.drew.o.2.2.2.2.2.2.1)).mono ?_; rintro e w33 ⟨kMin, rfl, hk, hb⟩; replace HE := Lib.hid (Env.ret (by first | exact HE.out | exact HE.out.drew) hk hb); replace c := Env.c5 HE.out; clear hk hb))
            | (go_at_call_of 37 ((#[.agg #[.bool r.num.neg, .slice r.num.A r.num.k r.num.c, .bool r.den.neg, .slice r.den.A r.den.k r.den.c], .agg #[.bool s.num.neg, .slice s.num.A s.num.k s.num.c, .bool s.den.neg, .slice s.den.A s.den.k s.den.c]] : Array Value)); go_must (refine (refmin4_any _ r s a b 5 (by decide) (by decide) (by first | exact HE.out.o.1 | exact HE.out.drew.o.1) (by first | exact HE.out.o.2.1 | exact HE.out.drew.o.2.1)).mono ?_; rintro e w34 ⟨lMin, rfl, hk, hb⟩; replace HE := Lib.hid (Env.ret (by first | exact HE.out | exact HE.out.drew) hk hb); replace c := Env.c5 HE.out; clear hk hb))
            | (go_at_call_of 15 ((#[.agg #[.bool kMin.num.neg, .slice kMin.num.A kMin.num.k kMin.num.c, .bool kMin.den.neg, .slice kMin.den.A kMin.den.k kMin.den.c], .agg #[.bool lMin.num.neg, .slice lMin.num.A lMin.num.k lMin.num.c, .bool lMin.den.neg, .slice lMin.den.A lMin.den.k lMin.den.c]] : Array Value)); go_must (refine (sameRat_true _ kMin lMin (minQ a b) (minQ a b) 5 (by decide) (Sz.min5 Hsa.out Hsb.out) (by first | exact HE.out.n.2.1 | exact HE.out.drew.n.2.1) (by first | exact HE.out.n.1 | exact HE.out.drew.n.1) rfl).mono ?_; rintro e w35 ⟨rfl, hb⟩; replace HE := Lib.hid (Env.call (by first | exact HE.out | exact HE.out.drew) hb); replace HE := Lib.hid (HE.out.imp (fun _ h => h) (fun _ h => h.2.2)); replace c := Env.c5 HE.out; clear hb)))
        go_wp2_with fail
        go_meet
        exact ⟨rfl, Lib.hid (HE.out.imp (fun _ h => h) fun _ h => h)⟩
      case rest =>
        clear HE c
        obtain ⟨rfl, HE⟩ := hcut
        have c := Env.c5 HE.out
        have hcz := cmpQ_zero a b
        obtain ⟨TX, hTX⟩ : ∃ TX : ByteArray, strV (ratText a) = .string TX := ⟨_, rfl⟩
        have HTX := Lib.hid hTX
        clear hTX
        go_upto_region 8 with fail
        go_cut [14] (fun p wx => p = .bool true ∧ Hid (Env w [⟨g10, 31, #[.bool q.num.neg, .slice q.num.A q.num.k q.num.c, .bool q.den.neg, .slice q.den.A q.den.k q.den.c]⟩, ⟨g8, 31, #[.bool v.num.neg, .slice v.num.A v.num.k v.num.c, .bool v.den.neg, .slice v.den.A v.den.k v.den.c]⟩, ⟨g7, 31, #[.bool u.num.neg, .slice u.num.A u.num.k u.num.c, .bool u.den.neg, .slice u.den.A u.den.k u.den.c]⟩, ⟨w.heap.size + 1, 31, #[.bool s.num.neg, .slice s.num.A s.num.k s.num.c, .bool s.den.neg, .slice s.den.A s.den.k s.den.c]⟩, ⟨w.heap.size, 31, #[.bool r.num.neg, .slice r.num.A r.num.k r.num.c, .bool r.den.neg, .slice r.den.A r.den.k r.den.c]⟩] (fun V => RatD r a 5 V ∧ RatD s b 5 V ∧ IntD r.num x 5 V ∧ IntD r.den y 5 V ∧ Raw r n1 n2 l1 l2 V ∧ Raw s n3 n4 l3 l4 V ∧ Tz V ∧ Tab V) (fun V => RatN q (a / b) V ∧ Raw v n3 n4 l3 l4 V ∧ Raw u n1 n2 l1 l2 V) wx))
        case first => as_aux_lemma =>
          go_region_held3 (fun W => CB (w.heap.size + 1) #[.bool s.num.neg, .slice s.num.A s.num.k s.num.c, .bool s.den.neg, .slice s.den.A s.den.k s.den.c] W ∧ CB (w.heap.size) #[.bool r.num.neg, .slice r.num.A r.num.k r.num.c, .bool r.den.neg, .slice r.den.A r.den.k r.den.c] W) (first | with_reducible exact ⟨c.2.2.2.1, c.2.2.2.2⟩ | ((repeat' apply And.intro) <;> go_keep) | exact ⟨c.2.2.2.1, c.2.2.2.2⟩)
            (first
              | (go_at_call 38; go_must (refine (rsign_any _ r a 5 (by decide) (by first | exact HE.out.o.1 | exact HE.out.drew.o.1)).mono ?_; rintro e w36 ⟨rfl, hb⟩; replace HE := Lib.hid (Env.call (by first | exact HE.out | exact HE.out.drew) hb); replace c := Env.c5 HE.out; clear hb))
              | (go_at_call 25; go_must (refine (refsign4_any _ r a 5 (by decide) (by decide) (by first | exact HE.out.o.1 | exact HE.out.drew.o.1)).mono ?_; rintro e w37 ⟨rfl, hb⟩; replace HE := Lib.hid (Env.call (by first | exact HE.out | exact HE.out.drew) hb); replace c := Env.c5 HE.out; clear hb))
              | (go_at_call 39; go_must (refine (rcmp_any _ r s a b 5 (by decide) (by decide) (by first | exact HE.out.o.1 | exact HE.out.drew.o.1) (by first | exact HE.out.o.2.1 | exact HE.out.drew.o.2.1)).mono ?_; rintro e w38 ⟨rfl, hb⟩; replace HE := Lib.hid (Env.call (by first | exact HE.out | exact HE.out.drew) hb); replace c := Env.c5 HE.out; clear hb))
              | (go_at_call 40; go_must (refine (refcmp4_any _ r s a b 5 (by decide) (by decide) (by first | exact HE.out.o.1 | exact HE.out.drew.o.1) (by first | exact HE.out.o.2.1 | exact HE.out.drew.o.2.1)).mono ?_; rintro e w39 ⟨rfl, hb⟩; replace HE := Lib.hid (Env.call (by first | exact HE.out | exact HE.out.drew) hb); replace c := Env.c5 HE.out; clear hb; rw [cmpQ_sub]))
              | (go_at_call 41; go_must (refine (rsame_any _ r s a b 5 (by decide) (by decide) (by first | exact HE.out.o.1 | exact HE.out.drew.o.1) (by first | exact HE.out.o.2.1 | exact HE.out.drew.o.2.1)).mono ?_; rintro e w40 ⟨rfl, hb⟩; replace HE := Lib.hid (Env.call (by first | exact HE.out | exact HE.out.drew) hb); replace c := Env.c5 HE.out; clear hb))
              | (go_at_call 42; go_must (refine (rwholeis_any _ r a 5 (by decide) (by decide) (by first | exact HE.out.o.1 | exact HE.out.drew.o.1)).mono ?_; rintro e w41 ⟨rfl, hb⟩; replace HE := Lib.hid (Env.call (by first | exact HE.out | exact HE.out.drew) hb); replace c := Env.c5 HE.out; clear hb))
              | (go_at_call 26; go_must (refine (refnorm4_any _ r a 5 (by decide) (by decide) (by first | exact HE.out.o.1 | exact HE.out.drew.o.1)).mono ?_; rintro e w42 ⟨kw, rfl, hk, hb⟩; replace HE := Lib.hid (Env.ret (by first | exact HE.out | exact HE.out.drew) hk hb); replace c := Env.c5 HE.out; clear hk hb; have hkk := den_zero HE.out.n.1; replace HE := Lib.hid (HE.out.imp (fun _ h => h) (fun _ h => h.2))))
              | (go_at_call 44; go_must (refine (rfloor_any _ r a 5 (by decide) (by decide) (by first | exact HE.out.o.1 | exact HE.out.drew.o.1)).mono ?_; rintro e w43 ⟨kFloor, rfl, hk, hb⟩; replace HE := Lib.hid (Env.ret (by first | exact HE.out | exact HE.out.drew) hk hb); replace c := Env.c5 HE.out; clear hk hb))
              | (go_at_call 45; go_must (refine (reffloor4_any _ r a 5 (by decide) (by decide) (by first | exact HE.out.o.1 | exact HE.out.drew.o.1)).mono ?_; rintro e w44 ⟨lFloor, rfl, hk, hb⟩; replace HE := Lib.hid (Env.ret (by first | exact HE.out | exact HE.out.drew) hk hb); replace c := Env.c5 HE.out; clear hk hb))
              | (go_at_call_of 43 ((#[.agg #[.bool kFloor.neg, .slice kFloor.A kFloor.k kFloor.c], .agg #[.bool lFloor.neg, .slice lFloor.A lFloor.k lFloor.c]] : Array Value)); go_must (refine (sameInt_any _ kFloor lFloor a.floor a.floor (by first | exact HE.out.n.2.1 | exact HE.out.drew.n.2.1) (by first | exact HE.out.n.1 | exact HE.out.drew.n.1) (dlen_big (floor_small Hsa.out) (by decide))).mono ?_; rintro e w45 ⟨rfl, hb⟩; replace HE := Lib.hid (Env.call (by first | exact HE.out | exact HE.out.drew) hb); replace HE := Lib.hid (HE.out.imp (fun _ h => h) (fun _ h => h.2.2)); replace c := Env.c5 HE.out; clear hb; rw [decide_eq_true rfl]))
              | (go_at_call 46; go_must (refine (rceil_any _ r a 5 (by decide) (by decide) (by first | exact HE.out.o.1 | exact HE.out.drew.o.1)).mono ?_; rintro e w46 ⟨kCeil, rfl, hk, hb⟩; replace HE := Lib.hid (Env.ret (by first | exact HE.out | exact HE.out.drew) hk hb); replace c := Env.c5 HE.out; clear hk hb))
              | (go_at_call 47; go_must (refine (refceil4_any _ r a 5 (by decide) (by decide) (by first | exact HE.out.o.1 | exact HE.out.drew.o.1)).mono ?_; rintro e w47 ⟨lCeil, rfl, hk, hb⟩; replace HE := Lib.hid (Env.ret (by first | exact HE.out | exact HE.out.drew) hk hb); replace c := Env.c5 HE.out; clear hk hb))
              | (go_at_call_of 43 ((#[.agg #[.bool kCeil.neg, .slice kCeil.A kCeil.k kCeil.c], .agg #[.bool lCeil.neg, .slice lCeil.A lCeil.k lCeil.c]] : Array Value)); go_must (refine (sameInt_any _ kCeil lCeil (ceilQ a) (ceilQ a) (by first | exact HE.out.n.2.1 | exact HE.out.drew.n.2.1) (by first | exact HE.out.n.1 | exact HE.out.drew.n.1) (dlen_big (ceil_small Hsa.out) (by decide))).mono ?_; rintro e w48 ⟨rfl, hb⟩; replace HE := Lib.hid (Env.call (by first | exact HE.out | exact HE.out.drew) hb); replace HE := Lib.hid (HE.out.imp (fun _ h => h) (fun _ h => h.2.2)); replace c := Env.c5 HE.out; clear hb; rw [decide_eq_true rfl]))
              | (go_at_call 48; go_must (refine (rtext_any _ r a 5 (by decide) (by decide) (by first | exact HE.out.o.1 | exact HE.out.drew.o.1) (by first | exact HE.out.o.2.2.2.2.2.2.1 | exact HE.out.drew.o.2.2.2.2.2.2.1) (by first | exact HE.out.o.2.2.2.2.2.2.2 | exact HE.out.drew.o.2.2.2.2.2.2.2)).mono ?_; rintro e w49 ⟨rfl, hb⟩; replace HE := Lib.hid (Env.call (by first | exact HE.out | exact HE.out.drew) hb); replace c := Env.c5 HE.out; clear hb; rw [HTX.out]))
              | (go_at_call 49; go_must (refine (reftext4_any _ r a 5 (by decide) (by decide) (by first | exact HE.out.o.1 | exact HE.out.drew.o.1)).mono ?_; rintro e w50 ⟨rfl, hb⟩; replace HE := Lib.hid (Env.call (by first | exact HE.out | exact HE.out.drew) hb); replace c := Env.c5 HE.out; clear hb; rw [HTX.out])))
          go_wp2_with fail
          go_meet
          exact ⟨rfl, Lib.hid (HE.out.imp (fun _ h => h) fun _ h => h)⟩
        case rest =>
          clear HE c hcz HTX TX
          obtain ⟨rfl, HE⟩ := hcut
          have Hpz := Lib.hid (parseR_sz4 t.data.toList)
          have HP1 := Lib.hid (fun W (h : Tz W) => rparse_ok W t (by have := Hlen.out; omega) h)
          have HP2 := Lib.hid (fun W => refparse4_any W t (by have := Hlen.out; omega))
          generalize parseR t.data.toList = pq at *
          go_wp2_with fail
          refine (HP1.out _ (by first | exact HE.out.o.2.2.2.2.2.2.1 | exact HE.out.drew.o.2.2.2.2.2.2.1)).mono ?_
          rintro e w5 ⟨p1, rfl, hk, hb⟩
          replace HE := Lib.hid (Env.ret (by first | exact HE.out | exact HE.out.drew) hk hb)
          clear hk hb HP1
          go_wp2_with fail
          obtain ⟨W6, g15, hW6, hg15, HE⟩ := Env.al HE.out 31 #[.bool p1.num.neg, .slice p1.num.A p1.num.k p1.num.c, .bool p1.den.neg, .slice p1.den.A p1.den.k p1.den.c]
          rw [hW6, hg15]
          clear hW6 hg15
          refine (HP2.out _).mono ?_
          rintro e w7 ⟨p2, rfl, hk, hb⟩
          replace HE := Lib.hid (Env.ret (by first | exact HE.out | exact HE.out.drew) hk hb)
          clear hk hb HP2
          go_upto_region 11 with fail
          obtain ⟨W8, g17, hW8, hg17, HE⟩ := Env.al HE.out 31 #[.bool p2.num.neg, .slice p2.num.A p2.num.k p2.num.c, .bool p2.den.neg, .slice p2.den.A p2.den.k p2.den.c]
          rw [hW8, hg17]
          clear hW8 hg17
          have c := Env.c7 HE.out
          replace dd := Env.d7 HE.out
          go_wp2_with fail
          refine (sameRat_true _ p1 p2 pq.2 pq.2 100 (by decide) Hpz.out (by first | exact HE.out.n.2.1 | exact HE.out.drew.n.2.1) (by first | exact HE.out.n.1 | exact HE.out.drew.n.1) rfl).mono ?_
          rintro e w9 ⟨rfl, hb⟩
          replace HE := Lib.hid (Env.call (by first | exact HE.out | exact HE.out.drew) hb)
          replace c := Env.c7 HE.out
          clear hb
          go_wp2_with fail
          refine (sameRat_raw _ u r n1 n2 l1 l2 Hl1.out Hl2.out (by first | exact HE.out.n.2.2.2.2 | exact HE.out.drew.n.2.2.2.2) (by first | exact HE.out.o.2.2.2.2.1 | exact HE.out.drew.o.2.2.2.2.1)).mono ?_
          rintro e w9 ⟨rfl, hb⟩
          replace HE := Lib.hid (Env.call (by first | exact HE.out | exact HE.out.drew) hb)
          replace c := Env.c7 HE.out
          clear hb
          go_wp2_with fail
          refine (sameRat_raw _ v s n3 n4 l3 l4 Hl3.out Hl4.out (by first | exact HE.out.n.2.2.2.1 | exact HE.out.drew.n.2.2.2.1) (by first | exact HE.out.o.2.2.2.2.2.1 | exact HE.out.drew.o.2.2.2.2.2.1)).mono ?_
          rintro e w9 ⟨rfl, hb⟩
          replace HE := Lib.hid (Env.call (by first | exact HE.out | exact HE.out.drew) hb)
          replace c := Env.c7 HE.out
          clear hb
          go_wp2_with fail
          refine (awake_any _ (by first | exact HE.out.o.2.2.2.2.2.2.1 | exact HE.out.drew.o.2.2.2.2.2.2.1) (by first | exact HE.out.o.2.2.2.2.2.2.2 | exact HE.out.drew.o.2.2.2.2.2.2.2)).mono ?_
          rintro e w9 ⟨rfl, hb⟩
          replace HE := Lib.hid (Env.call (by first | exact HE.out | exact HE.out.drew) hb)
          clear hb c
          go_wp2_with fail
          go_ret
          exact ⟨rfl, HE.out.bel⟩
set_option maxRecDepth 100000 in
set_option maxHeartbeats 2000000 in
theorem rtells_l0 (w : World) (r s : RV) (t : ByteArray) (hT : Tz w) (ht : Tab w) (hs1 : shortR r 5 = false) :
    Calls Tryz.prog 4 #[.agg #[.bool r.num.neg, .slice r.num.A r.num.k r.num.c, .bool r.den.neg, .slice r.den.A r.den.k r.den.c], .agg #[.bool s.num.neg, .slice s.num.A s.num.k s.num.c, .bool s.den.neg, .slice s.den.A s.den.k s.den.c], .string t] w fun e w' => e = .returned (.bool true) ∧ Below w.heap.size w w' := by
  have Hs1 := Lib.hid hs1
  obtain ⟨W0, hW0⟩ : ∃ W0, W0 = ((w.alloc (.cells #[.bool r.num.neg, .slice r.num.A r.num.k r.num.c, .bool r.den.neg, .slice r.den.A r.den.k r.den.c] 31)).alloc (.cells #[.bool s.num.neg, .slice s.num.A s.num.k s.num.c, .bool s.den.neg, .slice s.den.A s.den.k s.den.c] 31)) := ⟨_, rfl⟩
  have HE := Lib.hid (Env.lay2 (Env.start ((hT.old).and (ht.old))) hW0)
  subst hW0
  have c := Env.c2 HE.out
  have dd := Env.d2 HE.out
  clear hs1 hT ht
  go_enter Tryz.func4, Tryz.ntmps4
  go_wp2_with fail
  refine (shortRat_any _ r 5).mono ?_
  rintro e w1 ⟨rfl, hb⟩
  replace HE := Lib.hid (Env.call (by first | exact HE.out | exact HE.out.drew) hb)
  replace c := Env.c2 HE.out
  clear hb
  rw [Hs1.out]
  go_wp2_with fail
  refine (awake_any _ (by first | exact HE.out.o.1 | exact HE.out.drew.o.1) (by first | exact HE.out.o.2 | exact HE.out.drew.o.2)).mono ?_
  rintro e w9 ⟨rfl, hb⟩
  replace HE := Lib.hid (Env.call (by first | exact HE.out | exact HE.out.drew) hb)
  clear hb c
  go_wp2_with fail
  go_ret
  exact ⟨rfl, HE.out.bel⟩
set_option maxRecDepth 100000 in
set_option maxHeartbeats 2000000 in
theorem rtells_l1 (w : World) (r s : RV) (t : ByteArray) (hT : Tz w) (ht : Tab w) (hs1 : shortR r 5 = true) (hs2 : shortR s 5 = false) :
    Calls Tryz.prog 4 #[.agg #[.bool r.num.neg, .slice r.num.A r.num.k r.num.c, .bool r.den.neg, .slice r.den.A r.den.k r.den.c], .agg #[.bool s.num.neg, .slice s.num.A s.num.k s.num.c, .bool s.den.neg, .slice s.den.A s.den.k s.den.c], .string t] w fun e w' => e = .returned (.bool true) ∧ Below w.heap.size w w' := by
  have Hs1 := Lib.hid hs1
  have Hs2 := Lib.hid hs2
  obtain ⟨W0, hW0⟩ : ∃ W0, W0 = ((w.alloc (.cells #[.bool r.num.neg, .slice r.num.A r.num.k r.num.c, .bool r.den.neg, .slice r.den.A r.den.k r.den.c] 31)).alloc (.cells #[.bool s.num.neg, .slice s.num.A s.num.k s.num.c, .bool s.den.neg, .slice s.den.A s.den.k s.den.c] 31)) := ⟨_, rfl⟩
  have HE := Lib.hid (Env.lay2 (Env.start ((hT.old).and (ht.old))) hW0)
  subst hW0
  have c := Env.c2 HE.out
  have dd := Env.d2 HE.out
  clear hs1 hs2 hT ht
  go_enter Tryz.func4, Tryz.ntmps4
  go_wp2_with fail
  refine (shortRat_any _ r 5).mono ?_
  rintro e w1 ⟨rfl, hb⟩
  replace HE := Lib.hid (Env.call (by first | exact HE.out | exact HE.out.drew) hb)
  replace c := Env.c2 HE.out
  clear hb
  rw [Hs1.out]
  go_wp2_with fail
  refine (shortRat_any _ s 5).mono ?_
  rintro e w1 ⟨rfl, hb⟩
  replace HE := Lib.hid (Env.call (by first | exact HE.out | exact HE.out.drew) hb)
  replace c := Env.c2 HE.out
  clear hb
  rw [Hs2.out]
  go_wp2_with fail
  refine (awake_any _ (by first | exact HE.out.o.1 | exact HE.out.drew.o.1) (by first | exact HE.out.o.2 | exact HE.out.drew.o.2)).mono ?_
  rintro e w9 ⟨rfl, hb⟩
  replace HE := Lib.hid (Env.call (by first | exact HE.out | exact HE.out.drew) hb)
  clear hb c
  go_wp2_with fail
  go_ret
  exact ⟨rfl, HE.out.bel⟩
set_option maxRecDepth 100000 in
set_option maxHeartbeats 2000000 in
theorem rtells_l2 (w : World) (r s : RV) (t : ByteArray) (hT : Tz w) (ht : Tab w) (hs1 : shortR r 5 = true) (hs2 : shortR s 5 = true) (hl : 1300 < t.size) :
    Calls Tryz.prog 4 #[.agg #[.bool r.num.neg, .slice r.num.A r.num.k r.num.c, .bool r.den.neg, .slice r.den.A r.den.k r.den.c], .agg #[.bool s.num.neg, .slice s.num.A s.num.k s.num.c, .bool s.den.neg, .slice s.den.A s.den.k s.den.c], .string t] w fun e w' => e = .returned (.bool true) ∧ Below w.heap.size w w' := by
  have Hs1 := Lib.hid hs1
  have Hs2 := Lib.hid hs2
  have hl' : (1300 : Int) < (t.size : Int) := by omega
  obtain ⟨W0, hW0⟩ : ∃ W0, W0 = ((w.alloc (.cells #[.bool r.num.neg, .slice r.num.A r.num.k r.num.c, .bool r.den.neg, .slice r.den.A r.den.k r.den.c] 31)).alloc (.cells #[.bool s.num.neg, .slice s.num.A s.num.k s.num.c, .bool s.den.neg, .slice s.den.A s.den.k s.den.c] 31)) := ⟨_, rfl⟩
  have HE := Lib.hid (Env.lay2 (Env.start ((hT.old).and (ht.old))) hW0)
  subst hW0
  have c := Env.c2 HE.out
  have dd := Env.d2 HE.out
  clear hs1 hs2 hl hT ht
  go_enter Tryz.func4, Tryz.ntmps4
  go_wp2_with fail
  refine (shortRat_any _ r 5).mono ?_
  rintro e w1 ⟨rfl, hb⟩
  replace HE := Lib.hid (Env.call (by first | exact HE.out | exact HE.out.drew) hb)
  replace c := Env.c2 HE.out
  clear hb
  rw [Hs1.out]
  go_wp2_with fail
  refine (shortRat_any _ s 5).mono ?_
  rintro e w1 ⟨rfl, hb⟩
  replace HE := Lib.hid (Env.call (by first | exact HE.out | exact HE.out.drew) hb)
  replace c := Env.c2 HE.out
  clear hb
  rw [Hs2.out]
  go_wp2_with fail
  refine (awake_any _ (by first | exact HE.out.o.1 | exact HE.out.drew.o.1) (by first | exact HE.out.o.2 | exact HE.out.drew.o.2)).mono ?_
  rintro e w9 ⟨rfl, hb⟩
  replace HE := Lib.hid (Env.call (by first | exact HE.out | exact HE.out.drew) hb)
  clear hb c
  go_wp2_with fail
  go_ret
  exact ⟨rfl, HE.out.bel⟩
theorem IntD.raw {i : IV} {z : Int} {n : Nat} {w : World} (h : IntD i z n w) : ∃ l : List Nat, i.k = l.length ∧ Rd w .u64 i.A l := by
  obtain ⟨l, h1, h2, -, -⟩ := h.ex
  exact ⟨l, h1, h2⟩
/-- the law at whatever two fractions and text -/
theorem ratioTells_any (w : World) (r : RV) (x y : Int) (hx : IntD r.num x r.num.k w) (hy : IntD r.den y r.den.k w) (s : RV) (x' y' : Int) (hx' : IntD s.num x' s.num.k w) (hy' : IntD s.den y' s.den.k w) (t : ByteArray) (_ht : t.size ≤ maxLen) (hT : Tz w) (ht : Tab w) :
    Calls Tryz.prog 4 #[.agg #[.bool r.num.neg, .slice r.num.A r.num.k r.num.c, .bool r.den.neg, .slice r.den.A r.den.k r.den.c], .agg #[.bool s.num.neg, .slice s.num.A s.num.k s.num.c, .bool s.den.neg, .slice s.den.A s.den.k s.den.c], .string t] w fun e w' => e = .returned (.bool true) ∧ Below w.heap.size w w' := by
  cases hs1 : shortR r 5
  · exact rtells_l0 w r s t hT ht hs1
  cases hs2 : shortR s 5
  · exact rtells_l1 w r s t hT ht hs1 hs2
  by_cases hl : 1300 < t.size
  · exact rtells_l2 w r s t hT ht hs1 hs2 hl
  have h1 := hs1; have h2 := hs2
  unfold shortR at h1 h2
  simp only [Bool.and_eq_true, decide_eq_true_eq] at h1 h2
  obtain ⟨l1, e1, d1⟩ := hx.raw
  obtain ⟨l2, e2, d2⟩ := hy.raw
  obtain ⟨l3, e3, d3⟩ := hx'.raw
  obtain ⟨l4, e4, d4⟩ := hy'.raw
  exact rtells_short w r s _ _ x y _ _ _ _ l1 l2 l3 l4 t ⟨x, y, hx.mono h1.1, hy.mono h1.2, rfl⟩ ⟨x', y', hx'.mono h2.1, hy'.mono h2.2, rfl⟩ (hx.mono h1.1) (hy.mono h1.2)
    ⟨rfl, e1, d1, rfl, e2, d2⟩ ⟨rfl, e3, d3, rfl, e4, d4⟩ (by omega) (by omega) (by omega) (by omega) hT ht hs1 hs2 hl
end Go.Proofs.YtcinoicpibleoaaGreatDoor
namespace Go.Proofs.YtcinoicpibleoaaGreatDoor.ratioTells
open Go.ChangeShapes Go.WideShapes Go.ChangeAt Go.RowKit Go.ChangeMaps

set_option maxRecDepth 100000 in
theorem contract (H : Type) (enc : TypeId × Value → H) (W : World) (base : Nat) (args : Array Value) (ds gs : List (DataW H)) (before : List MemPlace)
    (hval : ∀ (j : Nat) t v, Tryz.f4.params[j]? = some t → args[j]? = some v → Value.okWide Tryz.prog W .any base t v)
    (hW : DataW.Whole enc Tryz.prog Tryz.f4.params.toList Rows.ratioTellsSpec.vars false W args.toList ds gs before) (hL : laidMetH Tryz.prog Rows.ratioTellsRow.laid W) :
    Calls Tryz.prog 4 args W fun e W' => ∃ v, e = .returned v ∧ Rows.ratioTellsSpec.post enc Tryz.prog Tryz.f4 false true false false W args v W' := by
  have hW' := hW
  have hlt := hW.lt
  obtain ⟨p, q, hA, hV, rfl, hfz, hnd⟩ := hW
  obtain ⟨rfl, rfl⟩ := trodVars_none hV
  rw [Tryz.params4] at hA
  obtain ⟨v0, vs0, d0, ds0, p0, q0, hargs, rfl, rfl, h0, t0⟩ := trodAll_cons hA
  obtain ⟨v1, vs1, d1, ds1, p1, q1, rfl, rfl, rfl, h1, t1⟩ := trodAll_cons t0
  obtain ⟨v2, vs2, d2, ds2, p2, q2, rfl, rfl, rfl, h2, t2⟩ := trodAll_cons t1
  obtain ⟨rfl, rfl, rfl⟩ := trodAll_nil t2
  obtain rfl : args = #[v0, v1, v2] := by cases args; simp_all
  obtain ⟨r0, rfl, x0, y0, hx0, hy0⟩ := rat_arg (hval 0 _ v0 (by rw [Tryz.params4]; rfl) rfl) h0
  obtain ⟨r1, rfl, x1, y1, hx1, hy1⟩ := rat_arg (hval 1 _ v1 (by rw [Tryz.params4]; rfl) rfl) h1
  obtain ⟨s2, rfl, -, -, ws2⟩ := open_string Tryz.underlying9 (hval 2 _ v2 (by rw [Tryz.params4]; rfl) rfl) h2
  refine (ratioTells_any W r0 x0 y0 hx0 hy0 r1 x1 y1 hx1 hy1 s2 ws2 (tz_of hL) (tab_of hL)).mono fun e W' ⟨he, hb⟩ => ?_
  subst he
  exact ⟨_, rfl, post_kept hW' rfl rfl rfl hb (by rw [Tryz.params4]; simpa only [List.append_nil] using trodAll_cons_mk (keep_rat h0 hb (fun x hx => hlt x (by simp [hx]))) (trodAll_cons_mk (keep_rat h1 hb (fun x hx => hlt x (by simp [hx]))) (trodAll_cons_mk (keep_str h2 hb (fun x hx => hlt x (by simp [hx]))) (trodAll_mk0))))⟩

theorem laid_met (os : Os) : laidMet Tryz.prog Rows.ratioTellsRow.laid ((laidWorld os).forCall (fun _ _ => 0) ⟨#[], #[.agg #[.bool false, .slice none 0 0, .bool false, .slice none 0 0], .agg #[.bool false, .slice none 0 0, .bool false, .slice none 0 0], .string ⟨#[]⟩], []⟩).memory :=
  laidMet_of_run' 8 (by kernel_rfl) (by kernel_rfl)
theorem reads (os : Os) {H : Type} (enc : TypeId × Value → H) : ∃ places, DataW.whole enc Tryz.prog ((laidWorld os).forCall (fun _ _ => 0) ⟨#[], #[.agg #[.bool false, .slice none 0 0, .bool false, .slice none 0 0], .agg #[.bool false, .slice none 0 0, .bool false, .slice none 0 0], .string ⟨#[]⟩], []⟩).memory Tryz.f4.params.toList Rows.ratioTellsSpec.vars false (#[.agg #[.bool false, .slice none 0 0, .bool false, .slice none 0 0], .agg #[.bool false, .slice none 0 0, .bool false, .slice none 0 0], .string ⟨#[]⟩] : Array Value).toList 8 = some ([.agg [.agg [.lit (.bool false), .nil], .agg [.lit (.bool false), .nil]], .agg [.agg [.lit (.bool false), .nil], .agg [.lit (.bool false), .nil]], .lit (.string [])], [], places) :=
  ⟨[], by kernel_rfl⟩

set_option maxRecDepth 100000 in
theorem lifted (os : Os) (started : os.Started) (H : Type) (enc : TypeId × Value → H) (F : Stop.Interp) :
    ReturnsInHanded {} Tryz.checked os 4 .any ((OpenSpec.ofChange Rows.ratioTellsSpec).preRow enc Tryz.prog Tryz.f4 Rows.ratioTellsRow.domain false Rows.ratioTellsRow.laid) (((OpenSpec.ofChange Rows.ratioTellsSpec).at F).post enc Tryz.prog Tryz.f4 false true false false) := by
  obtain ⟨places, hx⟩ := reads os enc
  refine returnsInHanded_of_row (C := Tryz.checked) (s := OpenSpec.ofChange Rows.ratioTellsSpec) own started (by kernel_rfl) Tryz.func4
    (witness_row_at (enc := enc) (C := Tryz.checked) false (laidWorld os) #[.agg #[.bool false, .slice none 0 0, .bool false, .slice none 0 0], .agg #[.bool false, .slice none 0 0, .bool false, .slice none 0 0], .string ⟨#[]⟩] rfl (by kernel_rfl) (by kernel_rfl) (by kernel_rfl)
      (OpenSpec.preRow_of_cond 8 hx (by kernel_rfl) (fun k hk => by cases hk) (by kernel_rfl) (laid_met os))) ?_
  intro W base args ds gs before hval hW _ _ _ hL _ _
  exact contract H enc W base args ds gs before hval hW hL

theorem and_tr {a b : Bool} (h : a = true) (h' : b = true) : (a && b) = true := by rw [h, h']; rfl
set_option maxHeartbeats 4000000 in
/-- the row's closed facts, one by one -/
theorem closed : joinedFacts Tryz.pinned.checked.prog 4 Tryz.f4 (OpenSpec.ofChange Rows.ratioTellsSpec).bare Rows.ratioTellsRow = true := by
  unfold joinedFacts
  repeat' (with_reducible refine and_tr ?_ ?_)
  all_goals (as_aux_lemma => kernel_rfl)
theorem said : Rows.RatioTellsSaid :=
  OpenClaim.holds_of_cond 4 Tryz.f4 rfl rfl rfl rfl rfl rfl rfl ⟨rfl, rfl, rfl, rfl, rfl⟩ rfl rfl rfl rfl rfl (by kernel_rfl) Tryz.func4 closed
    (of_decide_eq_true (by kernel_rfl)) (by unfold Func.isWrapper; first | (rw [if_pos (by decide +kernel)]; kernel_rfl) | (rw [if_neg (by decide +kernel)]; exact ⟨rfl, rfl⟩))
    (fun os started H enc _ F => by rw [OpenClaim.pre_eq_preRow]; exact lifted os started H enc F)

theorem plain (f : FuncId) (fn : Func) (hf : Tryz.pinned.checked.prog.funcNamed "tripwire/tripwirelaw04.RatioTells" = some f) (hfn : Tryz.pinned.checked.prog.funcs[f]? = some fn) :
    false = Tryz.pinned.checked.prog.looks [] ∧ ∀ (j : Nat) t, fn.params[j]? = some t → Tryz.pinned.checked.prog.wantsStandIn t = false := by
  obtain rfl : f = 4 := Option.some.inj ((show Tryz.prog.funcNamed "tripwire/tripwirelaw04.RatioTells" = some 4 by kernel_rfl).symm.trans hf) |>.symm
  obtain rfl : fn = Tryz.f4 := (Option.some.inj (Tryz.func4.symm.trans hfn)).symm
  refine ⟨by kernel_rfl, fun j t ht => ?_⟩
  rw [Tryz.params4] at ht
  match j, ht with
  | 0, ht => have e := Option.some.inj ht; rw [← e]; exact (show Tryz.prog.wantsStandIn 31 = false by kernel_rfl)
  | 1, ht => have e := Option.some.inj ht; rw [← e]; exact (show Tryz.prog.wantsStandIn 31 = false by kernel_rfl)
  | 2, ht => have e := Option.some.inj ht; rw [← e]; exact (show Tryz.prog.wantsStandIn 9 = false by kernel_rfl)
  | n + 3, ht => simp at ht

theorem card : Rows.RatioTellsCardSaid :=
  Claim7.holds_tied_plain_at .later [] _ _ _ _ said (fun _ h => by cases h) (by kernel_rfl) (fun _ h => by cases h) ratioTells_row_tie rfl ⟨rfl, rfl⟩ (by kernel_rfl) rfl plain (by kernel_rfl)
end Go.Proofs.YtcinoicpibleoaaGreatDoor.ratioTells
#print axioms Go.Proofs.YtcinoicpibleoaaGreatDoor.ratioTells.card
