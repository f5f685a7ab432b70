/-
  tripwirelaw04.RatioField: the walk.
-/
import Derived.Test.YthffandpjjnkhaaGreatDoorSE
import Derived.Deep.DeepMust
import Derived.Deep.DeepCutAuto
namespace Go.Proofs.YthffandpjjnkhaaGreatDoor
open Go.RowKit

/-- an operation of a drawn region that reads or moves, or is not wanted, taken first; its slot told -/
theorem held_take {P : Program} {md : Region.Mode} {ops : Array Oper} {Q : Exit → Act → World → Prop} {S : World → Prop} {i : Nat} {oi : Oper} {v : Value} {fuel : Nat} {listed : Array Bool} {a : Act} {w : World} (d : Option Nat) (hi : ops[i]? = some oi) (hd : oi.dst = d)
    (hs : Region.noSelect ops = true) (hf : Region.free md ops listed i = true) (hr : (Region.ready md ops listed).contains i = true)
    (hQ : ∀ c a w, Q (.panic c) (a.put d v) w → Q (.panic c) a w) (hy : YieldsIf P ops S oi v a) (hS : S w)
    (h : wpAnyH P md ops Q S fuel (listed.setIfInBounds i true) (a.put d v) w) : wpAnyH P md ops Q S (fuel + 1) listed a w := by
  subst hd; exact wpAnyH_take hi hs hf hr hQ hy hS h
/-- a call that is not wanted -/
theorem held_skip {P : Program} {md : Region.Mode} {ops : Array Oper} {Q : Exit → Act → World → Prop} {S : World → Prop} {i : Nat} {o : Oper} {fuel : Nat} {listed : Array Bool} {a : Act} {w : World} (d : Option Nat) (hi : ops[i]? = some o) (hd : o.dst = d)
    (hr : Region.ready md ops listed = [i]) (hw : Region.wanted o (yielded ops a.tmps) = false) (hS : S w)
    (h : wpAnyH P md ops Q S fuel (listed.setIfInBounds i true) (a.put d undef) w) : wpAnyH P md ops Q S (fuel + 1) listed a w := by
  subst hd
  refine wpAnyH_ready hr (by simp) (AllReadyH.cons hi (fun K hK => ?_) AllReadyH.nil)
  rw [if_neg (by simp [hw])]
  exact hK.out _ _ hS (fun _ => h)
/-- a call that is wanted, the only one that may come up -/
theorem held_call {P : Program} {md : Region.Mode} {ops : Array Oper} {Q : Exit → Act → World → Prop} {S : World → Prop} {i : Nat} {o : Oper} {fuel : Nat} {listed : Array Bool} {a : Act} {w : World} (hi : ops[i]? = some o)
    (hr : Region.ready md ops listed = [i]) (hw : Region.wanted o (yielded ops a.tmps) = true)
    (h : ∀ K : Act → World → Prop, Shut (∀ a w, S w → (S w → wpAnyH P md ops Q S fuel (listed.setIfInBounds i true) a w) → K a w) → Oper.wp P o a w K Q) : wpAnyH P md ops Q S (fuel + 1) listed a w := by
  refine wpAnyH_ready hr (by simp) (AllReadyH.cons hi (fun K hK => ?_) AllReadyH.nil)
  rw [if_pos hw]
  exact h K hK

set_option maxRecDepth 100000 in
set_option maxHeartbeats 2000000 in
theorem field_long (w : World) (ra rb rc : RV) (hz : Tz w) (ht : Tab w) (hsh : (shortR ra 12 && (shortR rb 12 && shortR rc 12)) = false) :
    Calls Tryz.prog 5 #[.agg #[.bool ra.num.neg, .slice ra.num.A ra.num.k ra.num.c, .bool ra.den.neg, .slice ra.den.A ra.den.k ra.den.c], .agg #[.bool rb.num.neg, .slice rb.num.A rb.num.k rb.num.c, .bool rb.den.neg, .slice rb.den.A rb.den.k rb.den.c], .agg #[.bool rc.num.neg, .slice rc.num.A rc.num.k rc.num.c, .bool rc.den.neg, .slice rc.den.A rc.den.k rc.den.c]] w fun e w' => e = .returned (.bool true) ∧ Below w.heap.size w w' := by
  have Hsh := Lib.hid (fun (W : World) => (by have h4 := lshort_any W ra rb rc; rw [hsh] at h4; exact h4 : Calls Tryz.prog 18 #[.agg #[.bool ra.num.neg, .slice ra.num.A ra.num.k ra.num.c, .bool ra.den.neg, .slice ra.den.A ra.den.k ra.den.c], .agg #[.bool rb.num.neg, .slice rb.num.A rb.num.k rb.num.c, .bool rb.den.neg, .slice rb.den.A rb.den.k rb.den.c], .agg #[.bool rc.num.neg, .slice rc.num.A rc.num.k rc.num.c, .bool rc.den.neg, .slice rc.den.A rc.den.k rc.den.c]] W fun e w' => e = .returned (.bool false) ∧ Below W.heap.size W w'))
  have HL := Lib.hid ((((TSt.start hz ht).alloc (.cells #[.bool ra.num.neg, .slice ra.num.A ra.num.k ra.num.c, .bool ra.den.neg, .slice ra.den.A ra.den.k ra.den.c] 36)).alloc (.cells #[.bool rb.num.neg, .slice rb.num.A rb.num.k rb.num.c, .bool rb.den.neg, .slice rb.den.A rb.den.k rb.den.c] 36)).alloc (.cells #[.bool rc.num.neg, .slice rc.num.A rc.num.k rc.num.c, .bool rc.den.neg, .slice rc.den.A rc.den.k rc.den.c] 36))
  clear hz ht hsh
  go_enter Tryz.func5, Tryz.ntmps5
  go_wp2_with fail
  refine (Hsh.out _).mono ?_
  rintro e w0 ⟨rfl, hb1⟩
  replace HL := Lib.hid (HL.out.below hb1)
  clear hb1
  go_wp2_with fail
  refine (awake_any _ HL.out.tz HL.out.tab).mono ?_
  rintro e w2 ⟨rfl, hb2⟩
  replace HL := Lib.hid (HL.out.below hb2)
  clear hb2
  go_wp2_with fail
  go_ret
  exact ⟨rfl, HL.out.bel⟩

set_option maxRecDepth 1000000 in
set_option maxHeartbeats 16000000 in
theorem field_short (w : World) (ra rb rc : RV) (a b c : Rat) (ha : RatD ra a 12 w) (hb : RatD rb b 12 w) (hc : RatD rc c 12 w) (hz : Tz w) (ht : Tab w) (hsh : (shortR ra 12 && (shortR rb 12 && shortR rc 12)) = true) :
    Calls Tryz.prog 5 #[.agg #[.bool ra.num.neg, .slice ra.num.A ra.num.k ra.num.c, .bool ra.den.neg, .slice ra.den.A ra.den.k ra.den.c], .agg #[.bool rb.num.neg, .slice rb.num.A rb.num.k rb.num.c, .bool rb.den.neg, .slice rb.den.A rb.den.k rb.den.c], .agg #[.bool rc.num.neg, .slice rc.num.A rc.num.k rc.num.c, .bool rc.den.neg, .slice rc.den.A rc.den.k rc.den.c]] w fun e w' => e = .returned (.bool true) ∧ Below w.heap.size w w' := by
  have HSa := Lib.hid (ha.sz (by decide)); have HSb := Lib.hid (hb.sz (by decide)); have HSc := Lib.hid (hc.sz (by decide))
  have HL := Lib.hid (LSt.start ha hb hc hz ht)
  have Hsh := Lib.hid (fun (W : World) => (by have h4 := lshort_any W ra rb rc; rw [hsh] at h4; exact h4 : Calls Tryz.prog 18 #[.agg #[.bool ra.num.neg, .slice ra.num.A ra.num.k ra.num.c, .bool ra.den.neg, .slice ra.den.A ra.den.k ra.den.c], .agg #[.bool rb.num.neg, .slice rb.num.A rb.num.k rb.num.c, .bool rb.den.neg, .slice rb.den.A rb.den.k rb.den.c], .agg #[.bool rc.num.neg, .slice rc.num.A rc.num.k rc.num.c, .bool rc.den.neg, .slice rc.den.A rc.den.k rc.den.c]] W fun e w' => e = .returned (.bool true) ∧ Below W.heap.size W w'))
  obtain ⟨bb, hbb⟩ : ∃ bb, bb = decide (a = b) := ⟨_, rfl⟩
  have Hse := Lib.hid (fun (W : World) (h1 : RatD ra a 12 W) (h2 : RatD rb b 12 W) => (by rw [hbb]; exact rsame_any W ra rb a b 12 (by decide) (by decide) h1 h2 : Calls Tryz.prog 26 #[.agg #[.bool ra.num.neg, .slice ra.num.A ra.num.k ra.num.c, .bool ra.den.neg, .slice ra.den.A ra.den.k ra.den.c], .agg #[.bool rb.num.neg, .slice rb.num.A rb.num.k rb.num.c, .bool rb.den.neg, .slice rb.den.A rb.den.k rb.den.c]] W fun e w' => e = .returned (.bool bb) ∧ Below W.heap.size W w'))
  have Hsm := Lib.hid (fun (W : World) (r s : RV) (h1 : RatN r a W) (h2 : RatN s b W) => (by rw [hbb]; exact sameRat_any W r s a b 12 (by decide) HSa.out h1 h2 : Calls Tryz.prog 14 #[.agg #[.bool r.num.neg, .slice r.num.A r.num.k r.num.c, .bool r.den.neg, .slice r.den.A r.den.k r.den.c], .agg #[.bool s.num.neg, .slice s.num.A s.num.k s.num.c, .bool s.den.neg, .slice s.den.A s.den.k s.den.c]] W fun e w' => e = .returned (.bool bb) ∧ Below W.heap.size W w'))
  have Hsb := Lib.hid (fun (s : Int) (e : b.num.sign = s) (W : World) (h1 : RatD rb b 12 W) => (by rw [← e]; exact rsign_any W rb b 12 (by decide) h1 : Calls Tryz.prog 20 #[.agg #[.bool rb.num.neg, .slice rb.num.A rb.num.k rb.num.c, .bool rb.den.neg, .slice rb.den.A rb.den.k rb.den.c]] W fun e w' => e = .returned (.int .i64 s) ∧ Below W.heap.size W w'))
  clear ha hb hc hz ht hsh hbb
  go_enter Tryz.func5, Tryz.ntmps5
  go_wp2_with fail
  refine (Hsh.out _).mono ?_
  rintro e w0 ⟨rfl, hb1⟩
  replace HL := Lib.hid (HL.out.below hb1)
  obtain ⟨c0, c1, c2, c3, c4, c5, c6, c7, c8, c9, c10, c11⟩ := HL.out.cells
  clear hb1
  go_upto_region 4 with fail
  go_cut [8] (fun v wx => v = .bool true ∧ LSt w wx ra rb rc a b c 12)
  case first =>
    as_aux_lemma =>
      first
      | (go_region_held3 (fun W => W.cell? ⟨w.heap.size, 0, none⟩ = some (.bool ra.num.neg) ∧ W.cell? ⟨w.heap.size, 1, none⟩ = some (.slice ra.num.A ra.num.k ra.num.c) ∧ W.cell? ⟨w.heap.size, 2, none⟩ = some (.bool ra.den.neg) ∧ W.cell? ⟨w.heap.size, 3, none⟩ = some (.slice ra.den.A ra.den.k ra.den.c) ∧ W.cell? ⟨w.heap.size + 1, 0, none⟩ = some (.bool rb.num.neg) ∧ W.cell? ⟨w.heap.size + 1, 1, none⟩ = some (.slice rb.num.A rb.num.k rb.num.c) ∧ W.cell? ⟨w.heap.size + 1, 2, none⟩ = some (.bool rb.den.neg) ∧ W.cell? ⟨w.heap.size + 1, 3, none⟩ = some (.slice rb.den.A rb.den.k rb.den.c) ∧ W.cell? ⟨w.heap.size + 1 + 1, 0, none⟩ = some (.bool rc.num.neg) ∧ W.cell? ⟨w.heap.size + 1 + 1, 1, none⟩ = some (.slice rc.num.A rc.num.k rc.num.c) ∧ W.cell? ⟨w.heap.size + 1 + 1, 2, none⟩ = some (.bool rc.den.neg) ∧ W.cell? ⟨w.heap.size + 1 + 1, 3, none⟩ = some (.slice rc.den.A rc.den.k rc.den.c)) (first | exact HL.out.cells | exact HL.out.drew.cells)
          (first
            | (go_at_call_of 19 (#[.agg #[.bool ra.num.neg, .slice ra.num.A ra.num.k ra.num.c, .bool ra.den.neg, .slice ra.den.A ra.den.k ra.den.c], .agg #[.bool rb.num.neg, .slice rb.num.A rb.num.k rb.num.c, .bool rb.den.neg, .slice rb.den.A rb.den.k rb.den.c]] : Array Value); go_must (refine (radd_any _ ra rb a b 12 (by decide) (by decide) (RatD.mono (n := 12) (by first | exact HL.out.da | exact HL.out.da.drew) (by decide)) (RatD.mono (n := 12) (by first | exact HL.out.db | exact HL.out.db.drew) (by decide)) (by first | exact HL.out.tz | exact HL.out.drew.tz)).mono ?_; rintro e ws1 ⟨rs1, rfl, hs1, bs1⟩; replace HL := Lib.hid (LSt.below (by first | exact HL.out | exact HL.out.drew) bs1); clear c0 c1 c2 c3 c4 c5 c6 c7 c8 c9 c10 c11; obtain ⟨c0, c1, c2, c3, c4, c5, c6, c7, c8, c9, c10, c11⟩ := HL.out.cells; have Hs1 := Lib.hid hs1.now; clear hs1; clear bs1))
            | (go_at_call_of 19 (#[.agg #[.bool rb.num.neg, .slice rb.num.A rb.num.k rb.num.c, .bool rb.den.neg, .slice rb.den.A rb.den.k rb.den.c], .agg #[.bool ra.num.neg, .slice ra.num.A ra.num.k ra.num.c, .bool ra.den.neg, .slice ra.den.A ra.den.k ra.den.c]] : Array Value); go_must (refine (radd_any _ rb ra b a 12 (by decide) (by decide) (RatD.mono (n := 12) (by first | exact HL.out.db | exact HL.out.db.drew) (by decide)) (RatD.mono (n := 12) (by first | exact HL.out.da | exact HL.out.da.drew) (by decide)) (by first | exact HL.out.tz | exact HL.out.drew.tz)).mono ?_; rintro e ws2 ⟨rs2, rfl, hs2, bs2⟩; replace HL := Lib.hid (LSt.below (by first | exact HL.out | exact HL.out.drew) bs2); clear c0 c1 c2 c3 c4 c5 c6 c7 c8 c9 c10 c11; obtain ⟨c0, c1, c2, c3, c4, c5, c6, c7, c8, c9, c10, c11⟩ := HL.out.cells; replace Hs1 := Lib.hid (RatN.below (by first | exact Hs1.out | exact Hs1.out.drew) bs2); have Hs2 := Lib.hid hs2.now; clear hs2; clear bs2))
            | (go_at_call_of 14 (#[.agg #[.bool rs1.num.neg, .slice rs1.num.A rs1.num.k rs1.num.c, .bool rs1.den.neg, .slice rs1.den.A rs1.den.k rs1.den.c], .agg #[.bool rs2.num.neg, .slice rs2.num.A rs2.num.k rs2.num.c, .bool rs2.den.neg, .slice rs2.den.A rs2.den.k rs2.den.c]] : Array Value); go_must (refine (sameRat_true _ rs1 rs2 (a + b) (b + a) 25 (by decide) (Sz.add (n := 12) (m := 12) HSa.out HSb.out) (by first | exact Hs1.out | exact Hs1.out.drew) (by first | exact Hs2.out | exact Hs2.out.drew) (Rat.add_comm _ _)).mono ?_; rintro e ws3 ⟨rfl, bs3⟩; replace HL := Lib.hid (LSt.below (by first | exact HL.out | exact HL.out.drew) bs3); clear c0 c1 c2 c3 c4 c5 c6 c7 c8 c9 c10 c11; obtain ⟨c0, c1, c2, c3, c4, c5, c6, c7, c8, c9, c10, c11⟩ := HL.out.cells; clear bs3))
            | (go_at_call_of 19 (#[.agg #[.bool rs1.num.neg, .slice rs1.num.A rs1.num.k rs1.num.c, .bool rs1.den.neg, .slice rs1.den.A rs1.den.k rs1.den.c], .agg #[.bool rc.num.neg, .slice rc.num.A rc.num.k rc.num.c, .bool rc.den.neg, .slice rc.den.A rc.den.k rc.den.c]] : Array Value); go_must (refine (radd_any _ rs1 rc (a + b) c 25 (by decide) (by decide) (RatN.rat (by first | exact Hs1.out | exact Hs1.out.drew) (Sz.up (Sz.add (n := 12) (m := 12) HSa.out HSb.out) (by decide))) (RatD.mono (n := 12) (by first | exact HL.out.dc | exact HL.out.dc.drew) (by decide)) (by first | exact HL.out.tz | exact HL.out.drew.tz)).mono ?_; rintro e ws4 ⟨rs4, rfl, hs4, bs4⟩; replace HL := Lib.hid (LSt.below (by first | exact HL.out | exact HL.out.drew) bs4); clear c0 c1 c2 c3 c4 c5 c6 c7 c8 c9 c10 c11; obtain ⟨c0, c1, c2, c3, c4, c5, c6, c7, c8, c9, c10, c11⟩ := HL.out.cells; have Hs4 := Lib.hid hs4.now; clear hs4; clear bs4))
            | (go_at_call_of 19 (#[.agg #[.bool rb.num.neg, .slice rb.num.A rb.num.k rb.num.c, .bool rb.den.neg, .slice rb.den.A rb.den.k rb.den.c], .agg #[.bool rc.num.neg, .slice rc.num.A rc.num.k rc.num.c, .bool rc.den.neg, .slice rc.den.A rc.den.k rc.den.c]] : Array Value); go_must (refine (radd_any _ rb rc b c 12 (by decide) (by decide) (RatD.mono (n := 12) (by first | exact HL.out.db | exact HL.out.db.drew) (by decide)) (RatD.mono (n := 12) (by first | exact HL.out.dc | exact HL.out.dc.drew) (by decide)) (by first | exact HL.out.tz | exact HL.out.drew.tz)).mono ?_; rintro e ws5 ⟨rs5, rfl, hs5, bs5⟩; replace HL := Lib.hid (LSt.below (by first | exact HL.out | exact HL.out.drew) bs5); clear c0 c1 c2 c3 c4 c5 c6 c7 c8 c9 c10 c11; obtain ⟨c0, c1, c2, c3, c4, c5, c6, c7, c8, c9, c10, c11⟩ := HL.out.cells; replace Hs4 := Lib.hid (RatN.below (by first | exact Hs4.out | exact Hs4.out.drew) bs5); have Hs5 := Lib.hid hs5.now; clear hs5; clear bs5))
            | (go_at_call_of 19 (#[.agg #[.bool ra.num.neg, .slice ra.num.A ra.num.k ra.num.c, .bool ra.den.neg, .slice ra.den.A ra.den.k ra.den.c], .agg #[.bool rs5.num.neg, .slice rs5.num.A rs5.num.k rs5.num.c, .bool rs5.den.neg, .slice rs5.den.A rs5.den.k rs5.den.c]] : Array Value); go_must (refine (radd_any _ ra rs5 a (b + c) 25 (by decide) (by decide) (RatD.mono (n := 12) (by first | exact HL.out.da | exact HL.out.da.drew) (by decide)) (RatN.rat (by first | exact Hs5.out | exact Hs5.out.drew) (Sz.up (Sz.add (n := 12) (m := 12) HSb.out HSc.out) (by decide))) (by first | exact HL.out.tz | exact HL.out.drew.tz)).mono ?_; rintro e ws6 ⟨rs6, rfl, hs6, bs6⟩; replace HL := Lib.hid (LSt.below (by first | exact HL.out | exact HL.out.drew) bs6); clear c0 c1 c2 c3 c4 c5 c6 c7 c8 c9 c10 c11; obtain ⟨c0, c1, c2, c3, c4, c5, c6, c7, c8, c9, c10, c11⟩ := HL.out.cells; replace Hs4 := Lib.hid (RatN.below (by first | exact Hs4.out | exact Hs4.out.drew) bs6); have Hs6 := Lib.hid hs6.now; clear hs6; clear bs6))
            | (go_at_call_of 14 (#[.agg #[.bool rs4.num.neg, .slice rs4.num.A rs4.num.k rs4.num.c, .bool rs4.den.neg, .slice rs4.den.A rs4.den.k rs4.den.c], .agg #[.bool rs6.num.neg, .slice rs6.num.A rs6.num.k rs6.num.c, .bool rs6.den.neg, .slice rs6.den.A rs6.den.k rs6.den.c]] : Array Value); go_must (refine (sameRat_true _ rs4 rs6 ((a + b) + c) (a + (b + c)) 38 (by decide) (Sz.add (n := 25) (m := 12) (Sz.add (n := 12) (m := 12) HSa.out HSb.out) HSc.out) (by first | exact Hs4.out | exact Hs4.out.drew) (by first | exact Hs6.out | exact Hs6.out.drew) (Rat.add_assoc _ _ _)).mono ?_; rintro e ws7 ⟨rfl, bs7⟩; replace HL := Lib.hid (LSt.below (by first | exact HL.out | exact HL.out.drew) bs7); clear c0 c1 c2 c3 c4 c5 c6 c7 c8 c9 c10 c11; obtain ⟨c0, c1, c2, c3, c4, c5, c6, c7, c8, c9, c10, c11⟩ := HL.out.cells; clear bs7))
            | (go_at_call_of 21 (#[.agg #[.bool ra.num.neg, .slice ra.num.A ra.num.k ra.num.c, .bool ra.den.neg, .slice ra.den.A ra.den.k ra.den.c], .agg #[.bool ra.num.neg, .slice ra.num.A ra.num.k ra.num.c, .bool ra.den.neg, .slice ra.den.A ra.den.k ra.den.c]] : Array Value); go_must (refine (rsub_any _ ra ra a a 12 (by decide) (by decide) (RatD.mono (n := 12) (by first | exact HL.out.da | exact HL.out.da.drew) (by decide)) (RatD.mono (n := 12) (by first | exact HL.out.da | exact HL.out.da.drew) (by decide)) (by first | exact HL.out.tz | exact HL.out.drew.tz)).mono ?_; rintro e ws8 ⟨rs8, rfl, hs8, bs8⟩; replace HL := Lib.hid (LSt.below (by first | exact HL.out | exact HL.out.drew) bs8); clear c0 c1 c2 c3 c4 c5 c6 c7 c8 c9 c10 c11; obtain ⟨c0, c1, c2, c3, c4, c5, c6, c7, c8, c9, c10, c11⟩ := HL.out.cells; have Hs8 := Lib.hid hs8.now; clear hs8; clear bs8))
            | (go_at_call_of 20 (#[.agg #[.bool rs8.num.neg, .slice rs8.num.A rs8.num.k rs8.num.c, .bool rs8.den.neg, .slice rs8.den.A rs8.den.k rs8.den.c]] : Array Value); go_must (refine (rsign_zero _ rs8 (a - a) 25 (by decide) (RatN.rat (by first | exact Hs8.out | exact Hs8.out.drew) (Sz.up (Sz.sub (n := 12) (m := 12) HSa.out HSa.out) (by decide))) (Rat.sub_self)).mono ?_; rintro e ws9 ⟨rfl, bs9⟩; replace HL := Lib.hid (LSt.below (by first | exact HL.out | exact HL.out.drew) bs9); clear c0 c1 c2 c3 c4 c5 c6 c7 c8 c9 c10 c11; obtain ⟨c0, c1, c2, c3, c4, c5, c6, c7, c8, c9, c10, c11⟩ := HL.out.cells; clear bs9))
            | (go_at_call_of 21 (#[.agg #[.bool rs1.num.neg, .slice rs1.num.A rs1.num.k rs1.num.c, .bool rs1.den.neg, .slice rs1.den.A rs1.den.k rs1.den.c], .agg #[.bool rb.num.neg, .slice rb.num.A rb.num.k rb.num.c, .bool rb.den.neg, .slice rb.den.A rb.den.k rb.den.c]] : Array Value); go_must (refine (rsub_any _ rs1 rb (a + b) b 25 (by decide) (by decide) (RatN.rat (by first | exact Hs1.out | exact Hs1.out.drew) (Sz.up (Sz.add (n := 12) (m := 12) HSa.out HSb.out) (by decide))) (RatD.mono (n := 12) (by first | exact HL.out.db | exact HL.out.db.drew) (by decide)) (by first | exact HL.out.tz | exact HL.out.drew.tz)).mono ?_; rintro e ws10 ⟨rs10, rfl, hs10, bs10⟩; replace HL := Lib.hid (LSt.below (by first | exact HL.out | exact HL.out.drew) bs10); clear c0 c1 c2 c3 c4 c5 c6 c7 c8 c9 c10 c11; obtain ⟨c0, c1, c2, c3, c4, c5, c6, c7, c8, c9, c10, c11⟩ := HL.out.cells; have Hs10 := Lib.hid hs10.now; clear hs10; clear bs10))
            | (go_at_call_of 22 (#[.agg #[.bool ra.num.neg, .slice ra.num.A ra.num.k ra.num.c, .bool ra.den.neg, .slice ra.den.A ra.den.k ra.den.c]] : Array Value); go_must (refine (rnorm_any _ ra a 12 (by decide) (by decide) (RatD.mono (n := 12) (by first | exact HL.out.da | exact HL.out.da.drew) (by decide)) (by first | exact HL.out.tz | exact HL.out.drew.tz)).mono ?_; rintro e ws11 ⟨rs11, rfl, hs11, bs11⟩; replace HL := Lib.hid (LSt.below (by first | exact HL.out | exact HL.out.drew) bs11); clear c0 c1 c2 c3 c4 c5 c6 c7 c8 c9 c10 c11; obtain ⟨c0, c1, c2, c3, c4, c5, c6, c7, c8, c9, c10, c11⟩ := HL.out.cells; replace Hs10 := Lib.hid (RatN.below (by first | exact Hs10.out | exact Hs10.out.drew) bs11); have Hs11 := Lib.hid hs11.now; clear hs11; clear bs11))
            | (go_at_call_of 14 (#[.agg #[.bool rs10.num.neg, .slice rs10.num.A rs10.num.k rs10.num.c, .bool rs10.den.neg, .slice rs10.den.A rs10.den.k rs10.den.c], .agg #[.bool rs11.num.neg, .slice rs11.num.A rs11.num.k rs11.num.c, .bool rs11.den.neg, .slice rs11.den.A rs11.den.k rs11.den.c]] : Array Value); go_must (refine (sameRat_true _ rs10 rs11 ((a + b) - b) a 38 (by decide) (Sz.sub (n := 25) (m := 12) (Sz.add (n := 12) (m := 12) HSa.out HSb.out) HSb.out) (by first | exact Hs10.out | exact Hs10.out.drew) (by first | exact Hs11.out | exact Hs11.out.drew) (Rat.add_sub_cancel)).mono ?_; rintro e ws12 ⟨rfl, bs12⟩; replace HL := Lib.hid (LSt.below (by first | exact HL.out | exact HL.out.drew) bs12); clear c0 c1 c2 c3 c4 c5 c6 c7 c8 c9 c10 c11; obtain ⟨c0, c1, c2, c3, c4, c5, c6, c7, c8, c9, c10, c11⟩ := HL.out.cells; clear bs12))
            | (go_at_call_of 23 (#[.agg #[.bool ra.num.neg, .slice ra.num.A ra.num.k ra.num.c, .bool ra.den.neg, .slice ra.den.A ra.den.k ra.den.c]] : Array Value); go_must (refine (rneg_any _ ra a 12 (by decide) (by decide) (RatD.mono (n := 12) (by first | exact HL.out.da | exact HL.out.da.drew) (by decide)) (by first | exact HL.out.tz | exact HL.out.drew.tz)).mono ?_; rintro e ws13 ⟨rs13, rfl, hs13, bs13⟩; replace HL := Lib.hid (LSt.below (by first | exact HL.out | exact HL.out.drew) bs13); clear c0 c1 c2 c3 c4 c5 c6 c7 c8 c9 c10 c11; obtain ⟨c0, c1, c2, c3, c4, c5, c6, c7, c8, c9, c10, c11⟩ := HL.out.cells; have Hs13 := Lib.hid hs13.now; clear hs13; clear bs13))
            | (go_at_call_of 21 (#[.agg #[.bool false, .slice none 0 0, .bool false, .slice none 0 0], .agg #[.bool ra.num.neg, .slice ra.num.A ra.num.k ra.num.c, .bool ra.den.neg, .slice ra.den.A ra.den.k ra.den.c]] : Array Value); go_must (refine (rsub_any _ zeroR ra 0 a 12 (by decide) (by decide) (RatN.rat (zeroRN _) (Sz.up sz_zero (by decide))) (RatD.mono (n := 12) (by first | exact HL.out.da | exact HL.out.da.drew) (by decide)) (by first | exact HL.out.tz | exact HL.out.drew.tz)).mono ?_; rintro e ws14 ⟨rs14, rfl, hs14, bs14⟩; replace HL := Lib.hid (LSt.below (by first | exact HL.out | exact HL.out.drew) bs14); clear c0 c1 c2 c3 c4 c5 c6 c7 c8 c9 c10 c11; obtain ⟨c0, c1, c2, c3, c4, c5, c6, c7, c8, c9, c10, c11⟩ := HL.out.cells; replace Hs13 := Lib.hid (RatN.below (by first | exact Hs13.out | exact Hs13.out.drew) bs14); have Hs14 := Lib.hid hs14.now; clear hs14; clear bs14))
            | (go_at_call_of 14 (#[.agg #[.bool rs13.num.neg, .slice rs13.num.A rs13.num.k rs13.num.c, .bool rs13.den.neg, .slice rs13.den.A rs13.den.k rs13.den.c], .agg #[.bool rs14.num.neg, .slice rs14.num.A rs14.num.k rs14.num.c, .bool rs14.den.neg, .slice rs14.den.A rs14.den.k rs14.den.c]] : Array Value); go_must (refine (sameRat_true _ rs13 rs14 (-a) (0 - a) 12 (by decide) (Sz.neg HSa.out) (by first | exact Hs13.out | exact Hs13.out.drew) (by first | exact Hs14.out | exact Hs14.out.drew) (by rw [Rat.sub_eq_add_neg, Rat.zero_add])).mono ?_; rintro e ws15 ⟨rfl, bs15⟩; replace HL := Lib.hid (LSt.below (by first | exact HL.out | exact HL.out.drew) bs15); clear c0 c1 c2 c3 c4 c5 c6 c7 c8 c9 c10 c11; obtain ⟨c0, c1, c2, c3, c4, c5, c6, c7, c8, c9, c10, c11⟩ := HL.out.cells; clear bs15))))
      | fail
      all_goals
        go_wp2_with fail
        go_meet
        exact ⟨rfl, by first | exact HL.out | exact HL.out.drew⟩
  case rest =>
    obtain ⟨rfl, hL⟩ := hcut
    have HL := Lib.hid hL
    obtain ⟨c0, c1, c2, c3, c4, c5, c6, c7, c8, c9, c10, c11⟩ := hL.cells
    clear hL
    go_upto_region 5 with fail
    go_cut [9] (fun v wx => v = .bool true ∧ LSt w wx ra rb rc a b c 12)
    case first =>
      as_aux_lemma =>
        first
        | (go_region_held3 (fun W => W.cell? ⟨w.heap.size, 0, none⟩ = some (.bool ra.num.neg) ∧ W.cell? ⟨w.heap.size, 1, none⟩ = some (.slice ra.num.A ra.num.k ra.num.c) ∧ W.cell? ⟨w.heap.size, 2, none⟩ = some (.bool ra.den.neg) ∧ W.cell? ⟨w.heap.size, 3, none⟩ = some (.slice ra.den.A ra.den.k ra.den.c) ∧ W.cell? ⟨w.heap.size + 1, 0, none⟩ = some (.bool rb.num.neg) ∧ W.cell? ⟨w.heap.size + 1, 1, none⟩ = some (.slice rb.num.A rb.num.k rb.num.c) ∧ W.cell? ⟨w.heap.size + 1, 2, none⟩ = some (.bool rb.den.neg) ∧ W.cell? ⟨w.heap.size + 1, 3, none⟩ = some (.slice rb.den.A rb.den.k rb.den.c) ∧ W.cell? ⟨w.heap.size + 1 + 1, 0, none⟩ = some (.bool rc.num.neg) ∧ W.cell? ⟨w.heap.size + 1 + 1, 1, none⟩ = some (.slice rc.num.A rc.num.k rc.num.c) ∧ W.cell? ⟨w.heap.size + 1 + 1, 2, none⟩ = some (.bool rc.den.neg) ∧ W.cell? ⟨w.heap.size + 1 + 1, 3, none⟩ = some (.slice rc.den.A rc.den.k rc.den.c)) (first | exact HL.out.cells | exact HL.out.drew.cells)
            (first
              | (go_at_call_of 24 (#[.agg #[.bool ra.num.neg, .slice ra.num.A ra.num.k ra.num.c, .bool ra.den.neg, .slice ra.den.A ra.den.k ra.den.c], .agg #[.bool rb.num.neg, .slice rb.num.A rb.num.k rb.num.c, .bool rb.den.neg, .slice rb.den.A rb.den.k rb.den.c]] : Array Value); go_must (refine (rmul_any _ ra rb a b 12 (by decide) (by decide) (RatD.mono (n := 12) (by first | exact HL.out.da | exact HL.out.da.drew) (by decide)) (RatD.mono (n := 12) (by first | exact HL.out.db | exact HL.out.db.drew) (by decide)) (by first | exact HL.out.tz | exact HL.out.drew.tz)).mono ?_; rintro e wp1 ⟨rp1, rfl, hp1, bp1⟩; replace HL := Lib.hid (LSt.below (by first | exact HL.out | exact HL.out.drew) bp1); clear c0 c1 c2 c3 c4 c5 c6 c7 c8 c9 c10 c11; obtain ⟨c0, c1, c2, c3, c4, c5, c6, c7, c8, c9, c10, c11⟩ := HL.out.cells; (try replace Hp9 := Lib.hid (RatN.below (by first | exact Hp9.out | exact Hp9.out.drew) bp1)); have Hp1 := Lib.hid hp1.now; clear hp1; clear bp1))
              | (go_at_call_of 24 (#[.agg #[.bool rb.num.neg, .slice rb.num.A rb.num.k rb.num.c, .bool rb.den.neg, .slice rb.den.A rb.den.k rb.den.c], .agg #[.bool ra.num.neg, .slice ra.num.A ra.num.k ra.num.c, .bool ra.den.neg, .slice ra.den.A ra.den.k ra.den.c]] : Array Value); go_must (refine (rmul_any _ rb ra b a 12 (by decide) (by decide) (RatD.mono (n := 12) (by first | exact HL.out.db | exact HL.out.db.drew) (by decide)) (RatD.mono (n := 12) (by first | exact HL.out.da | exact HL.out.da.drew) (by decide)) (by first | exact HL.out.tz | exact HL.out.drew.tz)).mono ?_; rintro e wp2 ⟨rp2, rfl, hp2, bp2⟩; replace HL := Lib.hid (LSt.below (by first | exact HL.out | exact HL.out.drew) bp2); clear c0 c1 c2 c3 c4 c5 c6 c7 c8 c9 c10 c11; obtain ⟨c0, c1, c2, c3, c4, c5, c6, c7, c8, c9, c10, c11⟩ := HL.out.cells; replace Hp1 := Lib.hid (RatN.below (by first | exact Hp1.out | exact Hp1.out.drew) bp2); have Hp2 := Lib.hid hp2.now; clear hp2; clear bp2))
              | (go_at_call_of 14 (#[.agg #[.bool rp1.num.neg, .slice rp1.num.A rp1.num.k rp1.num.c, .bool rp1.den.neg, .slice rp1.den.A rp1.den.k rp1.den.c], .agg #[.bool rp2.num.neg, .slice rp2.num.A rp2.num.k rp2.num.c, .bool rp2.den.neg, .slice rp2.den.A rp2.den.k rp2.den.c]] : Array Value); go_must (refine (sameRat_true _ rp1 rp2 (a * b) (b * a) 25 (by decide) (Sz.mul (n := 12) (m := 12) HSa.out HSb.out) (by first | exact Hp1.out | exact Hp1.out.drew) (by first | exact Hp2.out | exact Hp2.out.drew) (Rat.mul_comm _ _)).mono ?_; rintro e wp3 ⟨rfl, bp3⟩; replace HL := Lib.hid (LSt.below (by first | exact HL.out | exact HL.out.drew) bp3); clear c0 c1 c2 c3 c4 c5 c6 c7 c8 c9 c10 c11; obtain ⟨c0, c1, c2, c3, c4, c5, c6, c7, c8, c9, c10, c11⟩ := HL.out.cells; clear bp3))
              | (go_at_call_of 24 (#[.agg #[.bool rp1.num.neg, .slice rp1.num.A rp1.num.k rp1.num.c, .bool rp1.den.neg, .slice rp1.den.A rp1.den.k rp1.den.c], .agg #[.bool rc.num.neg, .slice rc.num.A rc.num.k rc.num.c, .bool rc.den.neg, .slice rc.den.A rc.den.k rc.den.c]] : Array Value); go_must (refine (rmul_any _ rp1 rc (a * b) c 25 (by decide) (by decide) (RatN.rat (by first | exact Hp1.out | exact Hp1.out.drew) (Sz.up (Sz.mul (n := 12) (m := 12) HSa.out HSb.out) (by decide))) (RatD.mono (n := 12) (by first | exact HL.out.dc | exact HL.out.dc.drew) (by decide)) (by first | exact HL.out.tz | exact HL.out.drew.tz)).mono ?_; rintro e wp4 ⟨rp4, rfl, hp4, bp4⟩; replace HL := Lib.hid (LSt.below (by first | exact HL.out | exact HL.out.drew) bp4); clear c0 c1 c2 c3 c4 c5 c6 c7 c8 c9 c10 c11; obtain ⟨c0, c1, c2, c3, c4, c5, c6, c7, c8, c9, c10, c11⟩ := HL.out.cells; have Hp4 := Lib.hid hp4.now; clear hp4; clear bp4))
              | (go_at_call_of 24 (#[.agg #[.bool rb.num.neg, .slice rb.num.A rb.num.k rb.num.c, .bool rb.den.neg, .slice rb.den.A rb.den.k rb.den.c], .agg #[.bool rc.num.neg, .slice rc.num.A rc.num.k rc.num.c, .bool rc.den.neg, .slice rc.den.A rc.den.k rc.den.c]] : Array Value); go_must (refine (rmul_any _ rb rc b c 12 (by decide) (by decide) (RatD.mono (n := 12) (by first | exact HL.out.db | exact HL.out.db.drew) (by decide)) (RatD.mono (n := 12) (by first | exact HL.out.dc | exact HL.out.dc.drew) (by decide)) (by first | exact HL.out.tz | exact HL.out.drew.tz)).mono ?_; rintro e wp5 ⟨rp5, rfl, hp5, bp5⟩; replace HL := Lib.hid (LSt.below (by first | exact HL.out | exact HL.out.drew) bp5); clear c0 c1 c2 c3 c4 c5 c6 c7 c8 c9 c10 c11; obtain ⟨c0, c1, c2, c3, c4, c5, c6, c7, c8, c9, c10, c11⟩ := HL.out.cells; replace Hp4 := Lib.hid (RatN.below (by first | exact Hp4.out | exact Hp4.out.drew) bp5); have Hp5 := Lib.hid hp5.now; clear hp5; clear bp5))
              | (go_at_call_of 24 (#[.agg #[.bool ra.num.neg, .slice ra.num.A ra.num.k ra.num.c, .bool ra.den.neg, .slice ra.den.A ra.den.k ra.den.c], .agg #[.bool rp5.num.neg, .slice rp5.num.A rp5.num.k rp5.num.c, .bool rp5.den.neg, .slice rp5.den.A rp5.den.k rp5.den.c]] : Array Value); go_must (refine (rmul_any _ ra rp5 a (b * c) 25 (by decide) (by decide) (RatD.mono (n := 12) (by first | exact HL.out.da | exact HL.out.da.drew) (by decide)) (RatN.rat (by first | exact Hp5.out | exact Hp5.out.drew) (Sz.up (Sz.mul (n := 12) (m := 12) HSb.out HSc.out) (by decide))) (by first | exact HL.out.tz | exact HL.out.drew.tz)).mono ?_; rintro e wp6 ⟨rp6, rfl, hp6, bp6⟩; replace HL := Lib.hid (LSt.below (by first | exact HL.out | exact HL.out.drew) bp6); clear c0 c1 c2 c3 c4 c5 c6 c7 c8 c9 c10 c11; obtain ⟨c0, c1, c2, c3, c4, c5, c6, c7, c8, c9, c10, c11⟩ := HL.out.cells; replace Hp4 := Lib.hid (RatN.below (by first | exact Hp4.out | exact Hp4.out.drew) bp6); have Hp6 := Lib.hid hp6.now; clear hp6; clear bp6))
              | (go_at_call_of 14 (#[.agg #[.bool rp4.num.neg, .slice rp4.num.A rp4.num.k rp4.num.c, .bool rp4.den.neg, .slice rp4.den.A rp4.den.k rp4.den.c], .agg #[.bool rp6.num.neg, .slice rp6.num.A rp6.num.k rp6.num.c, .bool rp6.den.neg, .slice rp6.den.A rp6.den.k rp6.den.c]] : Array Value); go_must (refine (sameRat_true _ rp4 rp6 ((a * b) * c) (a * (b * c)) 38 (by decide) (Sz.mul (n := 25) (m := 12) (Sz.mul (n := 12) (m := 12) HSa.out HSb.out) HSc.out) (by first | exact Hp4.out | exact Hp4.out.drew) (by first | exact Hp6.out | exact Hp6.out.drew) (Rat.mul_assoc _ _ _)).mono ?_; rintro e wp7 ⟨rfl, bp7⟩; replace HL := Lib.hid (LSt.below (by first | exact HL.out | exact HL.out.drew) bp7); clear c0 c1 c2 c3 c4 c5 c6 c7 c8 c9 c10 c11; obtain ⟨c0, c1, c2, c3, c4, c5, c6, c7, c8, c9, c10, c11⟩ := HL.out.cells; clear bp7))
              | (go_at_call_of 19 (#[.agg #[.bool rb.num.neg, .slice rb.num.A rb.num.k rb.num.c, .bool rb.den.neg, .slice rb.den.A rb.den.k rb.den.c], .agg #[.bool rc.num.neg, .slice rc.num.A rc.num.k rc.num.c, .bool rc.den.neg, .slice rc.den.A rc.den.k rc.den.c]] : Array Value); go_must (refine (radd_any _ rb rc b c 12 (by decide) (by decide) (RatD.mono (n := 12) (by first | exact HL.out.db | exact HL.out.db.drew) (by decide)) (RatD.mono (n := 12) (by first | exact HL.out.dc | exact HL.out.dc.drew) (by decide)) (by first | exact HL.out.tz | exact HL.out.drew.tz)).mono ?_; rintro e wp8 ⟨rp8, rfl, hp8, bp8⟩; replace HL := Lib.hid (LSt.below (by first | exact HL.out | exact HL.out.drew) bp8); clear c0 c1 c2 c3 c4 c5 c6 c7 c8 c9 c10 c11; obtain ⟨c0, c1, c2, c3, c4, c5, c6, c7, c8, c9, c10, c11⟩ := HL.out.cells; have Hp8 := Lib.hid hp8.now; clear hp8; clear bp8))
              | (go_at_call_of 24 (#[.agg #[.bool ra.num.neg, .slice ra.num.A ra.num.k ra.num.c, .bool ra.den.neg, .slice ra.den.A ra.den.k ra.den.c], .agg #[.bool rp8.num.neg, .slice rp8.num.A rp8.num.k rp8.num.c, .bool rp8.den.neg, .slice rp8.den.A rp8.den.k rp8.den.c]] : Array Value); go_must (refine (rmul_any _ ra rp8 a (b + c) 25 (by decide) (by decide) (RatD.mono (n := 12) (by first | exact HL.out.da | exact HL.out.da.drew) (by decide)) (RatN.rat (by first | exact Hp8.out | exact Hp8.out.drew) (Sz.up (Sz.add (n := 12) (m := 12) HSb.out HSc.out) (by decide))) (by first | exact HL.out.tz | exact HL.out.drew.tz)).mono ?_; rintro e wp9 ⟨rp9, rfl, hp9, bp9⟩; replace HL := Lib.hid (LSt.below (by first | exact HL.out | exact HL.out.drew) bp9); clear c0 c1 c2 c3 c4 c5 c6 c7 c8 c9 c10 c11; obtain ⟨c0, c1, c2, c3, c4, c5, c6, c7, c8, c9, c10, c11⟩ := HL.out.cells; have Hp9 := Lib.hid hp9.now; clear hp9; clear bp9))
              | (go_at_call_of 24 (#[.agg #[.bool ra.num.neg, .slice ra.num.A ra.num.k ra.num.c, .bool ra.den.neg, .slice ra.den.A ra.den.k ra.den.c], .agg #[.bool rc.num.neg, .slice rc.num.A rc.num.k rc.num.c, .bool rc.den.neg, .slice rc.den.A rc.den.k rc.den.c]] : Array Value); go_must (refine (rmul_any _ ra rc a c 12 (by decide) (by decide) (RatD.mono (n := 12) (by first | exact HL.out.da | exact HL.out.da.drew) (by decide)) (RatD.mono (n := 12) (by first | exact HL.out.dc | exact HL.out.dc.drew) (by decide)) (by first | exact HL.out.tz | exact HL.out.drew.tz)).mono ?_; rintro e wp10 ⟨rp10, rfl, hp10, bp10⟩; replace HL := Lib.hid (LSt.below (by first | exact HL.out | exact HL.out.drew) bp10); clear c0 c1 c2 c3 c4 c5 c6 c7 c8 c9 c10 c11; obtain ⟨c0, c1, c2, c3, c4, c5, c6, c7, c8, c9, c10, c11⟩ := HL.out.cells; replace Hp1 := Lib.hid (RatN.below (by first | exact Hp1.out | exact Hp1.out.drew) bp10); replace Hp9 := Lib.hid (RatN.below (by first | exact Hp9.out | exact Hp9.out.drew) bp10); have Hp10 := Lib.hid hp10.now; clear hp10; clear bp10))
              | (go_at_call_of 19 (#[.agg #[.bool rp1.num.neg, .slice rp1.num.A rp1.num.k rp1.num.c, .bool rp1.den.neg, .slice rp1.den.A rp1.den.k rp1.den.c], .agg #[.bool rp10.num.neg, .slice rp10.num.A rp10.num.k rp10.num.c, .bool rp10.den.neg, .slice rp10.den.A rp10.den.k rp10.den.c]] : Array Value); go_must (refine (radd_any _ rp1 rp10 (a * b) (a * c) 25 (by decide) (by decide) (RatN.rat (by first | exact Hp1.out | exact Hp1.out.drew) (Sz.up (Sz.mul (n := 12) (m := 12) HSa.out HSb.out) (by decide))) (RatN.rat (by first | exact Hp10.out | exact Hp10.out.drew) (Sz.up (Sz.mul (n := 12) (m := 12) HSa.out HSc.out) (by decide))) (by first | exact HL.out.tz | exact HL.out.drew.tz)).mono ?_; rintro e wp11 ⟨rp11, rfl, hp11, bp11⟩; replace HL := Lib.hid (LSt.below (by first | exact HL.out | exact HL.out.drew) bp11); clear c0 c1 c2 c3 c4 c5 c6 c7 c8 c9 c10 c11; obtain ⟨c0, c1, c2, c3, c4, c5, c6, c7, c8, c9, c10, c11⟩ := HL.out.cells; replace Hp9 := Lib.hid (RatN.below (by first | exact Hp9.out | exact Hp9.out.drew) bp11); have Hp11 := Lib.hid hp11.now; clear hp11; clear bp11))
              | (go_at_call_of 14 (#[.agg #[.bool rp9.num.neg, .slice rp9.num.A rp9.num.k rp9.num.c, .bool rp9.den.neg, .slice rp9.den.A rp9.den.k rp9.den.c], .agg #[.bool rp11.num.neg, .slice rp11.num.A rp11.num.k rp11.num.c, .bool rp11.den.neg, .slice rp11.den.A rp11.den.k rp11.den.c]] : Array Value); go_must (refine (sameRat_true _ rp9 rp11 (a * (b + c)) ((a * b) + (a * c)) 38 (by decide) (Sz.mul (n := 12) (m := 25) HSa.out (Sz.add (n := 12) (m := 12) HSb.out HSc.out)) (by first | exact Hp9.out | exact Hp9.out.drew) (by first | exact Hp11.out | exact Hp11.out.drew) (Rat.mul_add _ _ _)).mono ?_; rintro e wp12 ⟨rfl, bp12⟩; replace HL := Lib.hid (LSt.below (by first | exact HL.out | exact HL.out.drew) bp12); clear c0 c1 c2 c3 c4 c5 c6 c7 c8 c9 c10 c11; obtain ⟨c0, c1, c2, c3, c4, c5, c6, c7, c8, c9, c10, c11⟩ := HL.out.cells; clear bp12))
              | (go_at_call_of 15 (#[.int .i64 1, .int .i64 1] : Array Value); go_must (refine (rof_any _ 1 1 (by decide) (by decide) (by decide) (by decide) (by first | exact HL.out.tz | exact HL.out.drew.tz)).mono ?_; rintro e wp13 ⟨rp13, rfl, hp13, bp13⟩; replace HL := Lib.hid (LSt.below (by first | exact HL.out | exact HL.out.drew) bp13); clear c0 c1 c2 c3 c4 c5 c6 c7 c8 c9 c10 c11; obtain ⟨c0, c1, c2, c3, c4, c5, c6, c7, c8, c9, c10, c11⟩ := HL.out.cells; have Hp13 := Lib.hid hp13.now; clear hp13; clear bp13))
              | (go_at_call_of 24 (#[.agg #[.bool ra.num.neg, .slice ra.num.A ra.num.k ra.num.c, .bool ra.den.neg, .slice ra.den.A ra.den.k ra.den.c], .agg #[.bool rp13.num.neg, .slice rp13.num.A rp13.num.k rp13.num.c, .bool rp13.den.neg, .slice rp13.den.A rp13.den.k rp13.den.c]] : Array Value); go_must (refine (rmul_any _ ra rp13 a (Rat.divInt 1 1) 12 (by decide) (by decide) (RatD.mono (n := 12) (by first | exact HL.out.da | exact HL.out.da.drew) (by decide)) (RatN.rat (by first | exact Hp13.out | exact Hp13.out.drew) (Sz.up (sz_of (by decide) (by decide)) (by decide))) (by first | exact HL.out.tz | exact HL.out.drew.tz)).mono ?_; rintro e wp14 ⟨rp14, rfl, hp14, bp14⟩; replace HL := Lib.hid (LSt.below (by first | exact HL.out | exact HL.out.drew) bp14); clear c0 c1 c2 c3 c4 c5 c6 c7 c8 c9 c10 c11; obtain ⟨c0, c1, c2, c3, c4, c5, c6, c7, c8, c9, c10, c11⟩ := HL.out.cells; have Hp14 := Lib.hid hp14.now; clear hp14; clear bp14))
              | (go_at_call_of 22 (#[.agg #[.bool ra.num.neg, .slice ra.num.A ra.num.k ra.num.c, .bool ra.den.neg, .slice ra.den.A ra.den.k ra.den.c]] : Array Value); go_must (refine (rnorm_any _ ra a 12 (by decide) (by decide) (RatD.mono (n := 12) (by first | exact HL.out.da | exact HL.out.da.drew) (by decide)) (by first | exact HL.out.tz | exact HL.out.drew.tz)).mono ?_; rintro e wp15 ⟨rp15, rfl, hp15, bp15⟩; replace HL := Lib.hid (LSt.below (by first | exact HL.out | exact HL.out.drew) bp15); clear c0 c1 c2 c3 c4 c5 c6 c7 c8 c9 c10 c11; obtain ⟨c0, c1, c2, c3, c4, c5, c6, c7, c8, c9, c10, c11⟩ := HL.out.cells; replace Hp14 := Lib.hid (RatN.below (by first | exact Hp14.out | exact Hp14.out.drew) bp15); have Hp15 := Lib.hid hp15.now; clear hp15; clear bp15))
              | (go_at_call_of 14 (#[.agg #[.bool rp14.num.neg, .slice rp14.num.A rp14.num.k rp14.num.c, .bool rp14.den.neg, .slice rp14.den.A rp14.den.k rp14.den.c], .agg #[.bool rp15.num.neg, .slice rp15.num.A rp15.num.k rp15.num.c, .bool rp15.den.neg, .slice rp15.den.A rp15.den.k rp15.den.c]] : Array Value); go_must (refine (sameRat_true _ rp14 rp15 (a * (Rat.divInt 1 1)) a 14 (by decide) (Sz.mul (n := 12) (m := 1) HSa.out (sz_of (by decide) (by decide))) (by first | exact Hp14.out | exact Hp14.out.drew) (by first | exact Hp15.out | exact Hp15.out.drew) (by rw [show Rat.divInt 1 1 = 1 from by decide +kernel, Rat.mul_one])).mono ?_; rintro e wp16 ⟨rfl, bp16⟩; replace HL := Lib.hid (LSt.below (by first | exact HL.out | exact HL.out.drew) bp16); clear c0 c1 c2 c3 c4 c5 c6 c7 c8 c9 c10 c11; obtain ⟨c0, c1, c2, c3, c4, c5, c6, c7, c8, c9, c10, c11⟩ := HL.out.cells; clear bp16))))
        | fail
        all_goals
          go_wp2_with fail
          go_meet
          exact ⟨rfl, by first | exact HL.out | exact HL.out.drew⟩
    case rest =>
      obtain ⟨rfl, hL⟩ := hcut
      have HL := Lib.hid hL
      obtain ⟨c0, c1, c2, c3, c4, c5, c6, c7, c8, c9, c10, c11⟩ := hL.cells
      clear hL
      go_upto_region 6 with fail
      go_cut [10] (fun v wx => v = .bool true ∧ LSt w wx ra rb rc a b c 12)
      case first =>
        rcases sgn3 b.num with hb0 | hb0 | hb0
        · have Hb0 := Lib.hid (show b ≠ 0 from fun e => by rw [e] at hb0; simp at hb0)
          replace Hsb := Lib.hid (Hsb.out (-1) hb0)
          clear hb0
          as_aux_lemma =>
            refine wp_region_noPanic ?_
            refine wp_region_held_drew (S := (fun W => W.cell? ⟨w.heap.size, 0, none⟩ = some (.bool ra.num.neg) ∧ W.cell? ⟨w.heap.size, 1, none⟩ = some (.slice ra.num.A ra.num.k ra.num.c) ∧ W.cell? ⟨w.heap.size, 2, none⟩ = some (.bool ra.den.neg) ∧ W.cell? ⟨w.heap.size, 3, none⟩ = some (.slice ra.den.A ra.den.k ra.den.c) ∧ W.cell? ⟨w.heap.size + 1, 0, none⟩ = some (.bool rb.num.neg) ∧ W.cell? ⟨w.heap.size + 1, 1, none⟩ = some (.slice rb.num.A rb.num.k rb.num.c) ∧ W.cell? ⟨w.heap.size + 1, 2, none⟩ = some (.bool rb.den.neg) ∧ W.cell? ⟨w.heap.size + 1, 3, none⟩ = some (.slice rb.den.A rb.den.k rb.den.c) ∧ W.cell? ⟨w.heap.size + 1 + 1, 0, none⟩ = some (.bool rc.num.neg) ∧ W.cell? ⟨w.heap.size + 1 + 1, 1, none⟩ = some (.slice rc.num.A rc.num.k rc.num.c) ∧ W.cell? ⟨w.heap.size + 1 + 1, 2, none⟩ = some (.bool rc.den.neg) ∧ W.cell? ⟨w.heap.size + 1 + 1, 3, none⟩ = some (.slice rc.den.A rc.den.k rc.den.c))) (by kernel_rfl) (by first | exact HL.out.cells | exact HL.out.drew.cells) (fun hHeld => ?_)
            refine held_take (i := 0) (v := ?_) (some 113) rfl rfl (by kernel_rfl) (by kernel_rfl) (by kernel_rfl) (fun _ _ _ h => h) (Or.inl ⟨by rfl, ?_⟩) hHeld ?_
            rotate_left 1
            · intro w hSw
              (try dsimp only at hSw)
              (first | (go_simp; done) | (go_simp; with_reducible rfl))
            (try simp only [Act.put, List.setIfInBounds_toArray, List.set_cons_zero, List.set_cons_succ])
            refine held_call (i := 1) rfl (by kernel_rfl) (by rfl) (fun K hK => ?_)
            clear hHeld
            simp only [List.getElem_toArray, List.getElem_cons_succ, List.getElem_cons_zero]
            go_simp
            refine (Hsb.out _ (RatD.mono (n := 12) (by first | exact HL.out.db | exact HL.out.db.drew) (by decide))).mono ?_
            rintro e wq1 ⟨rfl, bq1⟩
            replace HL := Lib.hid (LSt.below (by first | exact HL.out | exact HL.out.drew) bq1)
            clear c0 c1 c2 c3 c4 c5 c6 c7 c8 c9 c10 c11
            obtain ⟨c0, c1, c2, c3, c4, c5, c6, c7, c8, c9, c10, c11⟩ := HL.out.cells
            clear bq1
            (try (go_wp2_with fail))
            refine hK.out _ _ (by first | exact HL.out.cells | exact HL.out.drew.cells) (fun hHeld => ?_)
            clear hK K
            (try simp only [Act.put, List.setIfInBounds_toArray, List.set_cons_zero, List.set_cons_succ])
            refine held_take (i := 2) (v := ?_) (some 115) rfl rfl (by kernel_rfl) (by kernel_rfl) (by kernel_rfl) (fun _ _ _ h => h) (Or.inl ⟨by rfl, ?_⟩) hHeld ?_
            rotate_left 1
            · intro w hSw
              (try dsimp only at hSw)
              (first | (go_simp; done) | (go_simp; with_reducible rfl))
            (try simp only [Act.put, List.setIfInBounds_toArray, List.set_cons_zero, List.set_cons_succ])
            refine held_take (i := 3) (v := ?_) (some 116) rfl rfl (by kernel_rfl) (by kernel_rfl) (by kernel_rfl) (fun _ _ _ h => h) (Or.inl ⟨by rfl, ?_⟩) hHeld ?_
            rotate_left 1
            · intro w hSw
              (try dsimp only at hSw)
              (first | (go_simp; done) | (go_simp; with_reducible rfl))
            (try simp only [Act.put, List.setIfInBounds_toArray, List.set_cons_zero, List.set_cons_succ])
            refine held_take (i := 4) (v := undef) (some 117) rfl rfl (by kernel_rfl) (by kernel_rfl) (by kernel_rfl) (fun _ _ _ h => h) (Or.inr ⟨by rfl, rfl⟩) hHeld ?_
            (try simp only [Act.put, List.setIfInBounds_toArray, List.set_cons_zero, List.set_cons_succ])
            refine held_take (i := 5) (v := undef) (some 118) rfl rfl (by kernel_rfl) (by kernel_rfl) (by kernel_rfl) (fun _ _ _ h => h) (Or.inr ⟨by rfl, rfl⟩) hHeld ?_
            (try simp only [Act.put, List.setIfInBounds_toArray, List.set_cons_zero, List.set_cons_succ])
            refine held_skip (i := 6) (some 119) rfl rfl (by kernel_rfl) (by rfl) hHeld ?_
            (try simp only [Act.put, List.setIfInBounds_toArray, List.set_cons_zero, List.set_cons_succ])
            refine held_skip (i := 7) (some 120) rfl rfl (by kernel_rfl) (by rfl) hHeld ?_
            (try simp only [Act.put, List.setIfInBounds_toArray, List.set_cons_zero, List.set_cons_succ])
            refine held_take (i := 8) (v := undef) (some 121) rfl rfl (by kernel_rfl) (by kernel_rfl) (by kernel_rfl) (fun _ _ _ h => h) (Or.inr ⟨by rfl, rfl⟩) hHeld ?_
            (try simp only [Act.put, List.setIfInBounds_toArray, List.set_cons_zero, List.set_cons_succ])
            refine held_take (i := 9) (v := ?_) (some 122) rfl rfl (by kernel_rfl) (by kernel_rfl) (by kernel_rfl) (fun _ _ _ h => h) (Or.inl ⟨by rfl, ?_⟩) hHeld ?_
            rotate_left 1
            · intro w hSw
              (try dsimp only at hSw)
              (first | (go_simp; done) | (go_simp; with_reducible rfl))
            (try simp only [Act.put, List.setIfInBounds_toArray, List.set_cons_zero, List.set_cons_succ])
            refine held_take (i := 10) (v := ?_) (some 123) rfl rfl (by kernel_rfl) (by kernel_rfl) (by kernel_rfl) (fun _ _ _ h => h) (Or.inl ⟨by rfl, ?_⟩) hHeld ?_
            rotate_left 1
            · intro w hSw
              (try dsimp only at hSw)
              (first | (go_simp; done) | (go_simp; with_reducible rfl))
            (try simp only [Act.put, List.setIfInBounds_toArray, List.set_cons_zero, List.set_cons_succ])
            refine held_take (i := 11) (v := ?_) (some 124) rfl rfl (by kernel_rfl) (by kernel_rfl) (by kernel_rfl) (fun _ _ _ h => h) (Or.inl ⟨by rfl, ?_⟩) hHeld ?_
            rotate_left 1
            · intro w hSw
              (try dsimp only at hSw)
              (first | (go_simp; done) | (go_simp; with_reducible rfl))
            (try simp only [Act.put, List.setIfInBounds_toArray, List.set_cons_zero, List.set_cons_succ])
            refine held_call (i := 12) rfl (by kernel_rfl) (by rfl) (fun K hK => ?_)
            clear hHeld
            simp only [List.getElem_toArray, List.getElem_cons_succ, List.getElem_cons_zero]
            go_simp
            refine (Hsb.out _ (RatD.mono (n := 12) (by first | exact HL.out.db | exact HL.out.db.drew) (by decide))).mono ?_
            rintro e wq1 ⟨rfl, bq1⟩
            replace HL := Lib.hid (LSt.below (by first | exact HL.out | exact HL.out.drew) bq1)
            clear c0 c1 c2 c3 c4 c5 c6 c7 c8 c9 c10 c11
            obtain ⟨c0, c1, c2, c3, c4, c5, c6, c7, c8, c9, c10, c11⟩ := HL.out.cells
            clear bq1
            (try (go_wp2_with fail))
            refine hK.out _ _ (by first | exact HL.out.cells | exact HL.out.drew.cells) (fun hHeld => ?_)
            clear hK K
            (try simp only [Act.put, List.setIfInBounds_toArray, List.set_cons_zero, List.set_cons_succ])
            refine held_take (i := 13) (v := ?_) (some 126) rfl rfl (by kernel_rfl) (by kernel_rfl) (by kernel_rfl) (fun _ _ _ h => h) (Or.inl ⟨by rfl, ?_⟩) hHeld ?_
            rotate_left 1
            · intro w hSw
              (try dsimp only at hSw)
              (first | (go_simp; done) | (go_simp; with_reducible rfl))
            (try simp only [Act.put, List.setIfInBounds_toArray, List.set_cons_zero, List.set_cons_succ])
            refine held_take (i := 14) (v := ?_) (some 127) rfl rfl (by kernel_rfl) (by kernel_rfl) (by kernel_rfl) (fun _ _ _ h => h) (Or.inl ⟨by rfl, ?_⟩) hHeld ?_
            rotate_left 1
            · intro w hSw
              (try dsimp only at hSw)
              (first | (go_simp; done) | (go_simp; with_reducible rfl))
            (try simp only [Act.put, List.setIfInBounds_toArray, List.set_cons_zero, List.set_cons_succ])
            refine held_take (i := 15) (v := ?_) (some 128) rfl rfl (by kernel_rfl) (by kernel_rfl) (by kernel_rfl) (fun _ _ _ h => h) (Or.inl ⟨by rfl, ?_⟩) hHeld ?_
            rotate_left 1
            · intro w hSw
              (try dsimp only at hSw)
              (first | (go_simp; done) | (go_simp; with_reducible rfl))
            (try simp only [Act.put, List.setIfInBounds_toArray, List.set_cons_zero, List.set_cons_succ])
            refine held_take (i := 16) (v := ?_) (some 129) rfl rfl (by kernel_rfl) (by kernel_rfl) (by kernel_rfl) (fun _ _ _ h => h) (Or.inl ⟨by rfl, ?_⟩) hHeld ?_
            rotate_left 1
            · intro w hSw
              (try dsimp only at hSw)
              (first | (go_simp; done) | (go_simp; with_reducible rfl))
            (try simp only [Act.put, List.setIfInBounds_toArray, List.set_cons_zero, List.set_cons_succ])
            refine held_take (i := 17) (v := ?_) (some 130) rfl rfl (by kernel_rfl) (by kernel_rfl) (by kernel_rfl) (fun _ _ _ h => h) (Or.inl ⟨by rfl, ?_⟩) hHeld ?_
            rotate_left 1
            · intro w hSw
              (try dsimp only at hSw)
              (first | (go_simp; done) | (go_simp; with_reducible rfl))
            (try simp only [Act.put, List.setIfInBounds_toArray, List.set_cons_zero, List.set_cons_succ])
            refine held_take (i := 19) (v := ?_) (some 132) rfl rfl (by kernel_rfl) (by kernel_rfl) (by kernel_rfl) (fun _ _ _ h => h) (Or.inl ⟨by rfl, ?_⟩) hHeld ?_
            rotate_left 1
            · intro w hSw
              (try dsimp only at hSw)
              (first | (go_simp; done) | (go_simp; with_reducible rfl))
            (try simp only [Act.put, List.setIfInBounds_toArray, List.set_cons_zero, List.set_cons_succ])
            refine held_take (i := 21) (v := ?_) (some 134) rfl rfl (by kernel_rfl) (by kernel_rfl) (by kernel_rfl) (fun _ _ _ h => h) (Or.inl ⟨by rfl, ?_⟩) hHeld ?_
            rotate_left 1
            · intro w hSw
              (try dsimp only at hSw)
              (first | (go_simp; done) | (go_simp; with_reducible rfl))
            (try simp only [Act.put, List.setIfInBounds_toArray, List.set_cons_zero, List.set_cons_succ])
            refine held_call (i := 18) rfl (by kernel_rfl) (by rfl) (fun K hK => ?_)
            clear hHeld
            simp only [List.getElem_toArray, List.getElem_cons_succ, List.getElem_cons_zero]
            go_simp
            refine (rquo_any _ ra rb a b 12 (by decide) (by decide) (RatD.mono (n := 12) (by first | exact HL.out.da | exact HL.out.da.drew) (by decide)) (RatD.mono (n := 12) (by first | exact HL.out.db | exact HL.out.db.drew) (by decide)) (by first | exact HL.out.tz | exact HL.out.drew.tz)).mono ?_
            rintro e wq2 ⟨rq2, rfl, hq2, bq2⟩
            replace HL := Lib.hid (LSt.below (by first | exact HL.out | exact HL.out.drew) bq2)
            clear c0 c1 c2 c3 c4 c5 c6 c7 c8 c9 c10 c11
            obtain ⟨c0, c1, c2, c3, c4, c5, c6, c7, c8, c9, c10, c11⟩ := HL.out.cells
            have Hq2 := Lib.hid hq2.now
            clear hq2
            clear bq2
            (try (go_wp2_with fail))
            refine hK.out _ _ (by first | exact HL.out.cells | exact HL.out.drew.cells) (fun hHeld => ?_)
            clear hK K
            (try simp only [Act.put, List.setIfInBounds_toArray, List.set_cons_zero, List.set_cons_succ])
            refine held_call (i := 20) rfl (by kernel_rfl) (by rfl) (fun K hK => ?_)
            clear hHeld
            simp only [List.getElem_toArray, List.getElem_cons_succ, List.getElem_cons_zero]
            go_simp
            refine (rmul_any _ rq2 rb (a / b) b 25 (by decide) (by decide) (RatN.rat (by first | exact Hq2.out | exact Hq2.out.drew) (Sz.up (Sz.quo (n := 12) (m := 12) HSa.out HSb.out) (by decide))) (RatD.mono (n := 12) (by first | exact HL.out.db | exact HL.out.db.drew) (by decide)) (by first | exact HL.out.tz | exact HL.out.drew.tz)).mono ?_
            rintro e wq3 ⟨rq3, rfl, hq3, bq3⟩
            replace HL := Lib.hid (LSt.below (by first | exact HL.out | exact HL.out.drew) bq3)
            clear c0 c1 c2 c3 c4 c5 c6 c7 c8 c9 c10 c11
            obtain ⟨c0, c1, c2, c3, c4, c5, c6, c7, c8, c9, c10, c11⟩ := HL.out.cells
            have Hq3 := Lib.hid hq3.now
            clear hq3
            clear bq3
            (try (go_wp2_with fail))
            refine hK.out _ _ (by first | exact HL.out.cells | exact HL.out.drew.cells) (fun hHeld => ?_)
            clear hK K
            (try simp only [Act.put, List.setIfInBounds_toArray, List.set_cons_zero, List.set_cons_succ])
            refine held_call (i := 22) rfl (by kernel_rfl) (by rfl) (fun K hK => ?_)
            clear hHeld
            simp only [List.getElem_toArray, List.getElem_cons_succ, List.getElem_cons_zero]
            go_simp
            refine (rnorm_any _ ra a 12 (by decide) (by decide) (RatD.mono (n := 12) (by first | exact HL.out.da | exact HL.out.da.drew) (by decide)) (by first | exact HL.out.tz | exact HL.out.drew.tz)).mono ?_
            rintro e wq4 ⟨rq4, rfl, hq4, bq4⟩
            replace HL := Lib.hid (LSt.below (by first | exact HL.out | exact HL.out.drew) bq4)
            clear c0 c1 c2 c3 c4 c5 c6 c7 c8 c9 c10 c11
            obtain ⟨c0, c1, c2, c3, c4, c5, c6, c7, c8, c9, c10, c11⟩ := HL.out.cells
            (try replace Hq3 := Lib.hid (RatN.below (by first | exact Hq3.out | exact Hq3.out.drew) bq4))
            (try replace Hq7 := Lib.hid (RatN.below (by first | exact Hq7.out | exact Hq7.out.drew) bq4))
            have Hq4 := Lib.hid hq4.now
            clear hq4
            clear bq4
            (try (go_wp2_with fail))
            refine hK.out _ _ (by first | exact HL.out.cells | exact HL.out.drew.cells) (fun hHeld => ?_)
            clear hK K
            (try simp only [Act.put, List.setIfInBounds_toArray, List.set_cons_zero, List.set_cons_succ])
            refine held_call (i := 23) rfl (by kernel_rfl) (by rfl) (fun K hK => ?_)
            clear hHeld
            simp only [List.getElem_toArray, List.getElem_cons_succ, List.getElem_cons_zero]
            go_simp
            refine (sameRat_true _ rq3 rq4 ((a / b) * b) a 38 (by decide) (Sz.mul (n := 25) (m := 12) (Sz.quo (n := 12) (m := 12) HSa.out HSb.out) HSb.out) (by first | exact Hq3.out | exact Hq3.out.drew) (by first | exact Hq4.out | exact Hq4.out.drew) (Rat.div_mul_cancel Hb0.out)).mono ?_
            rintro e wq5 ⟨rfl, bq5⟩
            replace HL := Lib.hid (LSt.below (by first | exact HL.out | exact HL.out.drew) bq5)
            clear c0 c1 c2 c3 c4 c5 c6 c7 c8 c9 c10 c11
            obtain ⟨c0, c1, c2, c3, c4, c5, c6, c7, c8, c9, c10, c11⟩ := HL.out.cells
            clear bq5
            (try (go_wp2_with fail))
            refine hK.out _ _ (by first | exact HL.out.cells | exact HL.out.drew.cells) (fun hHeld => ?_)
            clear hK K
            (try simp only [Act.put, List.setIfInBounds_toArray, List.set_cons_zero, List.set_cons_succ])
            refine held_take (i := 24) (v := ?_) (some 137) rfl rfl (by kernel_rfl) (by kernel_rfl) (by kernel_rfl) (fun _ _ _ h => h) (Or.inl ⟨by rfl, ?_⟩) hHeld ?_
            rotate_left 1
            · intro w hSw
              (try dsimp only at hSw)
              (first | (go_simp; done) | (go_simp; with_reducible rfl))
            (try simp only [Act.put, List.setIfInBounds_toArray, List.set_cons_zero, List.set_cons_succ])
            refine held_take (i := 25) (v := ?_) (some 138) rfl rfl (by kernel_rfl) (by kernel_rfl) (by kernel_rfl) (fun _ _ _ h => h) (Or.inl ⟨by rfl, ?_⟩) hHeld ?_
            rotate_left 1
            · intro w hSw
              (try dsimp only at hSw)
              (first | (go_simp; done) | (go_simp; with_reducible rfl))
            (try simp only [Act.put, List.setIfInBounds_toArray, List.set_cons_zero, List.set_cons_succ])
            refine held_take (i := 26) (v := ?_) (some 139) rfl rfl (by kernel_rfl) (by kernel_rfl) (by kernel_rfl) (fun _ _ _ h => h) (Or.inl ⟨by rfl, ?_⟩) hHeld ?_
            rotate_left 1
            · intro w hSw
              (try dsimp only at hSw)
              (first | (go_simp; done) | (go_simp; with_reducible rfl))
            (try simp only [Act.put, List.setIfInBounds_toArray, List.set_cons_zero, List.set_cons_succ])
            refine held_take (i := 27) (v := ?_) (some 140) rfl rfl (by kernel_rfl) (by kernel_rfl) (by kernel_rfl) (fun _ _ _ h => h) (Or.inl ⟨by rfl, ?_⟩) hHeld ?_
            rotate_left 1
            · intro w hSw
              (try dsimp only at hSw)
              (first | (go_simp; done) | (go_simp; with_reducible rfl))
            (try simp only [Act.put, List.setIfInBounds_toArray, List.set_cons_zero, List.set_cons_succ])
            refine held_take (i := 28) (v := ?_) (some 141) rfl rfl (by kernel_rfl) (by kernel_rfl) (by kernel_rfl) (fun _ _ _ h => h) (Or.inl ⟨by rfl, ?_⟩) hHeld ?_
            rotate_left 1
            · intro w hSw
              (try dsimp only at hSw)
              (first | (go_simp; done) | (go_simp; with_reducible rfl))
            (try simp only [Act.put, List.setIfInBounds_toArray, List.set_cons_zero, List.set_cons_succ])
            refine held_take (i := 30) (v := ?_) (some 143) rfl rfl (by kernel_rfl) (by kernel_rfl) (by kernel_rfl) (fun _ _ _ h => h) (Or.inl ⟨by rfl, ?_⟩) hHeld ?_
            rotate_left 1
            · intro w hSw
              (try dsimp only at hSw)
              (first | (go_simp; done) | (go_simp; with_reducible rfl))
            (try simp only [Act.put, List.setIfInBounds_toArray, List.set_cons_zero, List.set_cons_succ])
            refine held_take (i := 32) (v := ?_) (some 145) rfl rfl (by kernel_rfl) (by kernel_rfl) (by kernel_rfl) (fun _ _ _ h => h) (Or.inl ⟨by rfl, ?_⟩) hHeld ?_
            rotate_left 1
            · intro w hSw
              (try dsimp only at hSw)
              (first | (go_simp; done) | (go_simp; with_reducible rfl))
            (try simp only [Act.put, List.setIfInBounds_toArray, List.set_cons_zero, List.set_cons_succ])
            refine held_call (i := 29) rfl (by kernel_rfl) (by rfl) (fun K hK => ?_)
            clear hHeld
            simp only [List.getElem_toArray, List.getElem_cons_succ, List.getElem_cons_zero]
            go_simp
            refine (rmul_any _ ra rb a b 12 (by decide) (by decide) (RatD.mono (n := 12) (by first | exact HL.out.da | exact HL.out.da.drew) (by decide)) (RatD.mono (n := 12) (by first | exact HL.out.db | exact HL.out.db.drew) (by decide)) (by first | exact HL.out.tz | exact HL.out.drew.tz)).mono ?_
            rintro e wq6 ⟨rq6, rfl, hq6, bq6⟩
            replace HL := Lib.hid (LSt.below (by first | exact HL.out | exact HL.out.drew) bq6)
            clear c0 c1 c2 c3 c4 c5 c6 c7 c8 c9 c10 c11
            obtain ⟨c0, c1, c2, c3, c4, c5, c6, c7, c8, c9, c10, c11⟩ := HL.out.cells
            have Hq6 := Lib.hid hq6.now
            clear hq6
            clear bq6
            (try (go_wp2_with fail))
            refine hK.out _ _ (by first | exact HL.out.cells | exact HL.out.drew.cells) (fun hHeld => ?_)
            clear hK K
            (try simp only [Act.put, List.setIfInBounds_toArray, List.set_cons_zero, List.set_cons_succ])
            refine held_call (i := 31) rfl (by kernel_rfl) (by rfl) (fun K hK => ?_)
            clear hHeld
            simp only [List.getElem_toArray, List.getElem_cons_succ, List.getElem_cons_zero]
            go_simp
            refine (rquo_any _ rq6 rb (a * b) b 25 (by decide) (by decide) (RatN.rat (by first | exact Hq6.out | exact Hq6.out.drew) (Sz.up (Sz.mul (n := 12) (m := 12) HSa.out HSb.out) (by decide))) (RatD.mono (n := 12) (by first | exact HL.out.db | exact HL.out.db.drew) (by decide)) (by first | exact HL.out.tz | exact HL.out.drew.tz)).mono ?_
            rintro e wq7 ⟨rq7, rfl, hq7, bq7⟩
            replace HL := Lib.hid (LSt.below (by first | exact HL.out | exact HL.out.drew) bq7)
            clear c0 c1 c2 c3 c4 c5 c6 c7 c8 c9 c10 c11
            obtain ⟨c0, c1, c2, c3, c4, c5, c6, c7, c8, c9, c10, c11⟩ := HL.out.cells
            have Hq7 := Lib.hid hq7.now
            clear hq7
            clear bq7
            (try (go_wp2_with fail))
            refine hK.out _ _ (by first | exact HL.out.cells | exact HL.out.drew.cells) (fun hHeld => ?_)
            clear hK K
            (try simp only [Act.put, List.setIfInBounds_toArray, List.set_cons_zero, List.set_cons_succ])
            refine held_call (i := 33) rfl (by kernel_rfl) (by rfl) (fun K hK => ?_)
            clear hHeld
            simp only [List.getElem_toArray, List.getElem_cons_succ, List.getElem_cons_zero]
            go_simp
            refine (rnorm_any _ ra a 12 (by decide) (by decide) (RatD.mono (n := 12) (by first | exact HL.out.da | exact HL.out.da.drew) (by decide)) (by first | exact HL.out.tz | exact HL.out.drew.tz)).mono ?_
            rintro e wq4 ⟨rq4, rfl, hq4, bq4⟩
            replace HL := Lib.hid (LSt.below (by first | exact HL.out | exact HL.out.drew) bq4)
            clear c0 c1 c2 c3 c4 c5 c6 c7 c8 c9 c10 c11
            obtain ⟨c0, c1, c2, c3, c4, c5, c6, c7, c8, c9, c10, c11⟩ := HL.out.cells
            (try replace Hq3 := Lib.hid (RatN.below (by first | exact Hq3.out | exact Hq3.out.drew) bq4))
            (try replace Hq7 := Lib.hid (RatN.below (by first | exact Hq7.out | exact Hq7.out.drew) bq4))
            have Hq4 := Lib.hid hq4.now
            clear hq4
            clear bq4
            (try (go_wp2_with fail))
            refine hK.out _ _ (by first | exact HL.out.cells | exact HL.out.drew.cells) (fun hHeld => ?_)
            clear hK K
            (try simp only [Act.put, List.setIfInBounds_toArray, List.set_cons_zero, List.set_cons_succ])
            refine held_call (i := 34) rfl (by kernel_rfl) (by rfl) (fun K hK => ?_)
            clear hHeld
            simp only [List.getElem_toArray, List.getElem_cons_succ, List.getElem_cons_zero]
            go_simp
            refine (sameRat_true _ rq7 rq4 ((a * b) / b) a 38 (by decide) (Sz.quo (n := 25) (m := 12) (Sz.mul (n := 12) (m := 12) HSa.out HSb.out) HSb.out) (by first | exact Hq7.out | exact Hq7.out.drew) (by first | exact Hq4.out | exact Hq4.out.drew) (Rat.mul_div_cancel Hb0.out)).mono ?_
            rintro e wq8 ⟨rfl, bq8⟩
            replace HL := Lib.hid (LSt.below (by first | exact HL.out | exact HL.out.drew) bq8)
            clear c0 c1 c2 c3 c4 c5 c6 c7 c8 c9 c10 c11
            obtain ⟨c0, c1, c2, c3, c4, c5, c6, c7, c8, c9, c10, c11⟩ := HL.out.cells
            clear bq8
            (try (go_wp2_with fail))
            refine hK.out _ _ (by first | exact HL.out.cells | exact HL.out.drew.cells) (fun hHeld => ?_)
            clear hK K
            (try simp only [Act.put, List.setIfInBounds_toArray, List.set_cons_zero, List.set_cons_succ])
            refine held_take (i := 35) (v := ?_) (some 148) rfl rfl (by kernel_rfl) (by kernel_rfl) (by kernel_rfl) (fun _ _ _ h => h) (Or.inl ⟨by rfl, ?_⟩) hHeld ?_
            rotate_left 1
            · intro w hSw
              (try dsimp only at hSw)
              (first | (go_simp; done) | (go_simp; with_reducible rfl))
            (try simp only [Act.put, List.setIfInBounds_toArray, List.set_cons_zero, List.set_cons_succ])
            refine held_take (i := 36) (v := ?_) (some 149) rfl rfl (by kernel_rfl) (by kernel_rfl) (by kernel_rfl) (fun _ _ _ h => h) (Or.inl ⟨by rfl, ?_⟩) hHeld ?_
            rotate_left 1
            · intro w hSw
              (try dsimp only at hSw)
              (first | (go_simp; done) | (go_simp; with_reducible rfl))
            (try simp only [Act.put, List.setIfInBounds_toArray, List.set_cons_zero, List.set_cons_succ])
            refine held_take (i := 37) (v := ?_) (some 10) rfl rfl (by kernel_rfl) (by kernel_rfl) (by kernel_rfl) (fun _ _ _ h => h) (Or.inl ⟨by rfl, ?_⟩) hHeld ?_
            rotate_left 1
            · intro w hSw
              (try dsimp only at hSw)
              (first | (go_simp; done) | (go_simp; with_reducible rfl))
            (try simp only [Act.put, List.setIfInBounds_toArray, List.set_cons_zero, List.set_cons_succ])
            refine wpAnyH_done (by kernel_rfl) ?_ _
            refine NoPanic.normal ?_
            all_goals
              go_wp2_with fail
              go_meet
              exact ⟨rfl, by first | exact HL.out | exact HL.out.drew⟩
        · have Hb0 := Lib.hid (Rat.num_eq_zero.1 (Int.sign_eq_zero_iff_zero.1 hb0))
          clear hb0 Hsb
          as_aux_lemma =>
            refine wp_region_noPanic ?_
            refine wp_region_held_drew (S := (fun W => W.cell? ⟨w.heap.size, 0, none⟩ = some (.bool ra.num.neg) ∧ W.cell? ⟨w.heap.size, 1, none⟩ = some (.slice ra.num.A ra.num.k ra.num.c) ∧ W.cell? ⟨w.heap.size, 2, none⟩ = some (.bool ra.den.neg) ∧ W.cell? ⟨w.heap.size, 3, none⟩ = some (.slice ra.den.A ra.den.k ra.den.c) ∧ W.cell? ⟨w.heap.size + 1, 0, none⟩ = some (.bool rb.num.neg) ∧ W.cell? ⟨w.heap.size + 1, 1, none⟩ = some (.slice rb.num.A rb.num.k rb.num.c) ∧ W.cell? ⟨w.heap.size + 1, 2, none⟩ = some (.bool rb.den.neg) ∧ W.cell? ⟨w.heap.size + 1, 3, none⟩ = some (.slice rb.den.A rb.den.k rb.den.c) ∧ W.cell? ⟨w.heap.size + 1 + 1, 0, none⟩ = some (.bool rc.num.neg) ∧ W.cell? ⟨w.heap.size + 1 + 1, 1, none⟩ = some (.slice rc.num.A rc.num.k rc.num.c) ∧ W.cell? ⟨w.heap.size + 1 + 1, 2, none⟩ = some (.bool rc.den.neg) ∧ W.cell? ⟨w.heap.size + 1 + 1, 3, none⟩ = some (.slice rc.den.A rc.den.k rc.den.c))) (by kernel_rfl) (by first | exact HL.out.cells | exact HL.out.drew.cells) (fun hHeld => ?_)
            refine held_take (i := 0) (v := ?_) (some 113) rfl rfl (by kernel_rfl) (by kernel_rfl) (by kernel_rfl) (fun _ _ _ h => h) (Or.inl ⟨by rfl, ?_⟩) hHeld ?_
            rotate_left 1
            · intro w hSw
              (try dsimp only at hSw)
              (first | (go_simp; done) | (go_simp; with_reducible rfl))
            (try simp only [Act.put, List.setIfInBounds_toArray, List.set_cons_zero, List.set_cons_succ])
            refine held_call (i := 1) rfl (by kernel_rfl) (by rfl) (fun K hK => ?_)
            clear hHeld
            simp only [List.getElem_toArray, List.getElem_cons_succ, List.getElem_cons_zero]
            go_simp
            refine (rsign_zero _ rb b 12 (by decide) (RatD.mono (n := 12) (by first | exact HL.out.db | exact HL.out.db.drew) (by decide)) (Hb0.out)).mono ?_
            rintro e wq1 ⟨rfl, bq1⟩
            replace HL := Lib.hid (LSt.below (by first | exact HL.out | exact HL.out.drew) bq1)
            clear c0 c1 c2 c3 c4 c5 c6 c7 c8 c9 c10 c11
            obtain ⟨c0, c1, c2, c3, c4, c5, c6, c7, c8, c9, c10, c11⟩ := HL.out.cells
            clear bq1
            (try (go_wp2_with fail))
            refine hK.out _ _ (by first | exact HL.out.cells | exact HL.out.drew.cells) (fun hHeld => ?_)
            clear hK K
            (try simp only [Act.put, List.setIfInBounds_toArray, List.set_cons_zero, List.set_cons_succ])
            refine held_take (i := 2) (v := ?_) (some 115) rfl rfl (by kernel_rfl) (by kernel_rfl) (by kernel_rfl) (fun _ _ _ h => h) (Or.inl ⟨by rfl, ?_⟩) hHeld ?_
            rotate_left 1
            · intro w hSw
              (try dsimp only at hSw)
              (first | (go_simp; done) | (go_simp; with_reducible rfl))
            (try simp only [Act.put, List.setIfInBounds_toArray, List.set_cons_zero, List.set_cons_succ])
            refine held_take (i := 3) (v := ?_) (some 116) rfl rfl (by kernel_rfl) (by kernel_rfl) (by kernel_rfl) (fun _ _ _ h => h) (Or.inl ⟨by rfl, ?_⟩) hHeld ?_
            rotate_left 1
            · intro w hSw
              (try dsimp only at hSw)
              (first | (go_simp; done) | (go_simp; with_reducible rfl))
            (try simp only [Act.put, List.setIfInBounds_toArray, List.set_cons_zero, List.set_cons_succ])
            refine held_take (i := 4) (v := ?_) (some 117) rfl rfl (by kernel_rfl) (by kernel_rfl) (by kernel_rfl) (fun _ _ _ h => h) (Or.inl ⟨by rfl, ?_⟩) hHeld ?_
            rotate_left 1
            · intro w hSw
              (try dsimp only at hSw)
              (first | (go_simp; done) | (go_simp; with_reducible rfl))
            (try simp only [Act.put, List.setIfInBounds_toArray, List.set_cons_zero, List.set_cons_succ])
            refine held_take (i := 5) (v := ?_) (some 118) rfl rfl (by kernel_rfl) (by kernel_rfl) (by kernel_rfl) (fun _ _ _ h => h) (Or.inl ⟨by rfl, ?_⟩) hHeld ?_
            rotate_left 1
            · intro w hSw
              (try dsimp only at hSw)
              (first | (go_simp; done) | (go_simp; with_reducible rfl))
            (try simp only [Act.put, List.setIfInBounds_toArray, List.set_cons_zero, List.set_cons_succ])
            refine held_call (i := 6) rfl (by kernel_rfl) (by rfl) (fun K hK => ?_)
            clear hHeld
            simp only [List.getElem_toArray, List.getElem_cons_succ, List.getElem_cons_zero]
            go_simp
            refine (rquo_any _ ra rb a b 12 (by decide) (by decide) (RatD.mono (n := 12) (by first | exact HL.out.da | exact HL.out.da.drew) (by decide)) (RatD.mono (n := 12) (by first | exact HL.out.db | exact HL.out.db.drew) (by decide)) (by first | exact HL.out.tz | exact HL.out.drew.tz)).mono ?_
            rintro e wq2 ⟨rq2, rfl, hq2, bq2⟩
            replace HL := Lib.hid (LSt.below (by first | exact HL.out | exact HL.out.drew) bq2)
            clear c0 c1 c2 c3 c4 c5 c6 c7 c8 c9 c10 c11
            obtain ⟨c0, c1, c2, c3, c4, c5, c6, c7, c8, c9, c10, c11⟩ := HL.out.cells
            have Hq2 := Lib.hid hq2.now
            clear hq2
            clear bq2
            (try (go_wp2_with fail))
            refine hK.out _ _ (by first | exact HL.out.cells | exact HL.out.drew.cells) (fun hHeld => ?_)
            clear hK K
            (try simp only [Act.put, List.setIfInBounds_toArray, List.set_cons_zero, List.set_cons_succ])
            refine held_call (i := 7) rfl (by kernel_rfl) (by rfl) (fun K hK => ?_)
            clear hHeld
            simp only [List.getElem_toArray, List.getElem_cons_succ, List.getElem_cons_zero]
            go_simp
            refine (rsign_zero _ rq2 (a / b) 25 (by decide) (RatN.rat (by first | exact Hq2.out | exact Hq2.out.drew) (Sz.up (Sz.quo (n := 12) (m := 12) HSa.out HSb.out) (by decide))) (by rw [Hb0.out, Rat.div_def, Rat.inv_zero, Rat.mul_zero])).mono ?_
            rintro e wq3 ⟨rfl, bq3⟩
            replace HL := Lib.hid (LSt.below (by first | exact HL.out | exact HL.out.drew) bq3)
            clear c0 c1 c2 c3 c4 c5 c6 c7 c8 c9 c10 c11
            obtain ⟨c0, c1, c2, c3, c4, c5, c6, c7, c8, c9, c10, c11⟩ := HL.out.cells
            clear bq3
            (try (go_wp2_with fail))
            refine hK.out _ _ (by first | exact HL.out.cells | exact HL.out.drew.cells) (fun hHeld => ?_)
            clear hK K
            (try simp only [Act.put, List.setIfInBounds_toArray, List.set_cons_zero, List.set_cons_succ])
            refine held_take (i := 8) (v := ?_) (some 121) rfl rfl (by kernel_rfl) (by kernel_rfl) (by kernel_rfl) (fun _ _ _ h => h) (Or.inl ⟨by rfl, ?_⟩) hHeld ?_
            rotate_left 1
            · intro w hSw
              (try dsimp only at hSw)
              (first | (go_simp; done) | (go_simp; with_reducible rfl))
            (try simp only [Act.put, List.setIfInBounds_toArray, List.set_cons_zero, List.set_cons_succ])
            refine held_take (i := 9) (v := ?_) (some 122) rfl rfl (by kernel_rfl) (by kernel_rfl) (by kernel_rfl) (fun _ _ _ h => h) (Or.inl ⟨by rfl, ?_⟩) hHeld ?_
            rotate_left 1
            · intro w hSw
              (try dsimp only at hSw)
              (first | (go_simp; done) | (go_simp; with_reducible rfl))
            (try simp only [Act.put, List.setIfInBounds_toArray, List.set_cons_zero, List.set_cons_succ])
            refine held_take (i := 10) (v := ?_) (some 123) rfl rfl (by kernel_rfl) (by kernel_rfl) (by kernel_rfl) (fun _ _ _ h => h) (Or.inl ⟨by rfl, ?_⟩) hHeld ?_
            rotate_left 1
            · intro w hSw
              (try dsimp only at hSw)
              (first | (go_simp; done) | (go_simp; with_reducible rfl))
            (try simp only [Act.put, List.setIfInBounds_toArray, List.set_cons_zero, List.set_cons_succ])
            refine held_take (i := 11) (v := undef) (some 124) rfl rfl (by kernel_rfl) (by kernel_rfl) (by kernel_rfl) (fun _ _ _ h => h) (Or.inr ⟨by rfl, rfl⟩) hHeld ?_
            (try simp only [Act.put, List.setIfInBounds_toArray, List.set_cons_zero, List.set_cons_succ])
            refine held_skip (i := 12) (some 125) rfl rfl (by kernel_rfl) (by rfl) hHeld ?_
            (try simp only [Act.put, List.setIfInBounds_toArray, List.set_cons_zero, List.set_cons_succ])
            refine held_take (i := 13) (v := undef) (some 126) rfl rfl (by kernel_rfl) (by kernel_rfl) (by kernel_rfl) (fun _ _ _ h => h) (Or.inr ⟨by rfl, rfl⟩) hHeld ?_
            (try simp only [Act.put, List.setIfInBounds_toArray, List.set_cons_zero, List.set_cons_succ])
            refine held_take (i := 14) (v := undef) (some 127) rfl rfl (by kernel_rfl) (by kernel_rfl) (by kernel_rfl) (fun _ _ _ h => h) (Or.inr ⟨by rfl, rfl⟩) hHeld ?_
            (try simp only [Act.put, List.setIfInBounds_toArray, List.set_cons_zero, List.set_cons_succ])
            refine held_take (i := 15) (v := undef) (some 128) rfl rfl (by kernel_rfl) (by kernel_rfl) (by kernel_rfl) (fun _ _ _ h => h) (Or.inr ⟨by rfl, rfl⟩) hHeld ?_
            (try simp only [Act.put, List.setIfInBounds_toArray, List.set_cons_zero, List.set_cons_succ])
            refine held_take (i := 16) (v := undef) (some 129) rfl rfl (by kernel_rfl) (by kernel_rfl) (by kernel_rfl) (fun _ _ _ h => h) (Or.inr ⟨by rfl, rfl⟩) hHeld ?_
            (try simp only [Act.put, List.setIfInBounds_toArray, List.set_cons_zero, List.set_cons_succ])
            refine held_take (i := 17) (v := undef) (some 130) rfl rfl (by kernel_rfl) (by kernel_rfl) (by kernel_rfl) (fun _ _ _ h => h) (Or.inr ⟨by rfl, rfl⟩) hHeld ?_
            (try simp only [Act.put, List.setIfInBounds_toArray, List.set_cons_zero, List.set_cons_succ])
            refine held_take (i := 19) (v := undef) (some 132) rfl rfl (by kernel_rfl) (by kernel_rfl) (by kernel_rfl) (fun _ _ _ h => h) (Or.inr ⟨by rfl, rfl⟩) hHeld ?_
            (try simp only [Act.put, List.setIfInBounds_toArray, List.set_cons_zero, List.set_cons_succ])
            refine held_take (i := 21) (v := undef) (some 134) rfl rfl (by kernel_rfl) (by kernel_rfl) (by kernel_rfl) (fun _ _ _ h => h) (Or.inr ⟨by rfl, rfl⟩) hHeld ?_
            (try simp only [Act.put, List.setIfInBounds_toArray, List.set_cons_zero, List.set_cons_succ])
            refine held_skip (i := 18) (some 131) rfl rfl (by kernel_rfl) (by rfl) hHeld ?_
            (try simp only [Act.put, List.setIfInBounds_toArray, List.set_cons_zero, List.set_cons_succ])
            refine held_skip (i := 20) (some 133) rfl rfl (by kernel_rfl) (by rfl) hHeld ?_
            (try simp only [Act.put, List.setIfInBounds_toArray, List.set_cons_zero, List.set_cons_succ])
            refine held_skip (i := 22) (some 135) rfl rfl (by kernel_rfl) (by rfl) hHeld ?_
            (try simp only [Act.put, List.setIfInBounds_toArray, List.set_cons_zero, List.set_cons_succ])
            refine held_skip (i := 23) (some 136) rfl rfl (by kernel_rfl) (by rfl) hHeld ?_
            (try simp only [Act.put, List.setIfInBounds_toArray, List.set_cons_zero, List.set_cons_succ])
            refine held_take (i := 24) (v := undef) (some 137) rfl rfl (by kernel_rfl) (by kernel_rfl) (by kernel_rfl) (fun _ _ _ h => h) (Or.inr ⟨by rfl, rfl⟩) hHeld ?_
            (try simp only [Act.put, List.setIfInBounds_toArray, List.set_cons_zero, List.set_cons_succ])
            refine held_take (i := 25) (v := undef) (some 138) rfl rfl (by kernel_rfl) (by kernel_rfl) (by kernel_rfl) (fun _ _ _ h => h) (Or.inr ⟨by rfl, rfl⟩) hHeld ?_
            (try simp only [Act.put, List.setIfInBounds_toArray, List.set_cons_zero, List.set_cons_succ])
            refine held_take (i := 26) (v := undef) (some 139) rfl rfl (by kernel_rfl) (by kernel_rfl) (by kernel_rfl) (fun _ _ _ h => h) (Or.inr ⟨by rfl, rfl⟩) hHeld ?_
            (try simp only [Act.put, List.setIfInBounds_toArray, List.set_cons_zero, List.set_cons_succ])
            refine held_take (i := 27) (v := undef) (some 140) rfl rfl (by kernel_rfl) (by kernel_rfl) (by kernel_rfl) (fun _ _ _ h => h) (Or.inr ⟨by rfl, rfl⟩) hHeld ?_
            (try simp only [Act.put, List.setIfInBounds_toArray, List.set_cons_zero, List.set_cons_succ])
            refine held_take (i := 28) (v := undef) (some 141) rfl rfl (by kernel_rfl) (by kernel_rfl) (by kernel_rfl) (fun _ _ _ h => h) (Or.inr ⟨by rfl, rfl⟩) hHeld ?_
            (try simp only [Act.put, List.setIfInBounds_toArray, List.set_cons_zero, List.set_cons_succ])
            refine held_take (i := 30) (v := undef) (some 143) rfl rfl (by kernel_rfl) (by kernel_rfl) (by kernel_rfl) (fun _ _ _ h => h) (Or.inr ⟨by rfl, rfl⟩) hHeld ?_
            (try simp only [Act.put, List.setIfInBounds_toArray, List.set_cons_zero, List.set_cons_succ])
            refine held_take (i := 32) (v := undef) (some 145) rfl rfl (by kernel_rfl) (by kernel_rfl) (by kernel_rfl) (fun _ _ _ h => h) (Or.inr ⟨by rfl, rfl⟩) hHeld ?_
            (try simp only [Act.put, List.setIfInBounds_toArray, List.set_cons_zero, List.set_cons_succ])
            refine held_skip (i := 29) (some 142) rfl rfl (by kernel_rfl) (by rfl) hHeld ?_
            (try simp only [Act.put, List.setIfInBounds_toArray, List.set_cons_zero, List.set_cons_succ])
            refine held_skip (i := 31) (some 144) rfl rfl (by kernel_rfl) (by rfl) hHeld ?_
            (try simp only [Act.put, List.setIfInBounds_toArray, List.set_cons_zero, List.set_cons_succ])
            refine held_skip (i := 33) (some 146) rfl rfl (by kernel_rfl) (by rfl) hHeld ?_
            (try simp only [Act.put, List.setIfInBounds_toArray, List.set_cons_zero, List.set_cons_succ])
            refine held_skip (i := 34) (some 147) rfl rfl (by kernel_rfl) (by rfl) hHeld ?_
            (try simp only [Act.put, List.setIfInBounds_toArray, List.set_cons_zero, List.set_cons_succ])
            refine held_take (i := 35) (v := undef) (some 148) rfl rfl (by kernel_rfl) (by kernel_rfl) (by kernel_rfl) (fun _ _ _ h => h) (Or.inr ⟨by rfl, rfl⟩) hHeld ?_
            (try simp only [Act.put, List.setIfInBounds_toArray, List.set_cons_zero, List.set_cons_succ])
            refine held_take (i := 36) (v := ?_) (some 149) rfl rfl (by kernel_rfl) (by kernel_rfl) (by kernel_rfl) (fun _ _ _ h => h) (Or.inl ⟨by rfl, ?_⟩) hHeld ?_
            rotate_left 1
            · intro w hSw
              (try dsimp only at hSw)
              (first | (go_simp; done) | (go_simp; with_reducible rfl))
            (try simp only [Act.put, List.setIfInBounds_toArray, List.set_cons_zero, List.set_cons_succ])
            refine held_take (i := 37) (v := ?_) (some 10) rfl rfl (by kernel_rfl) (by kernel_rfl) (by kernel_rfl) (fun _ _ _ h => h) (Or.inl ⟨by rfl, ?_⟩) hHeld ?_
            rotate_left 1
            · intro w hSw
              (try dsimp only at hSw)
              (first | (go_simp; done) | (go_simp; with_reducible rfl))
            (try simp only [Act.put, List.setIfInBounds_toArray, List.set_cons_zero, List.set_cons_succ])
            refine wpAnyH_done (by kernel_rfl) ?_ _
            refine NoPanic.normal ?_
            all_goals
              go_wp2_with fail
              go_meet
              exact ⟨rfl, by first | exact HL.out | exact HL.out.drew⟩
        · have Hb0 := Lib.hid (show b ≠ 0 from fun e => by rw [e] at hb0; simp at hb0)
          replace Hsb := Lib.hid (Hsb.out (1) hb0)
          clear hb0
          as_aux_lemma =>
            refine wp_region_noPanic ?_
            refine wp_region_held_drew (S := (fun W => W.cell? ⟨w.heap.size, 0, none⟩ = some (.bool ra.num.neg) ∧ W.cell? ⟨w.heap.size, 1, none⟩ = some (.slice ra.num.A ra.num.k ra.num.c) ∧ W.cell? ⟨w.heap.size, 2, none⟩ = some (.bool ra.den.neg) ∧ W.cell? ⟨w.heap.size, 3, none⟩ = some (.slice ra.den.A ra.den.k ra.den.c) ∧ W.cell? ⟨w.heap.size + 1, 0, none⟩ = some (.bool rb.num.neg) ∧ W.cell? ⟨w.heap.size + 1, 1, none⟩ = some (.slice rb.num.A rb.num.k rb.num.c) ∧ W.cell? ⟨w.heap.size + 1, 2, none⟩ = some (.bool rb.den.neg) ∧ W.cell? ⟨w.heap.size + 1, 3, none⟩ = some (.slice rb.den.A rb.den.k rb.den.c) ∧ W.cell? ⟨w.heap.size + 1 + 1, 0, none⟩ = some (.bool rc.num.neg) ∧ W.cell? ⟨w.heap.size + 1 + 1, 1, none⟩ = some (.slice rc.num.A rc.num.k rc.num.c) ∧ W.cell? ⟨w.heap.size + 1 + 1, 2, none⟩ = some (.bool rc.den.neg) ∧ W.cell? ⟨w.heap.size + 1 + 1, 3, none⟩ = some (.slice rc.den.A rc.den.k rc.den.c))) (by kernel_rfl) (by first | exact HL.out.cells | exact HL.out.drew.cells) (fun hHeld => ?_)
            refine held_take (i := 0) (v := ?_) (some 113) rfl rfl (by kernel_rfl) (by kernel_rfl) (by kernel_rfl) (fun _ _ _ h => h) (Or.inl ⟨by rfl, ?_⟩) hHeld ?_
            rotate_left 1
            · intro w hSw
              (try dsimp only at hSw)
              (first | (go_simp; done) | (go_simp; with_reducible rfl))
            (try simp only [Act.put, List.setIfInBounds_toArray, List.set_cons_zero, List.set_cons_succ])
            refine held_call (i := 1) rfl (by kernel_rfl) (by rfl) (fun K hK => ?_)
            clear hHeld
            simp only [List.getElem_toArray, List.getElem_cons_succ, List.getElem_cons_zero]
            go_simp
            refine (Hsb.out _ (RatD.mono (n := 12) (by first | exact HL.out.db | exact HL.out.db.drew) (by decide))).mono ?_
            rintro e wq1 ⟨rfl, bq1⟩
            replace HL := Lib.hid (LSt.below (by first | exact HL.out | exact HL.out.drew) bq1)
            clear c0 c1 c2 c3 c4 c5 c6 c7 c8 c9 c10 c11
            obtain ⟨c0, c1, c2, c3, c4, c5, c6, c7, c8, c9, c10, c11⟩ := HL.out.cells
            clear bq1
            (try (go_wp2_with fail))
            refine hK.out _ _ (by first | exact HL.out.cells | exact HL.out.drew.cells) (fun hHeld => ?_)
            clear hK K
            (try simp only [Act.put, List.setIfInBounds_toArray, List.set_cons_zero, List.set_cons_succ])
            refine held_take (i := 2) (v := ?_) (some 115) rfl rfl (by kernel_rfl) (by kernel_rfl) (by kernel_rfl) (fun _ _ _ h => h) (Or.inl ⟨by rfl, ?_⟩) hHeld ?_
            rotate_left 1
            · intro w hSw
              (try dsimp only at hSw)
              (first | (go_simp; done) | (go_simp; with_reducible rfl))
            (try simp only [Act.put, List.setIfInBounds_toArray, List.set_cons_zero, List.set_cons_succ])
            refine held_take (i := 3) (v := ?_) (some 116) rfl rfl (by kernel_rfl) (by kernel_rfl) (by kernel_rfl) (fun _ _ _ h => h) (Or.inl ⟨by rfl, ?_⟩) hHeld ?_
            rotate_left 1
            · intro w hSw
              (try dsimp only at hSw)
              (first | (go_simp; done) | (go_simp; with_reducible rfl))
            (try simp only [Act.put, List.setIfInBounds_toArray, List.set_cons_zero, List.set_cons_succ])
            refine held_take (i := 4) (v := undef) (some 117) rfl rfl (by kernel_rfl) (by kernel_rfl) (by kernel_rfl) (fun _ _ _ h => h) (Or.inr ⟨by rfl, rfl⟩) hHeld ?_
            (try simp only [Act.put, List.setIfInBounds_toArray, List.set_cons_zero, List.set_cons_succ])
            refine held_take (i := 5) (v := undef) (some 118) rfl rfl (by kernel_rfl) (by kernel_rfl) (by kernel_rfl) (fun _ _ _ h => h) (Or.inr ⟨by rfl, rfl⟩) hHeld ?_
            (try simp only [Act.put, List.setIfInBounds_toArray, List.set_cons_zero, List.set_cons_succ])
            refine held_skip (i := 6) (some 119) rfl rfl (by kernel_rfl) (by rfl) hHeld ?_
            (try simp only [Act.put, List.setIfInBounds_toArray, List.set_cons_zero, List.set_cons_succ])
            refine held_skip (i := 7) (some 120) rfl rfl (by kernel_rfl) (by rfl) hHeld ?_
            (try simp only [Act.put, List.setIfInBounds_toArray, List.set_cons_zero, List.set_cons_succ])
            refine held_take (i := 8) (v := undef) (some 121) rfl rfl (by kernel_rfl) (by kernel_rfl) (by kernel_rfl) (fun _ _ _ h => h) (Or.inr ⟨by rfl, rfl⟩) hHeld ?_
            (try simp only [Act.put, List.setIfInBounds_toArray, List.set_cons_zero, List.set_cons_succ])
            refine held_take (i := 9) (v := ?_) (some 122) rfl rfl (by kernel_rfl) (by kernel_rfl) (by kernel_rfl) (fun _ _ _ h => h) (Or.inl ⟨by rfl, ?_⟩) hHeld ?_
            rotate_left 1
            · intro w hSw
              (try dsimp only at hSw)
              (first | (go_simp; done) | (go_simp; with_reducible rfl))
            (try simp only [Act.put, List.setIfInBounds_toArray, List.set_cons_zero, List.set_cons_succ])
            refine held_take (i := 10) (v := ?_) (some 123) rfl rfl (by kernel_rfl) (by kernel_rfl) (by kernel_rfl) (fun _ _ _ h => h) (Or.inl ⟨by rfl, ?_⟩) hHeld ?_
            rotate_left 1
            · intro w hSw
              (try dsimp only at hSw)
              (first | (go_simp; done) | (go_simp; with_reducible rfl))
            (try simp only [Act.put, List.setIfInBounds_toArray, List.set_cons_zero, List.set_cons_succ])
            refine held_take (i := 11) (v := ?_) (some 124) rfl rfl (by kernel_rfl) (by kernel_rfl) (by kernel_rfl) (fun _ _ _ h => h) (Or.inl ⟨by rfl, ?_⟩) hHeld ?_
            rotate_left 1
            · intro w hSw
              (try dsimp only at hSw)
              (first | (go_simp; done) | (go_simp; with_reducible rfl))
            (try simp only [Act.put, List.setIfInBounds_toArray, List.set_cons_zero, List.set_cons_succ])
            refine held_call (i := 12) rfl (by kernel_rfl) (by rfl) (fun K hK => ?_)
            clear hHeld
            simp only [List.getElem_toArray, List.getElem_cons_succ, List.getElem_cons_zero]
            go_simp
            refine (Hsb.out _ (RatD.mono (n := 12) (by first | exact HL.out.db | exact HL.out.db.drew) (by decide))).mono ?_
            rintro e wq1 ⟨rfl, bq1⟩
            replace HL := Lib.hid (LSt.below (by first | exact HL.out | exact HL.out.drew) bq1)
            clear c0 c1 c2 c3 c4 c5 c6 c7 c8 c9 c10 c11
            obtain ⟨c0, c1, c2, c3, c4, c5, c6, c7, c8, c9, c10, c11⟩ := HL.out.cells
            clear bq1
            (try (go_wp2_with fail))
            refine hK.out _ _ (by first | exact HL.out.cells | exact HL.out.drew.cells) (fun hHeld => ?_)
            clear hK K
            (try simp only [Act.put, List.setIfInBounds_toArray, List.set_cons_zero, List.set_cons_succ])
            refine held_take (i := 13) (v := ?_) (some 126) rfl rfl (by kernel_rfl) (by kernel_rfl) (by kernel_rfl) (fun _ _ _ h => h) (Or.inl ⟨by rfl, ?_⟩) hHeld ?_
            rotate_left 1
            · intro w hSw
              (try dsimp only at hSw)
              (first | (go_simp; done) | (go_simp; with_reducible rfl))
            (try simp only [Act.put, List.setIfInBounds_toArray, List.set_cons_zero, List.set_cons_succ])
            refine held_take (i := 14) (v := ?_) (some 127) rfl rfl (by kernel_rfl) (by kernel_rfl) (by kernel_rfl) (fun _ _ _ h => h) (Or.inl ⟨by rfl, ?_⟩) hHeld ?_
            rotate_left 1
            · intro w hSw
              (try dsimp only at hSw)
              (first | (go_simp; done) | (go_simp; with_reducible rfl))
            (try simp only [Act.put, List.setIfInBounds_toArray, List.set_cons_zero, List.set_cons_succ])
            refine held_take (i := 15) (v := ?_) (some 128) rfl rfl (by kernel_rfl) (by kernel_rfl) (by kernel_rfl) (fun _ _ _ h => h) (Or.inl ⟨by rfl, ?_⟩) hHeld ?_
            rotate_left 1
            · intro w hSw
              (try dsimp only at hSw)
              (first | (go_simp; done) | (go_simp; with_reducible rfl))
            (try simp only [Act.put, List.setIfInBounds_toArray, List.set_cons_zero, List.set_cons_succ])
            refine held_take (i := 16) (v := ?_) (some 129) rfl rfl (by kernel_rfl) (by kernel_rfl) (by kernel_rfl) (fun _ _ _ h => h) (Or.inl ⟨by rfl, ?_⟩) hHeld ?_
            rotate_left 1
            · intro w hSw
              (try dsimp only at hSw)
              (first | (go_simp; done) | (go_simp; with_reducible rfl))
            (try simp only [Act.put, List.setIfInBounds_toArray, List.set_cons_zero, List.set_cons_succ])
            refine held_take (i := 17) (v := ?_) (some 130) rfl rfl (by kernel_rfl) (by kernel_rfl) (by kernel_rfl) (fun _ _ _ h => h) (Or.inl ⟨by rfl, ?_⟩) hHeld ?_
            rotate_left 1
            · intro w hSw
              (try dsimp only at hSw)
              (first | (go_simp; done) | (go_simp; with_reducible rfl))
            (try simp only [Act.put, List.setIfInBounds_toArray, List.set_cons_zero, List.set_cons_succ])
            refine held_take (i := 19) (v := ?_) (some 132) rfl rfl (by kernel_rfl) (by kernel_rfl) (by kernel_rfl) (fun _ _ _ h => h) (Or.inl ⟨by rfl, ?_⟩) hHeld ?_
            rotate_left 1
            · intro w hSw
              (try dsimp only at hSw)
              (first | (go_simp; done) | (go_simp; with_reducible rfl))
            (try simp only [Act.put, List.setIfInBounds_toArray, List.set_cons_zero, List.set_cons_succ])
            refine held_take (i := 21) (v := ?_) (some 134) rfl rfl (by kernel_rfl) (by kernel_rfl) (by kernel_rfl) (fun _ _ _ h => h) (Or.inl ⟨by rfl, ?_⟩) hHeld ?_
            rotate_left 1
            · intro w hSw
              (try dsimp only at hSw)
              (first | (go_simp; done) | (go_simp; with_reducible rfl))
            (try simp only [Act.put, List.setIfInBounds_toArray, List.set_cons_zero, List.set_cons_succ])
            refine held_call (i := 18) rfl (by kernel_rfl) (by rfl) (fun K hK => ?_)
            clear hHeld
            simp only [List.getElem_toArray, List.getElem_cons_succ, List.getElem_cons_zero]
            go_simp
            refine (rquo_any _ ra rb a b 12 (by decide) (by decide) (RatD.mono (n := 12) (by first | exact HL.out.da | exact HL.out.da.drew) (by decide)) (RatD.mono (n := 12) (by first | exact HL.out.db | exact HL.out.db.drew) (by decide)) (by first | exact HL.out.tz | exact HL.out.drew.tz)).mono ?_
            rintro e wq2 ⟨rq2, rfl, hq2, bq2⟩
            replace HL := Lib.hid (LSt.below (by first | exact HL.out | exact HL.out.drew) bq2)
            clear c0 c1 c2 c3 c4 c5 c6 c7 c8 c9 c10 c11
            obtain ⟨c0, c1, c2, c3, c4, c5, c6, c7, c8, c9, c10, c11⟩ := HL.out.cells
            have Hq2 := Lib.hid hq2.now
            clear hq2
            clear bq2
            (try (go_wp2_with fail))
            refine hK.out _ _ (by first | exact HL.out.cells | exact HL.out.drew.cells) (fun hHeld => ?_)
            clear hK K
            (try simp only [Act.put, List.setIfInBounds_toArray, List.set_cons_zero, List.set_cons_succ])
            refine held_call (i := 20) rfl (by kernel_rfl) (by rfl) (fun K hK => ?_)
            clear hHeld
            simp only [List.getElem_toArray, List.getElem_cons_succ, List.getElem_cons_zero]
            go_simp
            refine (rmul_any _ rq2 rb (a / b) b 25 (by decide) (by decide) (RatN.rat (by first | exact Hq2.out | exact Hq2.out.drew) (Sz.up (Sz.quo (n := 12) (m := 12) HSa.out HSb.out) (by decide))) (RatD.mono (n := 12) (by first | exact HL.out.db | exact HL.out.db.drew) (by decide)) (by first | exact HL.out.tz | exact HL.out.drew.tz)).mono ?_
            rintro e wq3 ⟨rq3, rfl, hq3, bq3⟩
            replace HL := Lib.hid (LSt.below (by first | exact HL.out | exact HL.out.drew) bq3)
            clear c0 c1 c2 c3 c4 c5 c6 c7 c8 c9 c10 c11
            obtain ⟨c0, c1, c2, c3, c4, c5, c6, c7, c8, c9, c10, c11⟩ := HL.out.cells
            have Hq3 := Lib.hid hq3.now
            clear hq3
            clear bq3
            (try (go_wp2_with fail))
            refine hK.out _ _ (by first | exact HL.out.cells | exact HL.out.drew.cells) (fun hHeld => ?_)
            clear hK K
            (try simp only [Act.put, List.setIfInBounds_toArray, List.set_cons_zero, List.set_cons_succ])
            refine held_call (i := 22) rfl (by kernel_rfl) (by rfl) (fun K hK => ?_)
            clear hHeld
            simp only [List.getElem_toArray, List.getElem_cons_succ, List.getElem_cons_zero]
            go_simp
            refine (rnorm_any _ ra a 12 (by decide) (by decide) (RatD.mono (n := 12) (by first | exact HL.out.da | exact HL.out.da.drew) (by decide)) (by first | exact HL.out.tz | exact HL.out.drew.tz)).mono ?_
            rintro e wq4 ⟨rq4, rfl, hq4, bq4⟩
            replace HL := Lib.hid (LSt.below (by first | exact HL.out | exact HL.out.drew) bq4)
            clear c0 c1 c2 c3 c4 c5 c6 c7 c8 c9 c10 c11
            obtain ⟨c0, c1, c2, c3, c4, c5, c6, c7, c8, c9, c10, c11⟩ := HL.out.cells
            (try replace Hq3 := Lib.hid (RatN.below (by first | exact Hq3.out | exact Hq3.out.drew) bq4))
            (try replace Hq7 := Lib.hid (RatN.below (by first | exact Hq7.out | exact Hq7.out.drew) bq4))
            have Hq4 := Lib.hid hq4.now
            clear hq4
            clear bq4
            (try (go_wp2_with fail))
            refine hK.out _ _ (by first | exact HL.out.cells | exact HL.out.drew.cells) (fun hHeld => ?_)
            clear hK K
            (try simp only [Act.put, List.setIfInBounds_toArray, List.set_cons_zero, List.set_cons_succ])
            refine held_call (i := 23) rfl (by kernel_rfl) (by rfl) (fun K hK => ?_)
            clear hHeld
            simp only [List.getElem_toArray, List.getElem_cons_succ, List.getElem_cons_zero]
            go_simp
            refine (sameRat_true _ rq3 rq4 ((a / b) * b) a 38 (by decide) (Sz.mul (n := 25) (m := 12) (Sz.quo (n := 12) (m := 12) HSa.out HSb.out) HSb.out) (by first | exact Hq3.out | exact Hq3.out.drew) (by first | exact Hq4.out | exact Hq4.out.drew) (Rat.div_mul_cancel Hb0.out)).mono ?_
            rintro e wq5 ⟨rfl, bq5⟩
            replace HL := Lib.hid (LSt.below (by first | exact HL.out | exact HL.out.drew) bq5)
            clear c0 c1 c2 c3 c4 c5 c6 c7 c8 c9 c10 c11
            obtain ⟨c0, c1, c2, c3, c4, c5, c6, c7, c8, c9, c10, c11⟩ := HL.out.cells
            clear bq5
            (try (go_wp2_with fail))
            refine hK.out _ _ (by first | exact HL.out.cells | exact HL.out.drew.cells) (fun hHeld => ?_)
            clear hK K
            (try simp only [Act.put, List.setIfInBounds_toArray, List.set_cons_zero, List.set_cons_succ])
            refine held_take (i := 24) (v := ?_) (some 137) rfl rfl (by kernel_rfl) (by kernel_rfl) (by kernel_rfl) (fun _ _ _ h => h) (Or.inl ⟨by rfl, ?_⟩) hHeld ?_
            rotate_left 1
            · intro w hSw
              (try dsimp only at hSw)
              (first | (go_simp; done) | (go_simp; with_reducible rfl))
            (try simp only [Act.put, List.setIfInBounds_toArray, List.set_cons_zero, List.set_cons_succ])
            refine held_take (i := 25) (v := ?_) (some 138) rfl rfl (by kernel_rfl) (by kernel_rfl) (by kernel_rfl) (fun _ _ _ h => h) (Or.inl ⟨by rfl, ?_⟩) hHeld ?_
            rotate_left 1
            · intro w hSw
              (try dsimp only at hSw)
              (first | (go_simp; done) | (go_simp; with_reducible rfl))
            (try simp only [Act.put, List.setIfInBounds_toArray, List.set_cons_zero, List.set_cons_succ])
            refine held_take (i := 26) (v := ?_) (some 139) rfl rfl (by kernel_rfl) (by kernel_rfl) (by kernel_rfl) (fun _ _ _ h => h) (Or.inl ⟨by rfl, ?_⟩) hHeld ?_
            rotate_left 1
            · intro w hSw
              (try dsimp only at hSw)
              (first | (go_simp; done) | (go_simp; with_reducible rfl))
            (try simp only [Act.put, List.setIfInBounds_toArray, List.set_cons_zero, List.set_cons_succ])
            refine held_take (i := 27) (v := ?_) (some 140) rfl rfl (by kernel_rfl) (by kernel_rfl) (by kernel_rfl) (fun _ _ _ h => h) (Or.inl ⟨by rfl, ?_⟩) hHeld ?_
            rotate_left 1
            · intro w hSw
              (try dsimp only at hSw)
              (first | (go_simp; done) | (go_simp; with_reducible rfl))
            (try simp only [Act.put, List.setIfInBounds_toArray, List.set_cons_zero, List.set_cons_succ])
            refine held_take (i := 28) (v := ?_) (some 141) rfl rfl (by kernel_rfl) (by kernel_rfl) (by kernel_rfl) (fun _ _ _ h => h) (Or.inl ⟨by rfl, ?_⟩) hHeld ?_
            rotate_left 1
            · intro w hSw
              (try dsimp only at hSw)
              (first | (go_simp; done) | (go_simp; with_reducible rfl))
            (try simp only [Act.put, List.setIfInBounds_toArray, List.set_cons_zero, List.set_cons_succ])
            refine held_take (i := 30) (v := ?_) (some 143) rfl rfl (by kernel_rfl) (by kernel_rfl) (by kernel_rfl) (fun _ _ _ h => h) (Or.inl ⟨by rfl, ?_⟩) hHeld ?_
            rotate_left 1
            · intro w hSw
              (try dsimp only at hSw)
              (first | (go_simp; done) | (go_simp; with_reducible rfl))
            (try simp only [Act.put, List.setIfInBounds_toArray, List.set_cons_zero, List.set_cons_succ])
            refine held_take (i := 32) (v := ?_) (some 145) rfl rfl (by kernel_rfl) (by kernel_rfl) (by kernel_rfl) (fun _ _ _ h => h) (Or.inl ⟨by rfl, ?_⟩) hHeld ?_
            rotate_left 1
            · intro w hSw
              (try dsimp only at hSw)
              (first | (go_simp; done) | (go_simp; with_reducible rfl))
            (try simp only [Act.put, List.setIfInBounds_toArray, List.set_cons_zero, List.set_cons_succ])
            refine held_call (i := 29) rfl (by kernel_rfl) (by rfl) (fun K hK => ?_)
            clear hHeld
            simp only [List.getElem_toArray, List.getElem_cons_succ, List.getElem_cons_zero]
            go_simp
            refine (rmul_any _ ra rb a b 12 (by decide) (by decide) (RatD.mono (n := 12) (by first | exact HL.out.da | exact HL.out.da.drew) (by decide)) (RatD.mono (n := 12) (by first | exact HL.out.db | exact HL.out.db.drew) (by decide)) (by first | exact HL.out.tz | exact HL.out.drew.tz)).mono ?_
            rintro e wq6 ⟨rq6, rfl, hq6, bq6⟩
            replace HL := Lib.hid (LSt.below (by first | exact HL.out | exact HL.out.drew) bq6)
            clear c0 c1 c2 c3 c4 c5 c6 c7 c8 c9 c10 c11
            obtain ⟨c0, c1, c2, c3, c4, c5, c6, c7, c8, c9, c10, c11⟩ := HL.out.cells
            have Hq6 := Lib.hid hq6.now
            clear hq6
            clear bq6
            (try (go_wp2_with fail))
            refine hK.out _ _ (by first | exact HL.out.cells | exact HL.out.drew.cells) (fun hHeld => ?_)
            clear hK K
            (try simp only [Act.put, List.setIfInBounds_toArray, List.set_cons_zero, List.set_cons_succ])
            refine held_call (i := 31) rfl (by kernel_rfl) (by rfl) (fun K hK => ?_)
            clear hHeld
            simp only [List.getElem_toArray, List.getElem_cons_succ, List.getElem_cons_zero]
            go_simp
            refine (rquo_any _ rq6 rb (a * b) b 25 (by decide) (by decide) (RatN.rat (by first | exact Hq6.out | exact Hq6.out.drew) (Sz.up (Sz.mul (n := 12) (m := 12) HSa.out HSb.out) (by decide))) (RatD.mono (n := 12) (by first | exact HL.out.db | exact HL.out.db.drew) (by decide)) (by first | exact HL.out.tz | exact HL.out.drew.tz)).mono ?_
            rintro e wq7 ⟨rq7, rfl, hq7, bq7⟩
            replace HL := Lib.hid (LSt.below (by first | exact HL.out | exact HL.out.drew) bq7)
            clear c0 c1 c2 c3 c4 c5 c6 c7 c8 c9 c10 c11
            obtain ⟨c0, c1, c2, c3, c4, c5, c6, c7, c8, c9, c10, c11⟩ := HL.out.cells
            have Hq7 := Lib.hid hq7.now
            clear hq7
            clear bq7
            (try (go_wp2_with fail))
            refine hK.out _ _ (by first | exact HL.out.cells | exact HL.out.drew.cells) (fun hHeld => ?_)
            clear hK K
            (try simp only [Act.put, List.setIfInBounds_toArray, List.set_cons_zero, List.set_cons_succ])
            refine held_call (i := 33) rfl (by kernel_rfl) (by rfl) (fun K hK => ?_)
            clear hHeld
            simp only [List.getElem_toArray, List.getElem_cons_succ, List.getElem_cons_zero]
            go_simp
            refine (rnorm_any _ ra a 12 (by decide) (by decide) (RatD.mono (n := 12) (by first | exact HL.out.da | exact HL.out.da.drew) (by decide)) (by first | exact HL.out.tz | exact HL.out.drew.tz)).mono ?_
            rintro e wq4 ⟨rq4, rfl, hq4, bq4⟩
            replace HL := Lib.hid (LSt.below (by first | exact HL.out | exact HL.out.drew) bq4)
            clear c0 c1 c2 c3 c4 c5 c6 c7 c8 c9 c10 c11
            obtain ⟨c0, c1, c2, c3, c4, c5, c6, c7, c8, c9, c10, c11⟩ := HL.out.cells
            (try replace Hq3 := Lib.hid (RatN.below (by first | exact Hq3.out | exact Hq3.out.drew) bq4))
            (try replace Hq7 := Lib.hid (RatN.below (by first | exact Hq7.out | exact Hq7.out.drew) bq4))
            have Hq4 := Lib.hid hq4.now
            clear hq4
            clear bq4
            (try (go_wp2_with fail))
            refine hK.out _ _ (by first | exact HL.out.cells | exact HL.out.drew.cells) (fun hHeld => ?_)
            clear hK K
            (try simp only [Act.put, List.setIfInBounds_toArray, List.set_cons_zero, List.set_cons_succ])
            refine held_call (i := 34) rfl (by kernel_rfl) (by rfl) (fun K hK => ?_)
            clear hHeld
            simp only [List.getElem_toArray, List.getElem_cons_succ, List.getElem_cons_zero]
            go_simp
            refine (sameRat_true _ rq7 rq4 ((a * b) / b) a 38 (by decide) (Sz.quo (n := 25) (m := 12) (Sz.mul (n := 12) (m := 12) HSa.out HSb.out) HSb.out) (by first | exact Hq7.out | exact Hq7.out.drew) (by first | exact Hq4.out | exact Hq4.out.drew) (Rat.mul_div_cancel Hb0.out)).mono ?_
            rintro e wq8 ⟨rfl, bq8⟩
            replace HL := Lib.hid (LSt.below (by first | exact HL.out | exact HL.out.drew) bq8)
            clear c0 c1 c2 c3 c4 c5 c6 c7 c8 c9 c10 c11
            obtain ⟨c0, c1, c2, c3, c4, c5, c6, c7, c8, c9, c10, c11⟩ := HL.out.cells
            clear bq8
            (try (go_wp2_with fail))
            refine hK.out _ _ (by first | exact HL.out.cells | exact HL.out.drew.cells) (fun hHeld => ?_)
            clear hK K
            (try simp only [Act.put, List.setIfInBounds_toArray, List.set_cons_zero, List.set_cons_succ])
            refine held_take (i := 35) (v := ?_) (some 148) rfl rfl (by kernel_rfl) (by kernel_rfl) (by kernel_rfl) (fun _ _ _ h => h) (Or.inl ⟨by rfl, ?_⟩) hHeld ?_
            rotate_left 1
            · intro w hSw
              (try dsimp only at hSw)
              (first | (go_simp; done) | (go_simp; with_reducible rfl))
            (try simp only [Act.put, List.setIfInBounds_toArray, List.set_cons_zero, List.set_cons_succ])
            refine held_take (i := 36) (v := ?_) (some 149) rfl rfl (by kernel_rfl) (by kernel_rfl) (by kernel_rfl) (fun _ _ _ h => h) (Or.inl ⟨by rfl, ?_⟩) hHeld ?_
            rotate_left 1
            · intro w hSw
              (try dsimp only at hSw)
              (first | (go_simp; done) | (go_simp; with_reducible rfl))
            (try simp only [Act.put, List.setIfInBounds_toArray, List.set_cons_zero, List.set_cons_succ])
            refine held_take (i := 37) (v := ?_) (some 10) rfl rfl (by kernel_rfl) (by kernel_rfl) (by kernel_rfl) (fun _ _ _ h => h) (Or.inl ⟨by rfl, ?_⟩) hHeld ?_
            rotate_left 1
            · intro w hSw
              (try dsimp only at hSw)
              (first | (go_simp; done) | (go_simp; with_reducible rfl))
            (try simp only [Act.put, List.setIfInBounds_toArray, List.set_cons_zero, List.set_cons_succ])
            refine wpAnyH_done (by kernel_rfl) ?_ _
            refine NoPanic.normal ?_
            all_goals
              go_wp2_with fail
              go_meet
              exact ⟨rfl, by first | exact HL.out | exact HL.out.drew⟩
      case rest =>
        obtain ⟨rfl, hL⟩ := hcut
        have HL := Lib.hid hL
        obtain ⟨c0, c1, c2, c3, c4, c5, c6, c7, c8, c9, c10, c11⟩ := hL.cells
        clear hL
        as_aux_lemma =>
          go_wp2_with fail
          first
          | (go_region_held3 (fun W => W.cell? ⟨w.heap.size, 0, none⟩ = some (.bool ra.num.neg) ∧ W.cell? ⟨w.heap.size, 1, none⟩ = some (.slice ra.num.A ra.num.k ra.num.c) ∧ W.cell? ⟨w.heap.size, 2, none⟩ = some (.bool ra.den.neg) ∧ W.cell? ⟨w.heap.size, 3, none⟩ = some (.slice ra.den.A ra.den.k ra.den.c) ∧ W.cell? ⟨w.heap.size + 1, 0, none⟩ = some (.bool rb.num.neg) ∧ W.cell? ⟨w.heap.size + 1, 1, none⟩ = some (.slice rb.num.A rb.num.k rb.num.c) ∧ W.cell? ⟨w.heap.size + 1, 2, none⟩ = some (.bool rb.den.neg) ∧ W.cell? ⟨w.heap.size + 1, 3, none⟩ = some (.slice rb.den.A rb.den.k rb.den.c) ∧ W.cell? ⟨w.heap.size + 1 + 1, 0, none⟩ = some (.bool rc.num.neg) ∧ W.cell? ⟨w.heap.size + 1 + 1, 1, none⟩ = some (.slice rc.num.A rc.num.k rc.num.c) ∧ W.cell? ⟨w.heap.size + 1 + 1, 2, none⟩ = some (.bool rc.den.neg) ∧ W.cell? ⟨w.heap.size + 1 + 1, 3, none⟩ = some (.slice rc.den.A rc.den.k rc.den.c)) (first | exact HL.out.cells | exact HL.out.drew.cells)
              (first
                | (go_at_call_of 26 (#[.agg #[.bool ra.num.neg, .slice ra.num.A ra.num.k ra.num.c, .bool ra.den.neg, .slice ra.den.A ra.den.k ra.den.c], .agg #[.bool rb.num.neg, .slice rb.num.A rb.num.k rb.num.c, .bool rb.den.neg, .slice rb.den.A rb.den.k rb.den.c]] : Array Value); go_must (refine (Hse.out _ (RatD.mono (n := 12) (by first | exact HL.out.da | exact HL.out.da.drew) (by decide)) (RatD.mono (n := 12) (by first | exact HL.out.db | exact HL.out.db.drew) (by decide))).mono ?_; rintro e wz1 ⟨rfl, bz1⟩; replace HL := Lib.hid (LSt.below (by first | exact HL.out | exact HL.out.drew) bz1); clear c0 c1 c2 c3 c4 c5 c6 c7 c8 c9 c10 c11; obtain ⟨c0, c1, c2, c3, c4, c5, c6, c7, c8, c9, c10, c11⟩ := HL.out.cells; clear bz1))
                | (go_at_call_of 22 (#[.agg #[.bool ra.num.neg, .slice ra.num.A ra.num.k ra.num.c, .bool ra.den.neg, .slice ra.den.A ra.den.k ra.den.c]] : Array Value); go_must (refine (rnorm_any _ ra a 12 (by decide) (by decide) (RatD.mono (n := 12) (by first | exact HL.out.da | exact HL.out.da.drew) (by decide)) (by first | exact HL.out.tz | exact HL.out.drew.tz)).mono ?_; rintro e wz2 ⟨rz2, rfl, hz2, bz2⟩; replace HL := Lib.hid (LSt.below (by first | exact HL.out | exact HL.out.drew) bz2); clear c0 c1 c2 c3 c4 c5 c6 c7 c8 c9 c10 c11; obtain ⟨c0, c1, c2, c3, c4, c5, c6, c7, c8, c9, c10, c11⟩ := HL.out.cells; have Hz2 := Lib.hid hz2.now; clear hz2; clear bz2))
                | (go_at_call_of 22 (#[.agg #[.bool rb.num.neg, .slice rb.num.A rb.num.k rb.num.c, .bool rb.den.neg, .slice rb.den.A rb.den.k rb.den.c]] : Array Value); go_must (refine (rnorm_any _ rb b 12 (by decide) (by decide) (RatD.mono (n := 12) (by first | exact HL.out.db | exact HL.out.db.drew) (by decide)) (by first | exact HL.out.tz | exact HL.out.drew.tz)).mono ?_; rintro e wz3 ⟨rz3, rfl, hz3, bz3⟩; replace HL := Lib.hid (LSt.below (by first | exact HL.out | exact HL.out.drew) bz3); clear c0 c1 c2 c3 c4 c5 c6 c7 c8 c9 c10 c11; obtain ⟨c0, c1, c2, c3, c4, c5, c6, c7, c8, c9, c10, c11⟩ := HL.out.cells; replace Hz2 := Lib.hid (RatN.below (by first | exact Hz2.out | exact Hz2.out.drew) bz3); have Hz3 := Lib.hid hz3.now; clear hz3; clear bz3))
                | (go_at_call_of 14 (#[.agg #[.bool rz2.num.neg, .slice rz2.num.A rz2.num.k rz2.num.c, .bool rz2.den.neg, .slice rz2.den.A rz2.den.k rz2.den.c], .agg #[.bool rz3.num.neg, .slice rz3.num.A rz3.num.k rz3.num.c, .bool rz3.den.neg, .slice rz3.den.A rz3.den.k rz3.den.c]] : Array Value); go_must (refine (Hsm.out _ rz2 rz3 (by first | exact Hz2.out | exact Hz2.out.drew) (by first | exact Hz3.out | exact Hz3.out.drew)).mono ?_; rintro e wz4 ⟨rfl, bz4⟩; replace HL := Lib.hid (LSt.below (by first | exact HL.out | exact HL.out.drew) bz4); clear c0 c1 c2 c3 c4 c5 c6 c7 c8 c9 c10 c11; obtain ⟨c0, c1, c2, c3, c4, c5, c6, c7, c8, c9, c10, c11⟩ := HL.out.cells; clear bz4))
                | (go_at_call_of 17 (#[] : Array Value); go_must (refine (awake_any _ (by first | exact HL.out.tz | exact HL.out.drew.tz) (by first | exact HL.out.tab | exact HL.out.drew.tab)).mono ?_; rintro e wz5 ⟨rfl, bz5⟩; replace HL := Lib.hid (LSt.below (by first | exact HL.out | exact HL.out.drew) bz5); clear c0 c1 c2 c3 c4 c5 c6 c7 c8 c9 c10 c11; obtain ⟨c0, c1, c2, c3, c4, c5, c6, c7, c8, c9, c10, c11⟩ := HL.out.cells; clear bz5))))
          | fail
          all_goals
            go_wp2_with fail
            go_ret
            exact ⟨rfl, by first | exact HL.out.bel | exact HL.out.drew.bel⟩

/-- the law at whatever three fractions -/
theorem ratioField_any (w : World) (ra : RV) (xa ya : Int) (ha : IntD ra.num xa ra.num.k w) (ha' : IntD ra.den ya ra.den.k w) (rb : RV) (xb yb : Int) (hb : IntD rb.num xb rb.num.k w) (hb' : IntD rb.den yb rb.den.k w) (rc : RV) (xc yc : Int) (hc : IntD rc.num xc rc.num.k w) (hc' : IntD rc.den yc rc.den.k w) (hz : Tz w) (ht : Tab w) :
    Calls Tryz.prog 5 #[.agg #[.bool ra.num.neg, .slice ra.num.A ra.num.k ra.num.c, .bool ra.den.neg, .slice ra.den.A ra.den.k ra.den.c], .agg #[.bool rb.num.neg, .slice rb.num.A rb.num.k rb.num.c, .bool rb.den.neg, .slice rb.den.A rb.den.k rb.den.c], .agg #[.bool rc.num.neg, .slice rc.num.A rc.num.k rc.num.c, .bool rc.den.neg, .slice rc.den.A rc.den.k rc.den.c]] w fun e w' => e = .returned (.bool true) ∧ Below w.heap.size w w' := by
  cases hsh : (shortR ra 12 && (shortR rb 12 && shortR rc 12))
  · exact field_long w ra rb rc hz ht hsh
  · have h := hsh
    unfold shortR at h
    simp only [Bool.and_eq_true, decide_eq_true_eq] at h
    obtain ⟨⟨a1, a2⟩, ⟨b1, b2⟩, c1, c2⟩ := h
    exact field_short w ra rb rc _ _ _ ⟨xa, ya, ha.mono a1, ha'.mono a2, rfl⟩ ⟨xb, yb, hb.mono b1, hb'.mono b2, rfl⟩ ⟨xc, yc, hc.mono c1, hc'.mono c2, rfl⟩ hz ht hsh
end Go.Proofs.YthffandpjjnkhaaGreatDoor
