/-
  tripwirelaw04.RatioNumbers: the walk.
-/
import Derived.Test.YtgghdedabpohbaaGreatDoorSE
import Derived.Test.YtgghdedabpohbaaGreatDoorSDX
import Derived.Test.YtgghdedabpohbaaGreatDoorRQ
import Derived.Deep.DeepMust
import Derived.Deep.DeepCutAuto
namespace Go.Proofs.YtgghdedabpohbaaGreatDoor
open Go.RowKit

/-- an operation of a drawn region that reads or moves, or is not wanted, taken first; its slot told -/
theorem held_take {P : Program} {md : Region.Mode} {ops : Array Oper} {Q : Exit → Act → World → Prop} {S : World → Prop} {i : Nat} {oi : Oper} {v : Value} {fuel : Nat} {listed : Array Bool} {a : Act} {w : World} (d : Option Nat) (hi : ops[i]? = some oi) (hd : oi.dst = d)
    (hs : Region.noSelect ops = true) (hf : Region.free md ops listed i = true) (hr : (Region.ready md ops listed).contains i = true)
    (hQ : ∀ c a w, Q (.panic c) (a.put d v) w → Q (.panic c) a w) (hy : YieldsIf P ops S oi v a) (hS : S w)
    (h : wpAnyH P md ops Q S fuel (listed.setIfInBounds i true) (a.put d v) w) : wpAnyH P md ops Q S (fuel + 1) listed a w := by
  subst hd; exact wpAnyH_take hi hs hf hr hQ hy hS h
/-- a call that is wanted, the only one that may come up -/
theorem held_call {P : Program} {md : Region.Mode} {ops : Array Oper} {Q : Exit → Act → World → Prop} {S : World → Prop} {i : Nat} {o : Oper} {fuel : Nat} {listed : Array Bool} {a : Act} {w : World} (hi : ops[i]? = some o)
    (hr : Region.ready md ops listed = [i]) (hw : Region.wanted o (yielded ops a.tmps) = true)
    (h : ∀ K : Act → World → Prop, Shut (∀ a w, S w → (S w → wpAnyH P md ops Q S fuel (listed.setIfInBounds i true) a w) → K a w) → Oper.wp P o a w K Q) : wpAnyH P md ops Q S (fuel + 1) listed a w := by
  refine wpAnyH_ready hr (by simp) (AllReadyH.cons hi (fun K hK => ?_) AllReadyH.nil)
  rw [if_pos hw]
  exact h K hK

/-- the boxes of the fixed examples -/
structure NSt (w W : World) (gf gc gz go : Nat) (jf jc : IV) (rz ro : RV) : Prop where
  bf : Blk W gf 48 #[.bool jf.neg, .slice jf.A jf.k jf.c]
  bc : Blk W gc 48 #[.bool jc.neg, .slice jc.A jc.k jc.c]
  bz : Blk W gz 50 #[.bool rz.num.neg, .slice rz.num.A rz.num.k rz.num.c, .bool rz.den.neg, .slice rz.den.A rz.den.k rz.den.c]
  bo : Blk W go 50 #[.bool ro.num.neg, .slice ro.num.A ro.num.k ro.num.c, .bool ro.den.neg, .slice ro.den.A ro.den.k ro.den.c]
  hf : IntN jf (-2) W
  hc : IntN jc (-1) W
  dz : RatD rz 0 3 W
  od : RatD ro (Rat.divInt (-6) (-4)) 3 W
  tz : Tz W
  tab : Tab W
  bel : Below w.heap.size w W
section
variable {w W W' : World} {gf gc gz go : Nat} {jf jc : IV} {rz ro : RV}
theorem NSt.below (h : NSt w W gf gc gz go jf jc rz ro) (hb : Below W.heap.size W W') : NSt w W' gf gc gz go jf jc rz ro :=
  ⟨h.bf.below hb h.bf.lt, h.bc.below hb h.bc.lt, h.bz.below hb h.bz.lt, h.bo.below hb h.bo.lt, (h.hf.old.below hb).now, (h.hc.old.below hb).now, h.dz.below hb, h.od.below hb, (h.tz.old.below hb).now, (h.tab.old.below hb).now, Below.after h.bel hb⟩
theorem NSt.drew (h : NSt w W gf gc gz go jf jc rz ro) : NSt w W.drew gf gc gz go jf jc rz ro :=
  ⟨h.bf, h.bc, h.bz, h.bo, h.hf.old.drew.now, h.hc.old.drew.now, h.dz.drew, h.od.drew, h.tz.old.drew.now, h.tab.old.drew.now, h.bel.drew⟩
theorem NSt.cells (h : NSt w W gf gc gz go jf jc rz ro) : W.cell? ⟨gf, 0, none⟩ = some (.bool jf.neg) ∧ W.cell? ⟨gf, 1, none⟩ = some (.slice jf.A jf.k jf.c) ∧ W.cell? ⟨gc, 0, none⟩ = some (.bool jc.neg) ∧ W.cell? ⟨gc, 1, none⟩ = some (.slice jc.A jc.k jc.c) ∧ W.cell? ⟨gz, 0, none⟩ = some (.bool rz.num.neg) ∧ W.cell? ⟨gz, 1, none⟩ = some (.slice rz.num.A rz.num.k rz.num.c) ∧ W.cell? ⟨gz, 2, none⟩ = some (.bool rz.den.neg) ∧ W.cell? ⟨gz, 3, none⟩ = some (.slice rz.den.A rz.den.k rz.den.c) ∧ W.cell? ⟨go, 0, none⟩ = some (.bool ro.num.neg) ∧ W.cell? ⟨go, 1, none⟩ = some (.slice ro.num.A ro.num.k ro.num.c) ∧ W.cell? ⟨go, 2, none⟩ = some (.bool ro.den.neg) ∧ W.cell? ⟨go, 3, none⟩ = some (.slice ro.den.A ro.den.k ro.den.c) :=
  ⟨h.bf.cell 0, h.bf.cell 1, h.bc.cell 0, h.bc.cell 1, h.bz.cell 0, h.bz.cell 1, h.bz.cell 2, h.bz.cell 3, h.bo.cell 0, h.bo.cell 1, h.bo.cell 2, h.bo.cell 3⟩
theorem NSt.tst (h : NSt w W gf gc gz go jf jc rz ro) : TSt w W := ⟨h.tz, h.tab, h.bel⟩
end
theorem sameInt_true (w : World) (i j : IV) (z : Int) (hz : IntN i z w) (hy : IntN j z w) (hl : z.natAbs < B64 ^ 1) :
    Calls Tryz.prog 53 #[.agg #[.bool i.neg, .slice i.A i.k i.c], .agg #[.bool j.neg, .slice j.A j.k j.c]] w fun e w' => e = .returned (.bool true) ∧ Below w.heap.size w w' := by
  have := sameInt_any w i j z z hz hy (Nat.le_trans (dlen_le hl) (by decide))
  rw [decide_eq_true rfl] at this
  exact this
theorem rsame_yes (w : World) (r s : RV) (a b : Rat) (n : Nat) (hn : n ≤ 400000000000) (h1n : 1 ≤ n) (h : RatD r a n w) (h' : RatD s b n w) (e : a = b) :
    Calls Tryz.prog 26 #[.agg #[.bool r.num.neg, .slice r.num.A r.num.k r.num.c, .bool r.den.neg, .slice r.den.A r.den.k r.den.c], .agg #[.bool s.num.neg, .slice s.num.A s.num.k s.num.c, .bool s.den.neg, .slice s.den.A s.den.k s.den.c]] w fun e w' => e = .returned (.bool true) ∧ Below w.heap.size w w' := by
  have := rsame_any w r s a b n hn h1n h h'
  rw [decide_eq_true e] at this
  exact this
theorem whole_is (w : World) (r : RV) (a : Rat) (n : Nat) (b : Bool) (hn : n ≤ 400000000000) (h1n : 1 ≤ n) (h : RatD r a n w) (e : decide (a.den = 1) = b) :
    Calls Tryz.prog 65 #[.agg #[.bool r.num.neg, .slice r.num.A r.num.k r.num.c, .bool r.den.neg, .slice r.den.A r.den.k r.den.c]] w fun e w' => e = .returned (.bool b) ∧ Below w.heap.size w w' := by
  have := rwholeis_any w r a n hn h1n h
  rw [e] at this
  exact this
theorem cmp_is (w : World) (r s : RV) (a b : Rat) (n : Nat) (k : Int) (hn : n ≤ 400000000000) (h1n : 1 ≤ n) (h : RatD r a n w) (h' : RatD s b n w) (e : cmpQ a b = k) :
    Calls Tryz.prog 44 #[.agg #[.bool r.num.neg, .slice r.num.A r.num.k r.num.c, .bool r.den.neg, .slice r.den.A r.den.k r.den.c], .agg #[.bool s.num.neg, .slice s.num.A s.num.k s.num.c, .bool s.den.neg, .slice s.den.A s.den.k s.den.c]] w fun e w' => e = .returned (.int .i64 k) ∧ Below w.heap.size w w' := by
  have := rcmp_any w r s a b n hn h1n h h'
  rw [e] at this
  exact this
theorem none_int (W : World) : IntD ⟨false, none, 0, 0⟩ 0 1 W := ⟨⟨[], rfl, Rd.nil_ _ _, by simp, rfl⟩, Nat.le_refl _, by decide⟩
theorem Sz.max {a b : Rat} {n : Nat} (h : Sz a n) (h' : Sz b n) : Sz (maxQ a b) n := by unfold maxQ; split <;> assumption
theorem Sz.min {a b : Rat} {n : Nat} (h : Sz a n) (h' : Sz b n) : Sz (minQ a b) n := by unfold minQ; split <;> assumption
theorem Sz.ab {a : Rat} {n : Nat} (h : Sz a n) : Sz (rabs a) n := by unfold rabs; split; exact h.neg; exact h
theorem nx_a : (⟨(ratText (0)).toArray⟩ : ByteArray) = ⟨#[48]⟩ := by
  apply ByteArray.ext
  show (ratText (0)).toArray = _
  rw [ratText_lit (q := 0) 0 1 (by decide +kernel) (by decide +kernel)]
  simp [intText]
theorem nx_b : (⟨(ratText ((Rat.divInt (-6) (-4)))).toArray⟩ : ByteArray) = ⟨#[51, 47, 50]⟩ := by
  apply ByteArray.ext
  show (ratText ((Rat.divInt (-6) (-4)))).toArray = _
  rw [ratText_lit (q := (Rat.divInt (-6) (-4))) 3 2 (by decide +kernel) (by decide +kernel)]
  simp [intText, Lib.decDigits_one]
theorem nx_c : (⟨(ratText (Rat.divInt 1 2 / 0)).toArray⟩ : ByteArray) = ⟨#[48]⟩ := by
  apply ByteArray.ext
  show (ratText (Rat.divInt 1 2 / 0)).toArray = _
  rw [ratText_lit (q := Rat.divInt 1 2 / 0) 0 1 (by decide +kernel) (by decide +kernel)]
  simp [intText]
theorem nx_d : (⟨(ratText (0 + Rat.divInt 1 3)).toArray⟩ : ByteArray) = ⟨#[49, 47, 51]⟩ := by
  apply ByteArray.ext
  show (ratText (0 + Rat.divInt 1 3)).toArray = _
  rw [ratText_lit (q := 0 + Rat.divInt 1 3) 1 3 (by decide +kernel) (by decide +kernel)]
  simp [intText, Lib.decDigits_one]
theorem nx_e : (⟨(ratText (0 * (Rat.divInt (-6) (-4)))).toArray⟩ : ByteArray) = ⟨#[48]⟩ := by
  apply ByteArray.ext
  show (ratText (0 * (Rat.divInt (-6) (-4)))).toArray = _
  rw [ratText_lit (q := 0 * (Rat.divInt (-6) (-4))) 0 1 (by decide +kernel) (by decide +kernel)]
  simp [intText]
theorem nx_f : (⟨(ratText (-(Rat.divInt (-6) (-4)))).toArray⟩ : ByteArray) = ⟨#[45, 51, 47, 50]⟩ := by
  apply ByteArray.ext
  show (ratText (-(Rat.divInt (-6) (-4)))).toArray = _
  rw [ratText_lit (q := -(Rat.divInt (-6) (-4))) (-3) 2 (by decide +kernel) (by decide +kernel)]
  simp [intText, Lib.decDigits_one]
theorem nx_g : (⟨(ratText (rabs (Rat.divInt (-1) 3))).toArray⟩ : ByteArray) = ⟨#[49, 47, 51]⟩ := by
  apply ByteArray.ext
  show (ratText (rabs (Rat.divInt (-1) 3))).toArray = _
  rw [ratText_lit (q := rabs (Rat.divInt (-1) 3)) 1 3 (by decide +kernel) (by decide +kernel)]
  simp [intText, Lib.decDigits_one]
theorem nx_h : (⟨(ratText (Rat.divInt 3 0)).toArray⟩ : ByteArray) = ⟨#[48]⟩ := by
  apply ByteArray.ext
  show (ratText (Rat.divInt 3 0)).toArray = _
  rw [ratText_lit (q := Rat.divInt 3 0) 0 1 (by decide +kernel) (by decide +kernel)]
  simp [intText]
theorem nx_i : (⟨(ratText (maxQ (Rat.divInt 1 3) (Rat.divInt (-6) (-4)))).toArray⟩ : ByteArray) = ⟨#[51, 47, 50]⟩ := by
  apply ByteArray.ext
  show (ratText (maxQ (Rat.divInt 1 3) (Rat.divInt (-6) (-4)))).toArray = _
  rw [ratText_lit (q := maxQ (Rat.divInt 1 3) (Rat.divInt (-6) (-4))) 3 2 (by decide +kernel) (by decide +kernel)]
  simp [intText, Lib.decDigits_one]
theorem nx_j : (⟨(ratText (minQ (Rat.divInt (-1) 3) (Rat.divInt (-1) 2))).toArray⟩ : ByteArray) = ⟨#[45, 49, 47, 50]⟩ := by
  apply ByteArray.ext
  show (ratText (minQ (Rat.divInt (-1) 3) (Rat.divInt (-1) 2))).toArray = _
  rw [ratText_lit (q := minQ (Rat.divInt (-1) 3) (Rat.divInt (-1) 2)) (-1) 2 (by decide +kernel) (by decide +kernel)]
  simp [intText, Lib.decDigits_one]
theorem nx_k : (⟨(ratText (Rat.divInt (-9223372036854775808) (-9223372036854775808))).toArray⟩ : ByteArray) = ⟨#[49]⟩ := by
  apply ByteArray.ext
  show (ratText (Rat.divInt (-9223372036854775808) (-9223372036854775808))).toArray = _
  rw [ratText_lit (q := Rat.divInt (-9223372036854775808) (-9223372036854775808)) 1 1 (by decide +kernel) (by decide +kernel)]
  simp [intText, Lib.decDigits_one]
theorem nx_m : (⟨(ratText (Rat.divInt (-7) 1)).toArray⟩ : ByteArray) = ⟨#[45, 55]⟩ := by
  apply ByteArray.ext
  show (ratText (Rat.divInt (-7) 1)).toArray = _
  rw [ratText_lit (q := Rat.divInt (-7) 1) (-7) 1 (by decide +kernel) (by decide +kernel)]
  simp [intText, Lib.decDigits_one]
theorem nx_n : (⟨(ratText (Rat.divInt 0 5)).toArray⟩ : ByteArray) = ⟨#[48]⟩ := by
  apply ByteArray.ext
  show (ratText (Rat.divInt 0 5)).toArray = _
  rw [ratText_lit (q := Rat.divInt 0 5) 0 1 (by decide +kernel) (by decide +kernel)]
  simp [intText]
theorem nx_l : (⟨(ratText (Rat.divInt (-9223372036854775808) 1)).toArray⟩ : ByteArray) = ⟨#[45, 57, 50, 50, 51, 51, 55, 50, 48, 51, 54, 56, 53, 52, 55, 55, 53, 56, 48, 56]⟩ := by
  apply ByteArray.ext
  show (ratText (Rat.divInt (-9223372036854775808) 1)).toArray = _
  rw [ratText_lit (q := Rat.divInt (-9223372036854775808) 1) (-9223372036854775808) 1 (by decide +kernel) (by decide +kernel)]
  decide +kernel

theorem rd_lits (W : World) (l : List Nat) : Rd (W.alloc (.cells (ints .u64 l) 94)) .u64 (some ⟨W.heap.size, 0, none⟩) l := Rd.of_blk (t := 94) (Blk.new _ _ _)
theorem nst_start {w w5 : World} {gf gc : Nat} {jf jc j5 : IV} {F F' F'' : Nat → Prop} (hf : Blk w5 gf 48 #[.bool jf.neg, .slice jf.A jf.k jf.c]) (hc : Blk w5 gc 48 #[.bool jc.neg, .slice jc.A jc.k jc.c]) (h2 : Rests w5 F (IntN jf (-2))) (h4 : Rests w5 F' (IntN jc (-1))) (h5 : Rests w5 F'' (IntN j5 5)) (hL : TSt w w5) :
    NSt w (((((w5.alloc (.cells #[.int .u64 0] 94)).alloc (.cells #[.bool j5.neg, .slice j5.A j5.k j5.c, .bool false, .slice (some ⟨w5.heap.size, 0, none⟩) 1 1] 50)).alloc (.cells #[.int .u64 6, .int .u64 0] 94)).alloc (.cells #[.int .u64 4, .int .u64 0, .int .u64 0] 94)).alloc (.cells #[.bool true, .slice (some ⟨w5.heap.size + 1 + 1, 0, none⟩) 2 2, .bool true, .slice (some ⟨w5.heap.size + 1 + 1 + 1, 0, none⟩) 3 3] 50)) gf gc (w5.heap.size + 1) (w5.heap.size + 1 + 1 + 1 + 1) jf jc ⟨j5, ⟨false, some ⟨w5.heap.size, 0, none⟩, 1, 1⟩⟩ ⟨⟨true, some ⟨w5.heap.size + 1 + 1, 0, none⟩, 2, 2⟩, ⟨true, some ⟨w5.heap.size + 1 + 1 + 1, 0, none⟩, 3, 3⟩⟩ := by
  have hT := ((((hL.alloc (.cells #[.int .u64 0] 94)).alloc (.cells #[.bool j5.neg, .slice j5.A j5.k j5.c, .bool false, .slice (some ⟨w5.heap.size, 0, none⟩) 1 1] 50)).alloc (.cells #[.int .u64 6, .int .u64 0] 94)).alloc (.cells #[.int .u64 4, .int .u64 0, .int .u64 0] 94)).alloc (.cells #[.bool true, .slice (some ⟨w5.heap.size + 1 + 1, 0, none⟩) 2 2, .bool true, .slice (some ⟨w5.heap.size + 1 + 1 + 1, 0, none⟩) 3 3] 50)
  have r0 : Rd (((((w5.alloc (.cells #[.int .u64 0] 94)).alloc (.cells #[.bool j5.neg, .slice j5.A j5.k j5.c, .bool false, .slice (some ⟨w5.heap.size, 0, none⟩) 1 1] 50)).alloc (.cells #[.int .u64 6, .int .u64 0] 94)).alloc (.cells #[.int .u64 4, .int .u64 0, .int .u64 0] 94)).alloc (.cells #[.bool true, .slice (some ⟨w5.heap.size + 1 + 1, 0, none⟩) 2 2, .bool true, .slice (some ⟨w5.heap.size + 1 + 1 + 1, 0, none⟩) 3 3] 50)) .u64 (some ⟨w5.heap.size, 0, none⟩) [0] := ((((rd_lits w5 [0]).alloc _).alloc _).alloc _).alloc _
  have r6 : Rd (((((w5.alloc (.cells #[.int .u64 0] 94)).alloc (.cells #[.bool j5.neg, .slice j5.A j5.k j5.c, .bool false, .slice (some ⟨w5.heap.size, 0, none⟩) 1 1] 50)).alloc (.cells #[.int .u64 6, .int .u64 0] 94)).alloc (.cells #[.int .u64 4, .int .u64 0, .int .u64 0] 94)).alloc (.cells #[.bool true, .slice (some ⟨w5.heap.size + 1 + 1, 0, none⟩) 2 2, .bool true, .slice (some ⟨w5.heap.size + 1 + 1 + 1, 0, none⟩) 3 3] 50)) .u64 (some ⟨w5.heap.size + 1 + 1, 0, none⟩) [6, 0] := by
    have := ((rd_lits ((w5.alloc (.cells #[.int .u64 0] 94)).alloc (.cells #[.bool j5.neg, .slice j5.A j5.k j5.c, .bool false, .slice (some ⟨w5.heap.size, 0, none⟩) 1 1] 50)) [6, 0]).alloc (.cells #[.int .u64 4, .int .u64 0, .int .u64 0] 94)).alloc (.cells #[.bool true, .slice (some ⟨w5.heap.size + 1 + 1, 0, none⟩) 2 2, .bool true, .slice (some ⟨w5.heap.size + 1 + 1 + 1, 0, none⟩) 3 3] 50)
    rw [show ((w5.alloc (.cells #[.int .u64 0] 94)).alloc (.cells #[.bool j5.neg, .slice j5.A j5.k j5.c, .bool false, .slice (some ⟨w5.heap.size, 0, none⟩) 1 1] 50)).heap.size = w5.heap.size + 1 + 1 from by simp] at this
    exact this
  have r4 : Rd (((((w5.alloc (.cells #[.int .u64 0] 94)).alloc (.cells #[.bool j5.neg, .slice j5.A j5.k j5.c, .bool false, .slice (some ⟨w5.heap.size, 0, none⟩) 1 1] 50)).alloc (.cells #[.int .u64 6, .int .u64 0] 94)).alloc (.cells #[.int .u64 4, .int .u64 0, .int .u64 0] 94)).alloc (.cells #[.bool true, .slice (some ⟨w5.heap.size + 1 + 1, 0, none⟩) 2 2, .bool true, .slice (some ⟨w5.heap.size + 1 + 1 + 1, 0, none⟩) 3 3] 50)) .u64 (some ⟨w5.heap.size + 1 + 1 + 1, 0, none⟩) [4, 0, 0] := by
    have := (rd_lits (((w5.alloc (.cells #[.int .u64 0] 94)).alloc (.cells #[.bool j5.neg, .slice j5.A j5.k j5.c, .bool false, .slice (some ⟨w5.heap.size, 0, none⟩) 1 1] 50)).alloc (.cells #[.int .u64 6, .int .u64 0] 94)) [4, 0, 0]).alloc (.cells #[.bool true, .slice (some ⟨w5.heap.size + 1 + 1, 0, none⟩) 2 2, .bool true, .slice (some ⟨w5.heap.size + 1 + 1 + 1, 0, none⟩) 3 3] 50)
    rw [show (((w5.alloc (.cells #[.int .u64 0] 94)).alloc (.cells #[.bool j5.neg, .slice j5.A j5.k j5.c, .bool false, .slice (some ⟨w5.heap.size, 0, none⟩) 1 1] 50)).alloc (.cells #[.int .u64 6, .int .u64 0] 94)).heap.size = w5.heap.size + 1 + 1 + 1 from by simp] at this
    exact this
  have lt : ∀ l : List Nat, (∀ x ∈ l, x < 10) → ∀ x ∈ l, x < B64 := fun l h x hx => Nat.lt_trans (h x hx) (by decide)
  refine ⟨((((hf.alloc _).alloc _).alloc _).alloc _).alloc _, ((((hc.alloc _).alloc _).alloc _).alloc _).alloc _, ?_, ?_, (((((h2.alloc _).alloc _).alloc _).alloc _).alloc _).now, (((((h4.alloc _).alloc _).alloc _).alloc _).alloc _).now, ?_, ?_, hT.tz, hT.tab, hT.bel⟩
  · have := (((Blk.new (w5.alloc (.cells #[.int .u64 0] 94)) 50 #[.bool j5.neg, .slice j5.A j5.k j5.c, .bool false, .slice (some ⟨w5.heap.size, 0, none⟩) 1 1]).alloc (.cells #[.int .u64 6, .int .u64 0] 94)).alloc (.cells #[.int .u64 4, .int .u64 0, .int .u64 0] 94)).alloc (.cells #[.bool true, .slice (some ⟨w5.heap.size + 1 + 1, 0, none⟩) 2 2, .bool true, .slice (some ⟨w5.heap.size + 1 + 1 + 1, 0, none⟩) 3 3] 50)
    simpa using this
  · have := Blk.new ((((w5.alloc (.cells #[.int .u64 0] 94)).alloc (.cells #[.bool j5.neg, .slice j5.A j5.k j5.c, .bool false, .slice (some ⟨w5.heap.size, 0, none⟩) 1 1] 50)).alloc (.cells #[.int .u64 6, .int .u64 0] 94)).alloc (.cells #[.int .u64 4, .int .u64 0, .int .u64 0] 94)) 50 #[.bool true, .slice (some ⟨w5.heap.size + 1 + 1, 0, none⟩) 2 2, .bool true, .slice (some ⟨w5.heap.size + 1 + 1 + 1, 0, none⟩) 3 3]
    simpa using this
  · refine ⟨5, 0, IntN.ofLt (((((h5.alloc _).alloc _).alloc _).alloc _).alloc _).now (by decide +kernel), ⟨⟨[0], rfl, r0, lt _ (by decide), rfl⟩, Nat.le_refl _, by show 1 ≤ 3; decide⟩, ?_⟩
    refine Eq.trans ?_ (if_neg ?_).symm
    · exact (by decide +kernel : (0 : Rat) = Rat.divInt 5 0)
    · show ¬ (1 : Nat) = 0; decide
  · refine ⟨-6, -4, ⟨⟨[6, 0], rfl, r6, lt _ (by decide), by show iv true (val B64 [6, 0]) = -6; decide⟩, Nat.le_refl _, by show 2 ≤ 3; decide⟩, ⟨⟨[4, 0, 0], rfl, r4, lt _ (by decide), by show iv true (val B64 [4, 0, 0]) = -4; decide⟩, Nat.le_refl _, by show 3 ≤ 3; decide⟩, ?_⟩
    refine Eq.trans ?_ (if_neg ?_).symm
    · rfl
    · show ¬ (3 : Nat) = 0; decide

def strsB (l : List ByteArray) : Array Value := (l.map Value.string).toArray
theorem strsB_get (l : List ByteArray) (k : Nat) (h : k < l.length) : (strsB l)[k]? = some (.string (l[k])) := by simp [strsB, h]
theorem size_strB (w : World) : (sizeOf (Tryz.prog.elem 102)).run Tryz.prog w = .ok 1 w := by kernel_rfl
def noL : List ByteArray := [⟨#[]⟩, ⟨#[47]⟩, ⟨#[49, 47]⟩, ⟨#[47, 50]⟩, ⟨#[49, 47, 45, 50]⟩, ⟨#[49, 47, 48, 50]⟩, ⟨#[49, 47, 47, 50]⟩, ⟨#[49, 47, 50, 47, 51]⟩, ⟨#[45, 47, 50]⟩, ⟨#[49, 32, 47, 50]⟩, ⟨#[49, 47, 43, 50]⟩, ⟨#[48, 46, 53]⟩, ⟨#[45, 48, 47, 49]⟩, ⟨#[49, 47, 45, 48]⟩]
def noB (s : ByteArray) : Bool := decide (s.size ≤ 700) && decide (parseR s.data.toList = (11, 0))
theorem no_all : noL.all noB = true := by decide +kernel
theorem no_at {s : ByteArray} (h : s ∈ noL) : s.size ≤ 700 ∧ parseR s.data.toList = (11, 0) := by
  have := List.all_eq_true.1 no_all s h
  simpa [noB] using this
/-- a text that is read as what it says -/
theorem parse_as (s : ByteArray) (w : World) (hT : Tz w) (k : Int) (q : Rat) (hs : s.size ≤ 700) (h : (((parseR s.data.toList).1 : Int), (parseR s.data.toList).2) = (k, q)) :
    Calls Tryz.prog 67 #[.string s] w (RetRE q k w) := by
  have h1 := rparse_ok w s (by omega) hT
  injection h with e1 e2
  rw [e1, e2] at h1
  exact h1
/-- what the law asks of the text of six hundred and one sevens -/
structure Sevens (S : ByteArray) : Prop where
  size : S.size = 601
  a : (((parseR (S ++ ⟨#[47, 48]⟩).data.toList).1 : Int), (parseR (S ++ ⟨#[47, 48]⟩).data.toList).2) = (3, 0)
  b : (((parseR (⟨#[49, 47]⟩ ++ S).data.toList).1 : Int), (parseR (⟨#[49, 47]⟩ ++ S).data.toList).2) = (3, 0)
def rp7 : ByteArray := ⟨(Lib.repeatL [55] 601).toArray⟩
theorem sevens_size : rp7.size = 601 := by decide +kernel
theorem sevens_a : (((parseR (rp7 ++ ⟨#[47, 48]⟩).data.toList).1 : Int), (parseR (rp7 ++ ⟨#[47, 48]⟩).data.toList).2) = (3, 0) := by decide +kernel
theorem sevens_b : (((parseR (⟨#[49, 47]⟩ ++ rp7).data.toList).1 : Int), (parseR (⟨#[49, 47]⟩ ++ rp7).data.toList).2) = (3, 0) := by decide +kernel
theorem p_sevens (w : World) : Calls Tryz.prog 68 #[.string ⟨#[55]⟩, .int .i64 601] w fun e w' => ∃ S, Sevens S ∧ e = .returned (.string S) ∧ Below w.heap.size w w' :=
  ((Tryz.strings_Repeat ⟨#[55]⟩ 601 w (by omega) (by decide) : Calls Tryz.prog 68 #[.string ⟨#[55]⟩, .int .i64 601] w fun e w' => e = .returned (.string rp7) ∧ Below w.heap.size w w')).mono fun _ _ h => ⟨_, ⟨sevens_size, sevens_a, sevens_b⟩, h⟩
theorem pl_a (W : World) (hT : Tz W) : Calls Tryz.prog 67 #[.string ⟨#[49, 47, 48]⟩] W (RetRE 0 10 W) := parse_as ⟨#[49, 47, 48]⟩ W hT 10 0 (by decide +kernel) (by decide +kernel)
theorem pl_b {S : ByteArray} (h : Sevens S) (W : World) (hT : Tz W) : Calls Tryz.prog 67 #[.string (S ++ ⟨#[47, 48]⟩)] W (RetRE 0 3 W) := parse_as _ W hT 3 0 (by rw [ByteArray.size_append, h.size]; decide +kernel) h.a
theorem pl_c {S : ByteArray} (h : Sevens S) (W : World) (hT : Tz W) : Calls Tryz.prog 67 #[.string (⟨#[49, 47]⟩ ++ S)] W (RetRE 0 3 W) := parse_as _ W hT 3 0 (by rw [ByteArray.size_append, h.size]; decide +kernel) h.b
theorem pl_d (W : World) (hT : Tz W) : Calls Tryz.prog 67 #[.string ⟨#[48, 47, 53]⟩] W (RetRE (Rat.divInt 0 5) 0 W) := parse_as ⟨#[48, 47, 53]⟩ W hT 0 (Rat.divInt 0 5) (by decide +kernel) (by decide +kernel)
/-- in the middle of the law's loop -/
structure MInv (w wr : World) (g : Nat) : Prop where
  blk : Blk wr g 9 (strsB noL)
  t : TSt w wr

set_option maxRecDepth 1000000 in
set_option maxHeartbeats 16000000 in
theorem ratioNumbers_any (w : World) (hz : Tz w) (ht : Tab w) :
    Calls Tryz.prog 10 #[] w fun e w' => e = .returned (.bool true) ∧ Below w.heap.size w w' := by
  have HL := Lib.hid (TSt.start hz ht)
  clear hz ht
  go_enter Tryz.func10, Tryz.ntmps10
  go_wp2_with fail
  refine (rof_any _ (-3) 2 (by decide) (by decide) (by decide) (by decide) HL.out.tz).mono ?_
  rintro e w1 ⟨r1, rfl, h1, b1⟩
  replace HL := Lib.hid (TSt.below (by first | exact HL.out | exact HL.out.drew) b1)
  have H1 := Lib.hid h1.now
  clear h1
  clear b1
  go_wp2_with fail
  refine (rfloor_any _ r1 (Rat.divInt (-3) 2) 1 (by decide) (by decide) (RatN.rat H1.out (sz_of (by decide) (by decide)))).mono ?_
  rintro e w2 ⟨jf, rfl, h2, b2⟩
  replace HL := Lib.hid (TSt.below (by first | exact HL.out | exact HL.out.drew) b2)
  have H2 := Lib.hid h2.now.old
  clear h2 H1
  rw [show (Rat.divInt (-3) 2).floor = -2 from by decide +kernel] at H2
  clear b2
  go_wp2_with fail
  refine (rof_any _ (-3) 2 (by decide) (by decide) (by decide) (by decide) HL.out.tz).mono ?_
  rintro e w3 ⟨r3, rfl, h3, b3⟩
  replace HL := Lib.hid (TSt.below (by first | exact HL.out | exact HL.out.drew) b3)
  replace H2 := Lib.hid (Rests.below (by first | exact H2.out | exact H2.out.drew) b3)
  have H3 := Lib.hid h3.now
  clear h3
  clear b3
  go_wp2_with fail
  refine (rceil_any _ r3 (Rat.divInt (-3) 2) 1 (by decide) (by decide) (RatN.rat H3.out (sz_of (by decide) (by decide)))).mono ?_
  rintro e w4 ⟨jc, rfl, h4, b4⟩
  replace HL := Lib.hid (TSt.below (by first | exact HL.out | exact HL.out.drew) b4)
  replace H2 := Lib.hid (Rests.below (by first | exact H2.out | exact H2.out.drew) b4)
  have H4 := Lib.hid h4.now.old
  clear h4 H3
  rw [show ceilQ (Rat.divInt (-3) 2) = -1 from by decide +kernel] at H4
  clear b4
  obtain ⟨W4, hW4⟩ : ∃ W4, W4 = (w4.alloc (.cells #[.bool jf.neg, .slice jf.A jf.k jf.c] 48)).alloc (.cells #[.bool jc.neg, .slice jc.A jc.k jc.c] 48) := ⟨_, rfl⟩
  obtain ⟨p0, p1, -⟩ := lay2 hW4
  have HBf := Lib.hid p0; have HBc := Lib.hid p1
  clear p0 p1
  replace HL := Lib.hid ((HL.out.alloc (.cells #[.bool jf.neg, .slice jf.A jf.k jf.c] 48)).alloc (.cells #[.bool jc.neg, .slice jc.A jc.k jc.c] 48)); replace H2 := Lib.hid (Rests.al2 H2.out hW4); replace H4 := Lib.hid (Rests.al2 H4.out hW4)
  rw [← hW4] at HL
  go_wp2_with fail
  rw [← hW4]
  generalize hgf : w4.heap.size = gf at *
  obtain ⟨gc, hgc⟩ : ∃ gc, gc = gf + 1 := ⟨_, rfl⟩
  rw [← hgc] at HBc ⊢
  clear hgf hgc hW4
  refine (wof_any _ 5 (by decide) (by decide)).mono ?_
  rintro e w5 ⟨j5, rfl, h5, b5⟩
  replace HL := Lib.hid (TSt.below HL.out b5); replace H2 := Lib.hid (Rests.below H2.out b5); replace H4 := Lib.hid (Rests.below H4.out b5); replace HBf := Lib.hid (HBf.out.below b5 HBf.out.lt); replace HBc := Lib.hid (HBc.out.below b5 HBc.out.lt)
  have H5 := Lib.hid h5.now.old
  clear h5 b5
  have HN := Lib.hid (nst_start (w := w) (gf := gf) (gc := gc) HBf.out HBc.out H2.out H4.out H5.out HL.out)
  clear HBf HBc H2 H4 H5 HL
  go_upto_region 5 with fail
  have HL := Lib.hid HN.out
  clear HN
  obtain ⟨rz, hrz⟩ : ∃ rz : RV, rz = ⟨j5, ⟨false, some ⟨w5.heap.size, 0, none⟩, 1, 1⟩⟩ := ⟨_, rfl⟩
  obtain ⟨ro, hro⟩ : ∃ ro : RV, ro = ⟨⟨true, some ⟨w5.heap.size + 1 + 1, 0, none⟩, 2, 2⟩, ⟨true, some ⟨w5.heap.size + 1 + 1 + 1, 0, none⟩, 3, 3⟩⟩ := ⟨_, rfl⟩
  rw [← hrz, ← hro] at HL
  clear hrz hro
  obtain ⟨W5, hW5⟩ : ∃ W5 : World, W5 = _ ∧ NSt w W5 gf gc (w5.heap.size + 1) (w5.heap.size + 1 + 1 + 1 + 1) jf jc rz ro := ⟨_, rfl, HL.out⟩
  rw [← hW5.1]
  replace HL := Lib.hid hW5.2
  clear hW5
  generalize w5.heap.size + 1 + 1 + 1 + 1 = go at *
  generalize w5.heap.size + 1 = gz at *
  obtain ⟨c0, c1, c2, c3, c4, c5, c6, c7, c8, c9, c10, c11⟩ := HL.out.cells
  go_cut [6] (fun v wx => v = .bool true ∧ NSt w wx gf gc gz go jf jc rz ro)
  case first =>
    as_aux_lemma =>
      refine wp_region_noPanic ?_
      refine wp_region_held_drew (S := (fun W => W.cell? ⟨gf, 0, none⟩ = some (.bool jf.neg) ∧ W.cell? ⟨gf, 1, none⟩ = some (.slice jf.A jf.k jf.c) ∧ W.cell? ⟨gc, 0, none⟩ = some (.bool jc.neg) ∧ W.cell? ⟨gc, 1, none⟩ = some (.slice jc.A jc.k jc.c) ∧ W.cell? ⟨gz, 0, none⟩ = some (.bool rz.num.neg) ∧ W.cell? ⟨gz, 1, none⟩ = some (.slice rz.num.A rz.num.k rz.num.c) ∧ W.cell? ⟨gz, 2, none⟩ = some (.bool rz.den.neg) ∧ W.cell? ⟨gz, 3, none⟩ = some (.slice rz.den.A rz.den.k rz.den.c) ∧ W.cell? ⟨go, 0, none⟩ = some (.bool ro.num.neg) ∧ W.cell? ⟨go, 1, none⟩ = some (.slice ro.num.A ro.num.k ro.num.c) ∧ W.cell? ⟨go, 2, none⟩ = some (.bool ro.den.neg) ∧ W.cell? ⟨go, 3, none⟩ = some (.slice ro.den.A ro.den.k ro.den.c))) (by kernel_rfl) (by first | exact HL.out.cells | exact HL.out.drew.cells) (fun hHeld => ?_)
      refine held_take (i := 0) (v := ?_) (some 36) rfl rfl (by kernel_rfl) (by kernel_rfl) (by kernel_rfl) (fun _ _ _ h => h) (Or.inl ⟨by rfl, ?_⟩) hHeld ?_
      rotate_left 1
      · intro w hSw
        (try dsimp only at hSw)
        (first | (go_simp; done) | (go_simp; with_reducible rfl))
      (try simp only [Act.put, List.setIfInBounds_toArray, List.set_cons_zero, List.set_cons_succ])
      refine held_call (i := 1) rfl (by kernel_rfl) (by rfl) (fun K hK => ?_)
      clear hHeld
      simp only [List.getElem_toArray, List.getElem_cons_succ, List.getElem_cons_zero]
      go_simp
      refine (wof_any _ (-2) (by decide) (by decide)).mono ?_
      rintro e wo1 ⟨jo1, rfl, ho1, bo1⟩
      replace HL := Lib.hid (NSt.below (by first | exact HL.out | exact HL.out.drew) bo1)
      clear c0 c1 c2 c3 c4 c5 c6 c7 c8 c9 c10 c11
      obtain ⟨c0, c1, c2, c3, c4, c5, c6, c7, c8, c9, c10, c11⟩ := HL.out.cells
      have Hjo1 := Lib.hid ho1.now.old
      clear ho1
      clear bo1
      (try (go_wp2_with fail))
      refine hK.out _ _ (by first | exact HL.out.cells | exact HL.out.drew.cells) (fun hHeld => ?_)
      clear hK K
      (try simp only [Act.put, List.setIfInBounds_toArray, List.set_cons_zero, List.set_cons_succ])
      refine held_call (i := 2) rfl (by kernel_rfl) (by rfl) (fun K hK => ?_)
      clear hHeld
      simp only [List.getElem_toArray, List.getElem_cons_succ, List.getElem_cons_zero]
      go_simp
      refine (sameInt_true _ jf jo1 (-2) (by first | exact HL.out.hf | exact HL.out.drew.hf) (Rests.now (F := (· < wo1.heap.size)) (φ := IntN jo1 (-2)) (by first | exact Hjo1.out | exact Hjo1.out.drew)) (by decide)).mono ?_
      rintro e wo2 ⟨rfl, bo2⟩
      replace HL := Lib.hid (NSt.below (by first | exact HL.out | exact HL.out.drew) bo2)
      clear c0 c1 c2 c3 c4 c5 c6 c7 c8 c9 c10 c11
      obtain ⟨c0, c1, c2, c3, c4, c5, c6, c7, c8, c9, c10, c11⟩ := HL.out.cells
      clear Hjo1
      clear bo2
      (try (go_wp2_with fail))
      refine hK.out _ _ (by first | exact HL.out.cells | exact HL.out.drew.cells) (fun hHeld => ?_)
      clear hK K
      (try simp only [Act.put, List.setIfInBounds_toArray, List.set_cons_zero, List.set_cons_succ])
      refine held_take (i := 3) (v := ?_) (some 39) rfl rfl (by kernel_rfl) (by kernel_rfl) (by kernel_rfl) (fun _ _ _ h => h) (Or.inl ⟨by rfl, ?_⟩) hHeld ?_
      rotate_left 1
      · intro w hSw
        (try dsimp only at hSw)
        (first | (go_simp; done) | (go_simp; with_reducible rfl))
      (try simp only [Act.put, List.setIfInBounds_toArray, List.set_cons_zero, List.set_cons_succ])
      refine held_take (i := 4) (v := ?_) (some 40) rfl rfl (by kernel_rfl) (by kernel_rfl) (by kernel_rfl) (fun _ _ _ h => h) (Or.inl ⟨by rfl, ?_⟩) hHeld ?_
      rotate_left 1
      · intro w hSw
        (try dsimp only at hSw)
        (first | (go_simp; done) | (go_simp; with_reducible rfl))
      (try simp only [Act.put, List.setIfInBounds_toArray, List.set_cons_zero, List.set_cons_succ])
      refine held_call (i := 5) rfl (by kernel_rfl) (by rfl) (fun K hK => ?_)
      clear hHeld
      simp only [List.getElem_toArray, List.getElem_cons_succ, List.getElem_cons_zero]
      go_simp
      refine (wof_any _ (-1) (by decide) (by decide)).mono ?_
      rintro e wo3 ⟨jo3, rfl, ho3, bo3⟩
      replace HL := Lib.hid (NSt.below (by first | exact HL.out | exact HL.out.drew) bo3)
      clear c0 c1 c2 c3 c4 c5 c6 c7 c8 c9 c10 c11
      obtain ⟨c0, c1, c2, c3, c4, c5, c6, c7, c8, c9, c10, c11⟩ := HL.out.cells
      have Hjo3 := Lib.hid ho3.now.old
      clear ho3
      clear bo3
      (try (go_wp2_with fail))
      refine hK.out _ _ (by first | exact HL.out.cells | exact HL.out.drew.cells) (fun hHeld => ?_)
      clear hK K
      (try simp only [Act.put, List.setIfInBounds_toArray, List.set_cons_zero, List.set_cons_succ])
      refine held_call (i := 6) rfl (by kernel_rfl) (by rfl) (fun K hK => ?_)
      clear hHeld
      simp only [List.getElem_toArray, List.getElem_cons_succ, List.getElem_cons_zero]
      go_simp
      refine (sameInt_true _ jc jo3 (-1) (by first | exact HL.out.hc | exact HL.out.drew.hc) (Rests.now (F := (· < wo3.heap.size)) (φ := IntN jo3 (-1)) (by first | exact Hjo3.out | exact Hjo3.out.drew)) (by decide)).mono ?_
      rintro e wo4 ⟨rfl, bo4⟩
      replace HL := Lib.hid (NSt.below (by first | exact HL.out | exact HL.out.drew) bo4)
      clear c0 c1 c2 c3 c4 c5 c6 c7 c8 c9 c10 c11
      obtain ⟨c0, c1, c2, c3, c4, c5, c6, c7, c8, c9, c10, c11⟩ := HL.out.cells
      clear Hjo3
      clear bo4
      (try (go_wp2_with fail))
      refine hK.out _ _ (by first | exact HL.out.cells | exact HL.out.drew.cells) (fun hHeld => ?_)
      clear hK K
      (try simp only [Act.put, List.setIfInBounds_toArray, List.set_cons_zero, List.set_cons_succ])
      refine held_take (i := 7) (v := ?_) (some 43) rfl rfl (by kernel_rfl) (by kernel_rfl) (by kernel_rfl) (fun _ _ _ h => h) (Or.inl ⟨by rfl, ?_⟩) hHeld ?_
      rotate_left 1
      · intro w hSw
        (try dsimp only at hSw)
        (first | (go_simp; done) | (go_simp; with_reducible rfl))
      (try simp only [Act.put, List.setIfInBounds_toArray, List.set_cons_zero, List.set_cons_succ])
      refine held_take (i := 8) (v := ?_) (some 44) rfl rfl (by kernel_rfl) (by kernel_rfl) (by kernel_rfl) (fun _ _ _ h => h) (Or.inl ⟨by rfl, ?_⟩) hHeld ?_
      rotate_left 1
      · intro w hSw
        (try dsimp only at hSw)
        (first | (go_simp; done) | (go_simp; with_reducible rfl))
      (try simp only [Act.put, List.setIfInBounds_toArray, List.set_cons_zero, List.set_cons_succ])
      refine held_take (i := 9) (v := ?_) (some 45) rfl rfl (by kernel_rfl) (by kernel_rfl) (by kernel_rfl) (fun _ _ _ h => h) (Or.inl ⟨by rfl, ?_⟩) hHeld ?_
      rotate_left 1
      · intro w hSw
        (try dsimp only at hSw)
        (first | (go_simp; done) | (go_simp; with_reducible rfl))
      (try simp only [Act.put, List.setIfInBounds_toArray, List.set_cons_zero, List.set_cons_succ])
      refine held_call (i := 10) rfl (by kernel_rfl) (by rfl) (fun K hK => ?_)
      clear hHeld
      simp only [List.getElem_toArray, List.getElem_cons_succ, List.getElem_cons_zero]
      go_simp
      refine (rsign_zero _ rz 0 3 (by decide) (RatD.mono (n := 3) (by first | exact HL.out.dz | exact HL.out.drew.dz) (by decide)) rfl).mono ?_
      rintro e wo5 ⟨rfl, bo5⟩
      replace HL := Lib.hid (NSt.below (by first | exact HL.out | exact HL.out.drew) bo5)
      clear c0 c1 c2 c3 c4 c5 c6 c7 c8 c9 c10 c11
      obtain ⟨c0, c1, c2, c3, c4, c5, c6, c7, c8, c9, c10, c11⟩ := HL.out.cells
      clear bo5
      (try (go_wp2_with fail))
      refine hK.out _ _ (by first | exact HL.out.cells | exact HL.out.drew.cells) (fun hHeld => ?_)
      clear hK K
      (try simp only [Act.put, List.setIfInBounds_toArray, List.set_cons_zero, List.set_cons_succ])
      refine held_take (i := 11) (v := ?_) (some 47) rfl rfl (by kernel_rfl) (by kernel_rfl) (by kernel_rfl) (fun _ _ _ h => h) (Or.inl ⟨by rfl, ?_⟩) hHeld ?_
      rotate_left 1
      · intro w hSw
        (try dsimp only at hSw)
        (first | (go_simp; done) | (go_simp; with_reducible rfl))
      (try simp only [Act.put, List.setIfInBounds_toArray, List.set_cons_zero, List.set_cons_succ])
      refine held_take (i := 12) (v := ?_) (some 48) rfl rfl (by kernel_rfl) (by kernel_rfl) (by kernel_rfl) (fun _ _ _ h => h) (Or.inl ⟨by rfl, ?_⟩) hHeld ?_
      rotate_left 1
      · intro w hSw
        (try dsimp only at hSw)
        (first | (go_simp; done) | (go_simp; with_reducible rfl))
      (try simp only [Act.put, List.setIfInBounds_toArray, List.set_cons_zero, List.set_cons_succ])
      refine held_take (i := 13) (v := ?_) (some 49) rfl rfl (by kernel_rfl) (by kernel_rfl) (by kernel_rfl) (fun _ _ _ h => h) (Or.inl ⟨by rfl, ?_⟩) hHeld ?_
      rotate_left 1
      · intro w hSw
        (try dsimp only at hSw)
        (first | (go_simp; done) | (go_simp; with_reducible rfl))
      (try simp only [Act.put, List.setIfInBounds_toArray, List.set_cons_zero, List.set_cons_succ])
      refine held_take (i := 14) (v := ?_) (some 50) rfl rfl (by kernel_rfl) (by kernel_rfl) (by kernel_rfl) (fun _ _ _ h => h) (Or.inl ⟨by rfl, ?_⟩) hHeld ?_
      rotate_left 1
      · intro w hSw
        (try dsimp only at hSw)
        (first | (go_simp; done) | (go_simp; with_reducible rfl))
      (try simp only [Act.put, List.setIfInBounds_toArray, List.set_cons_zero, List.set_cons_succ])
      refine held_call (i := 15) rfl (by kernel_rfl) (by rfl) (fun K hK => ?_)
      clear hHeld
      simp only [List.getElem_toArray, List.getElem_cons_succ, List.getElem_cons_zero]
      go_simp
      refine (rnorm_any _ rz 0 3 (by decide) (by decide) (RatD.mono (n := 3) (by first | exact HL.out.dz | exact HL.out.drew.dz) (by decide)) (by first | exact HL.out.tz | exact HL.out.drew.tz)).mono ?_
      rintro e wo6 ⟨ro6, rfl, ho6, bo6⟩
      replace HL := Lib.hid (NSt.below (by first | exact HL.out | exact HL.out.drew) bo6)
      clear c0 c1 c2 c3 c4 c5 c6 c7 c8 c9 c10 c11
      obtain ⟨c0, c1, c2, c3, c4, c5, c6, c7, c8, c9, c10, c11⟩ := HL.out.cells
      have Ho6 := Lib.hid ho6.now
      clear ho6
      clear bo6
      (try (go_wp2_with fail))
      refine hK.out _ _ (by first | exact HL.out.cells | exact HL.out.drew.cells) (fun hHeld => ?_)
      clear hK K
      (try simp only [Act.put, List.setIfInBounds_toArray, List.set_cons_zero, List.set_cons_succ])
      refine held_call (i := 16) rfl (by kernel_rfl) (by rfl) (fun K hK => ?_)
      clear hHeld
      simp only [List.getElem_toArray, List.getElem_cons_succ, List.getElem_cons_zero]
      go_simp
      refine (is_any _ ro6 0 _ 3 (by decide) (by decide) (by first | exact Ho6.out | exact Ho6.out.drew) (Sz.up sz_zero (by decide)) (by first | exact HL.out.tz | exact HL.out.drew.tz) (by first | exact HL.out.tab | exact HL.out.drew.tab) nx_a).mono ?_
      rintro e wo7 ⟨rfl, bo7⟩
      replace HL := Lib.hid (NSt.below (by first | exact HL.out | exact HL.out.drew) bo7)
      clear c0 c1 c2 c3 c4 c5 c6 c7 c8 c9 c10 c11
      obtain ⟨c0, c1, c2, c3, c4, c5, c6, c7, c8, c9, c10, c11⟩ := HL.out.cells
      clear bo7
      (try (go_wp2_with fail))
      refine hK.out _ _ (by first | exact HL.out.cells | exact HL.out.drew.cells) (fun hHeld => ?_)
      clear hK K
      (try simp only [Act.put, List.setIfInBounds_toArray, List.set_cons_zero, List.set_cons_succ])
      refine held_take (i := 17) (v := ?_) (some 53) rfl rfl (by kernel_rfl) (by kernel_rfl) (by kernel_rfl) (fun _ _ _ h => h) (Or.inl ⟨by rfl, ?_⟩) hHeld ?_
      rotate_left 1
      · intro w hSw
        (try dsimp only at hSw)
        (first | (go_simp; done) | (go_simp; with_reducible rfl))
      (try simp only [Act.put, List.setIfInBounds_toArray, List.set_cons_zero, List.set_cons_succ])
      refine held_take (i := 18) (v := ?_) (some 54) rfl rfl (by kernel_rfl) (by kernel_rfl) (by kernel_rfl) (fun _ _ _ h => h) (Or.inl ⟨by rfl, ?_⟩) hHeld ?_
      rotate_left 1
      · intro w hSw
        (try dsimp only at hSw)
        (first | (go_simp; done) | (go_simp; with_reducible rfl))
      (try simp only [Act.put, List.setIfInBounds_toArray, List.set_cons_zero, List.set_cons_succ])
      refine held_take (i := 19) (v := ?_) (some 55) rfl rfl (by kernel_rfl) (by kernel_rfl) (by kernel_rfl) (fun _ _ _ h => h) (Or.inl ⟨by rfl, ?_⟩) hHeld ?_
      rotate_left 1
      · intro w hSw
        (try dsimp only at hSw)
        (first | (go_simp; done) | (go_simp; with_reducible rfl))
      (try simp only [Act.put, List.setIfInBounds_toArray, List.set_cons_zero, List.set_cons_succ])
      refine held_call (i := 20) rfl (by kernel_rfl) (by rfl) (fun K hK => ?_)
      clear hHeld
      simp only [List.getElem_toArray, List.getElem_cons_succ, List.getElem_cons_zero]
      go_simp
      refine (rnorm_any _ ro (Rat.divInt (-6) (-4)) 3 (by decide) (by decide) (RatD.mono (n := 3) (by first | exact HL.out.od | exact HL.out.drew.od) (by decide)) (by first | exact HL.out.tz | exact HL.out.drew.tz)).mono ?_
      rintro e wo8 ⟨ro8, rfl, ho8, bo8⟩
      replace HL := Lib.hid (NSt.below (by first | exact HL.out | exact HL.out.drew) bo8)
      clear c0 c1 c2 c3 c4 c5 c6 c7 c8 c9 c10 c11
      obtain ⟨c0, c1, c2, c3, c4, c5, c6, c7, c8, c9, c10, c11⟩ := HL.out.cells
      have Ho8 := Lib.hid ho8.now
      clear ho8
      clear bo8
      (try (go_wp2_with fail))
      refine hK.out _ _ (by first | exact HL.out.cells | exact HL.out.drew.cells) (fun hHeld => ?_)
      clear hK K
      (try simp only [Act.put, List.setIfInBounds_toArray, List.set_cons_zero, List.set_cons_succ])
      refine held_call (i := 21) rfl (by kernel_rfl) (by rfl) (fun K hK => ?_)
      clear hHeld
      simp only [List.getElem_toArray, List.getElem_cons_succ, List.getElem_cons_zero]
      go_simp
      refine (is_any _ ro8 (Rat.divInt (-6) (-4)) _ 3 (by decide) (by decide) (by first | exact Ho8.out | exact Ho8.out.drew) (Sz.up (sz_of (by decide) (by decide)) (by decide)) (by first | exact HL.out.tz | exact HL.out.drew.tz) (by first | exact HL.out.tab | exact HL.out.drew.tab) nx_b).mono ?_
      rintro e wo9 ⟨rfl, bo9⟩
      replace HL := Lib.hid (NSt.below (by first | exact HL.out | exact HL.out.drew) bo9)
      clear c0 c1 c2 c3 c4 c5 c6 c7 c8 c9 c10 c11
      obtain ⟨c0, c1, c2, c3, c4, c5, c6, c7, c8, c9, c10, c11⟩ := HL.out.cells
      clear bo9
      (try (go_wp2_with fail))
      refine hK.out _ _ (by first | exact HL.out.cells | exact HL.out.drew.cells) (fun hHeld => ?_)
      clear hK K
      (try simp only [Act.put, List.setIfInBounds_toArray, List.set_cons_zero, List.set_cons_succ])
      refine held_take (i := 22) (v := ?_) (some 58) rfl rfl (by kernel_rfl) (by kernel_rfl) (by kernel_rfl) (fun _ _ _ h => h) (Or.inl ⟨by rfl, ?_⟩) hHeld ?_
      rotate_left 1
      · intro w hSw
        (try dsimp only at hSw)
        (first | (go_simp; done) | (go_simp; with_reducible rfl))
      (try simp only [Act.put, List.setIfInBounds_toArray, List.set_cons_zero, List.set_cons_succ])
      refine held_take (i := 23) (v := ?_) (some 59) rfl rfl (by kernel_rfl) (by kernel_rfl) (by kernel_rfl) (fun _ _ _ h => h) (Or.inl ⟨by rfl, ?_⟩) hHeld ?_
      rotate_left 1
      · intro w hSw
        (try dsimp only at hSw)
        (first | (go_simp; done) | (go_simp; with_reducible rfl))
      (try simp only [Act.put, List.setIfInBounds_toArray, List.set_cons_zero, List.set_cons_succ])
      refine held_take (i := 24) (v := ?_) (some 60) rfl rfl (by kernel_rfl) (by kernel_rfl) (by kernel_rfl) (fun _ _ _ h => h) (Or.inl ⟨by rfl, ?_⟩) hHeld ?_
      rotate_left 1
      · intro w hSw
        (try dsimp only at hSw)
        (first | (go_simp; done) | (go_simp; with_reducible rfl))
      (try simp only [Act.put, List.setIfInBounds_toArray, List.set_cons_zero, List.set_cons_succ])
      refine held_take (i := 25) (v := ?_) (some 61) rfl rfl (by kernel_rfl) (by kernel_rfl) (by kernel_rfl) (fun _ _ _ h => h) (Or.inl ⟨by rfl, ?_⟩) hHeld ?_
      rotate_left 1
      · intro w hSw
        (try dsimp only at hSw)
        (first | (go_simp; done) | (go_simp; with_reducible rfl))
      (try simp only [Act.put, List.setIfInBounds_toArray, List.set_cons_zero, List.set_cons_succ])
      refine held_call (i := 26) rfl (by kernel_rfl) (by rfl) (fun K hK => ?_)
      clear hHeld
      simp only [List.getElem_toArray, List.getElem_cons_succ, List.getElem_cons_zero]
      go_simp
      refine (rof_any _ 3 2 (by decide) (by decide) (by decide) (by decide) (by first | exact HL.out.tz | exact HL.out.drew.tz)).mono ?_
      rintro e wo10 ⟨ro10, rfl, ho10, bo10⟩
      replace HL := Lib.hid (NSt.below (by first | exact HL.out | exact HL.out.drew) bo10)
      clear c0 c1 c2 c3 c4 c5 c6 c7 c8 c9 c10 c11
      obtain ⟨c0, c1, c2, c3, c4, c5, c6, c7, c8, c9, c10, c11⟩ := HL.out.cells
      have Ho10 := Lib.hid ho10.now
      clear ho10
      clear bo10
      (try (go_wp2_with fail))
      refine hK.out _ _ (by first | exact HL.out.cells | exact HL.out.drew.cells) (fun hHeld => ?_)
      clear hK K
      (try simp only [Act.put, List.setIfInBounds_toArray, List.set_cons_zero, List.set_cons_succ])
      refine held_call (i := 27) rfl (by kernel_rfl) (by rfl) (fun K hK => ?_)
      clear hHeld
      simp only [List.getElem_toArray, List.getElem_cons_succ, List.getElem_cons_zero]
      go_simp
      refine (rsame_yes _ ro ro10 (Rat.divInt (-6) (-4)) (Rat.divInt 3 2) 3 (by decide) (by decide) (RatD.mono (n := 3) (by first | exact HL.out.od | exact HL.out.drew.od) (by decide)) (RatN.rat (by first | exact Ho10.out | exact Ho10.out.drew) (Sz.up (sz_of (by decide) (by decide)) (by decide))) (by decide +kernel)).mono ?_
      rintro e wo11 ⟨rfl, bo11⟩
      replace HL := Lib.hid (NSt.below (by first | exact HL.out | exact HL.out.drew) bo11)
      clear c0 c1 c2 c3 c4 c5 c6 c7 c8 c9 c10 c11
      obtain ⟨c0, c1, c2, c3, c4, c5, c6, c7, c8, c9, c10, c11⟩ := HL.out.cells
      clear bo11
      (try (go_wp2_with fail))
      refine hK.out _ _ (by first | exact HL.out.cells | exact HL.out.drew.cells) (fun hHeld => ?_)
      clear hK K
      (try simp only [Act.put, List.setIfInBounds_toArray, List.set_cons_zero, List.set_cons_succ])
      refine held_take (i := 28) (v := ?_) (some 64) rfl rfl (by kernel_rfl) (by kernel_rfl) (by kernel_rfl) (fun _ _ _ h => h) (Or.inl ⟨by rfl, ?_⟩) hHeld ?_
      rotate_left 1
      · intro w hSw
        (try dsimp only at hSw)
        (first | (go_simp; done) | (go_simp; with_reducible rfl))
      (try simp only [Act.put, List.setIfInBounds_toArray, List.set_cons_zero, List.set_cons_succ])
      refine held_take (i := 29) (v := ?_) (some 65) rfl rfl (by kernel_rfl) (by kernel_rfl) (by kernel_rfl) (fun _ _ _ h => h) (Or.inl ⟨by rfl, ?_⟩) hHeld ?_
      rotate_left 1
      · intro w hSw
        (try dsimp only at hSw)
        (first | (go_simp; done) | (go_simp; with_reducible rfl))
      (try simp only [Act.put, List.setIfInBounds_toArray, List.set_cons_zero, List.set_cons_succ])
      refine held_take (i := 30) (v := ?_) (some 66) rfl rfl (by kernel_rfl) (by kernel_rfl) (by kernel_rfl) (fun _ _ _ h => h) (Or.inl ⟨by rfl, ?_⟩) hHeld ?_
      rotate_left 1
      · intro w hSw
        (try dsimp only at hSw)
        (first | (go_simp; done) | (go_simp; with_reducible rfl))
      (try simp only [Act.put, List.setIfInBounds_toArray, List.set_cons_zero, List.set_cons_succ])
      refine held_take (i := 32) (v := ?_) (some 68) rfl rfl (by kernel_rfl) (by kernel_rfl) (by kernel_rfl) (fun _ _ _ h => h) (Or.inl ⟨by rfl, ?_⟩) hHeld ?_
      rotate_left 1
      · intro w hSw
        (try dsimp only at hSw)
        (first | (go_simp; done) | (go_simp; with_reducible rfl))
      (try simp only [Act.put, List.setIfInBounds_toArray, List.set_cons_zero, List.set_cons_succ])
      refine held_call (i := 31) rfl (by kernel_rfl) (by rfl) (fun K hK => ?_)
      clear hHeld
      simp only [List.getElem_toArray, List.getElem_cons_succ, List.getElem_cons_zero]
      go_simp
      refine (rof_any _ 1 2 (by decide) (by decide) (by decide) (by decide) (by first | exact HL.out.tz | exact HL.out.drew.tz)).mono ?_
      rintro e wo12 ⟨ro12, rfl, ho12, bo12⟩
      replace HL := Lib.hid (NSt.below (by first | exact HL.out | exact HL.out.drew) bo12)
      clear c0 c1 c2 c3 c4 c5 c6 c7 c8 c9 c10 c11
      obtain ⟨c0, c1, c2, c3, c4, c5, c6, c7, c8, c9, c10, c11⟩ := HL.out.cells
      have Ho12 := Lib.hid ho12.now
      clear ho12
      clear bo12
      (try (go_wp2_with fail))
      refine hK.out _ _ (by first | exact HL.out.cells | exact HL.out.drew.cells) (fun hHeld => ?_)
      clear hK K
      (try simp only [Act.put, List.setIfInBounds_toArray, List.set_cons_zero, List.set_cons_succ])
      refine held_call (i := 33) rfl (by kernel_rfl) (by rfl) (fun K hK => ?_)
      clear hHeld
      simp only [List.getElem_toArray, List.getElem_cons_succ, List.getElem_cons_zero]
      go_simp
      refine (rquo_any _ ro12 rz (Rat.divInt 1 2) 0 3 (by decide) (by decide) (RatN.rat (by first | exact Ho12.out | exact Ho12.out.drew) (Sz.up (sz_of (by decide) (by decide)) (by decide))) (RatD.mono (n := 3) (by first | exact HL.out.dz | exact HL.out.drew.dz) (by decide)) (by first | exact HL.out.tz | exact HL.out.drew.tz)).mono ?_
      rintro e wo13 ⟨ro13, rfl, ho13, bo13⟩
      replace HL := Lib.hid (NSt.below (by first | exact HL.out | exact HL.out.drew) bo13)
      clear c0 c1 c2 c3 c4 c5 c6 c7 c8 c9 c10 c11
      obtain ⟨c0, c1, c2, c3, c4, c5, c6, c7, c8, c9, c10, c11⟩ := HL.out.cells
      have Ho13 := Lib.hid ho13.now
      clear ho13
      clear bo13
      (try (go_wp2_with fail))
      refine hK.out _ _ (by first | exact HL.out.cells | exact HL.out.drew.cells) (fun hHeld => ?_)
      clear hK K
      (try simp only [Act.put, List.setIfInBounds_toArray, List.set_cons_zero, List.set_cons_succ])
      refine held_call (i := 34) rfl (by kernel_rfl) (by rfl) (fun K hK => ?_)
      clear hHeld
      simp only [List.getElem_toArray, List.getElem_cons_succ, List.getElem_cons_zero]
      go_simp
      refine (is_any _ ro13 ((Rat.divInt 1 2) / 0) _ 5 (by decide) (by decide) (by first | exact Ho13.out | exact Ho13.out.drew) (Sz.quo (n := 1) (m := 3) (sz_of (by decide) (by decide)) (Sz.up sz_zero (by decide))) (by first | exact HL.out.tz | exact HL.out.drew.tz) (by first | exact HL.out.tab | exact HL.out.drew.tab) nx_c).mono ?_
      rintro e wo14 ⟨rfl, bo14⟩
      replace HL := Lib.hid (NSt.below (by first | exact HL.out | exact HL.out.drew) bo14)
      clear c0 c1 c2 c3 c4 c5 c6 c7 c8 c9 c10 c11
      obtain ⟨c0, c1, c2, c3, c4, c5, c6, c7, c8, c9, c10, c11⟩ := HL.out.cells
      clear bo14
      (try (go_wp2_with fail))
      refine hK.out _ _ (by first | exact HL.out.cells | exact HL.out.drew.cells) (fun hHeld => ?_)
      clear hK K
      (try simp only [Act.put, List.setIfInBounds_toArray, List.set_cons_zero, List.set_cons_succ])
      refine held_take (i := 35) (v := ?_) (some 71) rfl rfl (by kernel_rfl) (by kernel_rfl) (by kernel_rfl) (fun _ _ _ h => h) (Or.inl ⟨by rfl, ?_⟩) hHeld ?_
      rotate_left 1
      · intro w hSw
        (try dsimp only at hSw)
        (first | (go_simp; done) | (go_simp; with_reducible rfl))
      (try simp only [Act.put, List.setIfInBounds_toArray, List.set_cons_zero, List.set_cons_succ])
      refine held_take (i := 36) (v := ?_) (some 72) rfl rfl (by kernel_rfl) (by kernel_rfl) (by kernel_rfl) (fun _ _ _ h => h) (Or.inl ⟨by rfl, ?_⟩) hHeld ?_
      rotate_left 1
      · intro w hSw
        (try dsimp only at hSw)
        (first | (go_simp; done) | (go_simp; with_reducible rfl))
      (try simp only [Act.put, List.setIfInBounds_toArray, List.set_cons_zero, List.set_cons_succ])
      refine held_take (i := 37) (v := ?_) (some 73) rfl rfl (by kernel_rfl) (by kernel_rfl) (by kernel_rfl) (fun _ _ _ h => h) (Or.inl ⟨by rfl, ?_⟩) hHeld ?_
      rotate_left 1
      · intro w hSw
        (try dsimp only at hSw)
        (first | (go_simp; done) | (go_simp; with_reducible rfl))
      (try simp only [Act.put, List.setIfInBounds_toArray, List.set_cons_zero, List.set_cons_succ])
      refine held_take (i := 38) (v := ?_) (some 74) rfl rfl (by kernel_rfl) (by kernel_rfl) (by kernel_rfl) (fun _ _ _ h => h) (Or.inl ⟨by rfl, ?_⟩) hHeld ?_
      rotate_left 1
      · intro w hSw
        (try dsimp only at hSw)
        (first | (go_simp; done) | (go_simp; with_reducible rfl))
      (try simp only [Act.put, List.setIfInBounds_toArray, List.set_cons_zero, List.set_cons_succ])
      refine held_call (i := 39) rfl (by kernel_rfl) (by rfl) (fun K hK => ?_)
      clear hHeld
      simp only [List.getElem_toArray, List.getElem_cons_succ, List.getElem_cons_zero]
      go_simp
      refine (rof_any _ 1 3 (by decide) (by decide) (by decide) (by decide) (by first | exact HL.out.tz | exact HL.out.drew.tz)).mono ?_
      rintro e wo15 ⟨ro15, rfl, ho15, bo15⟩
      replace HL := Lib.hid (NSt.below (by first | exact HL.out | exact HL.out.drew) bo15)
      clear c0 c1 c2 c3 c4 c5 c6 c7 c8 c9 c10 c11
      obtain ⟨c0, c1, c2, c3, c4, c5, c6, c7, c8, c9, c10, c11⟩ := HL.out.cells
      have Ho15 := Lib.hid ho15.now
      clear ho15
      clear bo15
      (try (go_wp2_with fail))
      refine hK.out _ _ (by first | exact HL.out.cells | exact HL.out.drew.cells) (fun hHeld => ?_)
      clear hK K
      (try simp only [Act.put, List.setIfInBounds_toArray, List.set_cons_zero, List.set_cons_succ])
      refine held_call (i := 40) rfl (by kernel_rfl) (by rfl) (fun K hK => ?_)
      clear hHeld
      simp only [List.getElem_toArray, List.getElem_cons_succ, List.getElem_cons_zero]
      go_simp
      refine (radd_any _ rz ro15 0 (Rat.divInt 1 3) 3 (by decide) (by decide) (RatD.mono (n := 3) (by first | exact HL.out.dz | exact HL.out.drew.dz) (by decide)) (RatN.rat (by first | exact Ho15.out | exact Ho15.out.drew) (Sz.up (sz_of (by decide) (by decide)) (by decide))) (by first | exact HL.out.tz | exact HL.out.drew.tz)).mono ?_
      rintro e wo16 ⟨ro16, rfl, ho16, bo16⟩
      replace HL := Lib.hid (NSt.below (by first | exact HL.out | exact HL.out.drew) bo16)
      clear c0 c1 c2 c3 c4 c5 c6 c7 c8 c9 c10 c11
      obtain ⟨c0, c1, c2, c3, c4, c5, c6, c7, c8, c9, c10, c11⟩ := HL.out.cells
      have Ho16 := Lib.hid ho16.now
      clear ho16
      clear bo16
      (try (go_wp2_with fail))
      refine hK.out _ _ (by first | exact HL.out.cells | exact HL.out.drew.cells) (fun hHeld => ?_)
      clear hK K
      (try simp only [Act.put, List.setIfInBounds_toArray, List.set_cons_zero, List.set_cons_succ])
      refine held_call (i := 41) rfl (by kernel_rfl) (by rfl) (fun K hK => ?_)
      clear hHeld
      simp only [List.getElem_toArray, List.getElem_cons_succ, List.getElem_cons_zero]
      go_simp
      refine (is_any _ ro16 (0 + (Rat.divInt 1 3)) _ 5 (by decide) (by decide) (by first | exact Ho16.out | exact Ho16.out.drew) (Sz.add (n := 3) (m := 1) (Sz.up sz_zero (by decide)) (sz_of (by decide) (by decide))) (by first | exact HL.out.tz | exact HL.out.drew.tz) (by first | exact HL.out.tab | exact HL.out.drew.tab) nx_d).mono ?_
      rintro e wo17 ⟨rfl, bo17⟩
      replace HL := Lib.hid (NSt.below (by first | exact HL.out | exact HL.out.drew) bo17)
      clear c0 c1 c2 c3 c4 c5 c6 c7 c8 c9 c10 c11
      obtain ⟨c0, c1, c2, c3, c4, c5, c6, c7, c8, c9, c10, c11⟩ := HL.out.cells
      clear bo17
      (try (go_wp2_with fail))
      refine hK.out _ _ (by first | exact HL.out.cells | exact HL.out.drew.cells) (fun hHeld => ?_)
      clear hK K
      (try simp only [Act.put, List.setIfInBounds_toArray, List.set_cons_zero, List.set_cons_succ])
      refine held_take (i := 42) (v := ?_) (some 78) rfl rfl (by kernel_rfl) (by kernel_rfl) (by kernel_rfl) (fun _ _ _ h => h) (Or.inl ⟨by rfl, ?_⟩) hHeld ?_
      rotate_left 1
      · intro w hSw
        (try dsimp only at hSw)
        (first | (go_simp; done) | (go_simp; with_reducible rfl))
      (try simp only [Act.put, List.setIfInBounds_toArray, List.set_cons_zero, List.set_cons_succ])
      refine held_take (i := 43) (v := ?_) (some 79) rfl rfl (by kernel_rfl) (by kernel_rfl) (by kernel_rfl) (fun _ _ _ h => h) (Or.inl ⟨by rfl, ?_⟩) hHeld ?_
      rotate_left 1
      · intro w hSw
        (try dsimp only at hSw)
        (first | (go_simp; done) | (go_simp; with_reducible rfl))
      (try simp only [Act.put, List.setIfInBounds_toArray, List.set_cons_zero, List.set_cons_succ])
      refine held_take (i := 44) (v := ?_) (some 80) rfl rfl (by kernel_rfl) (by kernel_rfl) (by kernel_rfl) (fun _ _ _ h => h) (Or.inl ⟨by rfl, ?_⟩) hHeld ?_
      rotate_left 1
      · intro w hSw
        (try dsimp only at hSw)
        (first | (go_simp; done) | (go_simp; with_reducible rfl))
      (try simp only [Act.put, List.setIfInBounds_toArray, List.set_cons_zero, List.set_cons_succ])
      refine held_take (i := 45) (v := ?_) (some 81) rfl rfl (by kernel_rfl) (by kernel_rfl) (by kernel_rfl) (fun _ _ _ h => h) (Or.inl ⟨by rfl, ?_⟩) hHeld ?_
      rotate_left 1
      · intro w hSw
        (try dsimp only at hSw)
        (first | (go_simp; done) | (go_simp; with_reducible rfl))
      (try simp only [Act.put, List.setIfInBounds_toArray, List.set_cons_zero, List.set_cons_succ])
      refine held_call (i := 46) rfl (by kernel_rfl) (by rfl) (fun K hK => ?_)
      clear hHeld
      simp only [List.getElem_toArray, List.getElem_cons_succ, List.getElem_cons_zero]
      go_simp
      refine (rmul_any _ rz ro 0 (Rat.divInt (-6) (-4)) 3 (by decide) (by decide) (RatD.mono (n := 3) (by first | exact HL.out.dz | exact HL.out.drew.dz) (by decide)) (RatD.mono (n := 3) (by first | exact HL.out.od | exact HL.out.drew.od) (by decide)) (by first | exact HL.out.tz | exact HL.out.drew.tz)).mono ?_
      rintro e wo18 ⟨ro18, rfl, ho18, bo18⟩
      replace HL := Lib.hid (NSt.below (by first | exact HL.out | exact HL.out.drew) bo18)
      clear c0 c1 c2 c3 c4 c5 c6 c7 c8 c9 c10 c11
      obtain ⟨c0, c1, c2, c3, c4, c5, c6, c7, c8, c9, c10, c11⟩ := HL.out.cells
      have Ho18 := Lib.hid ho18.now
      clear ho18
      clear bo18
      (try (go_wp2_with fail))
      refine hK.out _ _ (by first | exact HL.out.cells | exact HL.out.drew.cells) (fun hHeld => ?_)
      clear hK K
      (try simp only [Act.put, List.setIfInBounds_toArray, List.set_cons_zero, List.set_cons_succ])
      refine held_call (i := 47) rfl (by kernel_rfl) (by rfl) (fun K hK => ?_)
      clear hHeld
      simp only [List.getElem_toArray, List.getElem_cons_succ, List.getElem_cons_zero]
      go_simp
      refine (is_any _ ro18 (0 * (Rat.divInt (-6) (-4))) _ 7 (by decide) (by decide) (by first | exact Ho18.out | exact Ho18.out.drew) (Sz.mul (n := 3) (m := 3) (Sz.up sz_zero (by decide)) (Sz.up (sz_of (by decide) (by decide)) (by decide))) (by first | exact HL.out.tz | exact HL.out.drew.tz) (by first | exact HL.out.tab | exact HL.out.drew.tab) nx_e).mono ?_
      rintro e wo19 ⟨rfl, bo19⟩
      replace HL := Lib.hid (NSt.below (by first | exact HL.out | exact HL.out.drew) bo19)
      clear c0 c1 c2 c3 c4 c5 c6 c7 c8 c9 c10 c11
      obtain ⟨c0, c1, c2, c3, c4, c5, c6, c7, c8, c9, c10, c11⟩ := HL.out.cells
      clear bo19
      (try (go_wp2_with fail))
      refine hK.out _ _ (by first | exact HL.out.cells | exact HL.out.drew.cells) (fun hHeld => ?_)
      clear hK K
      (try simp only [Act.put, List.setIfInBounds_toArray, List.set_cons_zero, List.set_cons_succ])
      refine held_take (i := 48) (v := ?_) (some 84) rfl rfl (by kernel_rfl) (by kernel_rfl) (by kernel_rfl) (fun _ _ _ h => h) (Or.inl ⟨by rfl, ?_⟩) hHeld ?_
      rotate_left 1
      · intro w hSw
        (try dsimp only at hSw)
        (first | (go_simp; done) | (go_simp; with_reducible rfl))
      (try simp only [Act.put, List.setIfInBounds_toArray, List.set_cons_zero, List.set_cons_succ])
      refine held_take (i := 49) (v := ?_) (some 85) rfl rfl (by kernel_rfl) (by kernel_rfl) (by kernel_rfl) (fun _ _ _ h => h) (Or.inl ⟨by rfl, ?_⟩) hHeld ?_
      rotate_left 1
      · intro w hSw
        (try dsimp only at hSw)
        (first | (go_simp; done) | (go_simp; with_reducible rfl))
      (try simp only [Act.put, List.setIfInBounds_toArray, List.set_cons_zero, List.set_cons_succ])
      refine held_take (i := 50) (v := ?_) (some 86) rfl rfl (by kernel_rfl) (by kernel_rfl) (by kernel_rfl) (fun _ _ _ h => h) (Or.inl ⟨by rfl, ?_⟩) hHeld ?_
      rotate_left 1
      · intro w hSw
        (try dsimp only at hSw)
        (first | (go_simp; done) | (go_simp; with_reducible rfl))
      (try simp only [Act.put, List.setIfInBounds_toArray, List.set_cons_zero, List.set_cons_succ])
      refine held_call (i := 51) rfl (by kernel_rfl) (by rfl) (fun K hK => ?_)
      clear hHeld
      simp only [List.getElem_toArray, List.getElem_cons_succ, List.getElem_cons_zero]
      go_simp
      refine (rneg_any _ ro (Rat.divInt (-6) (-4)) 3 (by decide) (by decide) (RatD.mono (n := 3) (by first | exact HL.out.od | exact HL.out.drew.od) (by decide)) (by first | exact HL.out.tz | exact HL.out.drew.tz)).mono ?_
      rintro e wo20 ⟨ro20, rfl, ho20, bo20⟩
      replace HL := Lib.hid (NSt.below (by first | exact HL.out | exact HL.out.drew) bo20)
      clear c0 c1 c2 c3 c4 c5 c6 c7 c8 c9 c10 c11
      obtain ⟨c0, c1, c2, c3, c4, c5, c6, c7, c8, c9, c10, c11⟩ := HL.out.cells
      have Ho20 := Lib.hid ho20.now
      clear ho20
      clear bo20
      (try (go_wp2_with fail))
      refine hK.out _ _ (by first | exact HL.out.cells | exact HL.out.drew.cells) (fun hHeld => ?_)
      clear hK K
      (try simp only [Act.put, List.setIfInBounds_toArray, List.set_cons_zero, List.set_cons_succ])
      refine held_call (i := 52) rfl (by kernel_rfl) (by rfl) (fun K hK => ?_)
      clear hHeld
      simp only [List.getElem_toArray, List.getElem_cons_succ, List.getElem_cons_zero]
      go_simp
      refine (is_any _ ro20 (-(Rat.divInt (-6) (-4))) _ 3 (by decide) (by decide) (by first | exact Ho20.out | exact Ho20.out.drew) (Sz.neg (Sz.up (sz_of (by decide) (by decide)) (by decide))) (by first | exact HL.out.tz | exact HL.out.drew.tz) (by first | exact HL.out.tab | exact HL.out.drew.tab) nx_f).mono ?_
      rintro e wo21 ⟨rfl, bo21⟩
      replace HL := Lib.hid (NSt.below (by first | exact HL.out | exact HL.out.drew) bo21)
      clear c0 c1 c2 c3 c4 c5 c6 c7 c8 c9 c10 c11
      obtain ⟨c0, c1, c2, c3, c4, c5, c6, c7, c8, c9, c10, c11⟩ := HL.out.cells
      clear bo21
      (try (go_wp2_with fail))
      refine hK.out _ _ (by first | exact HL.out.cells | exact HL.out.drew.cells) (fun hHeld => ?_)
      clear hK K
      (try simp only [Act.put, List.setIfInBounds_toArray, List.set_cons_zero, List.set_cons_succ])
      refine held_take (i := 53) (v := ?_) (some 89) rfl rfl (by kernel_rfl) (by kernel_rfl) (by kernel_rfl) (fun _ _ _ h => h) (Or.inl ⟨by rfl, ?_⟩) hHeld ?_
      rotate_left 1
      · intro w hSw
        (try dsimp only at hSw)
        (first | (go_simp; done) | (go_simp; with_reducible rfl))
      (try simp only [Act.put, List.setIfInBounds_toArray, List.set_cons_zero, List.set_cons_succ])
      refine held_take (i := 54) (v := ?_) (some 90) rfl rfl (by kernel_rfl) (by kernel_rfl) (by kernel_rfl) (fun _ _ _ h => h) (Or.inl ⟨by rfl, ?_⟩) hHeld ?_
      rotate_left 1
      · intro w hSw
        (try dsimp only at hSw)
        (first | (go_simp; done) | (go_simp; with_reducible rfl))
      (try simp only [Act.put, List.setIfInBounds_toArray, List.set_cons_zero, List.set_cons_succ])
      refine held_take (i := 55) (v := ?_) (some 91) rfl rfl (by kernel_rfl) (by kernel_rfl) (by kernel_rfl) (fun _ _ _ h => h) (Or.inl ⟨by rfl, ?_⟩) hHeld ?_
      rotate_left 1
      · intro w hSw
        (try dsimp only at hSw)
        (first | (go_simp; done) | (go_simp; with_reducible rfl))
      (try simp only [Act.put, List.setIfInBounds_toArray, List.set_cons_zero, List.set_cons_succ])
      refine held_call (i := 56) rfl (by kernel_rfl) (by rfl) (fun K hK => ?_)
      clear hHeld
      simp only [List.getElem_toArray, List.getElem_cons_succ, List.getElem_cons_zero]
      go_simp
      refine (rof_any _ (-1) 3 (by decide) (by decide) (by decide) (by decide) (by first | exact HL.out.tz | exact HL.out.drew.tz)).mono ?_
      rintro e wo22 ⟨ro22, rfl, ho22, bo22⟩
      replace HL := Lib.hid (NSt.below (by first | exact HL.out | exact HL.out.drew) bo22)
      clear c0 c1 c2 c3 c4 c5 c6 c7 c8 c9 c10 c11
      obtain ⟨c0, c1, c2, c3, c4, c5, c6, c7, c8, c9, c10, c11⟩ := HL.out.cells
      have Ho22 := Lib.hid ho22.now
      clear ho22
      clear bo22
      (try (go_wp2_with fail))
      refine hK.out _ _ (by first | exact HL.out.cells | exact HL.out.drew.cells) (fun hHeld => ?_)
      clear hK K
      (try simp only [Act.put, List.setIfInBounds_toArray, List.set_cons_zero, List.set_cons_succ])
      refine held_call (i := 57) rfl (by kernel_rfl) (by rfl) (fun K hK => ?_)
      clear hHeld
      simp only [List.getElem_toArray, List.getElem_cons_succ, List.getElem_cons_zero]
      go_simp
      refine (rabs_any _ ro22 (Rat.divInt (-1) 3) 1 (by decide) (by decide) (RatN.rat (by first | exact Ho22.out | exact Ho22.out.drew) (Sz.up (sz_of (by decide) (by decide)) (by decide))) (by first | exact HL.out.tz | exact HL.out.drew.tz)).mono ?_
      rintro e wo23 ⟨ro23, rfl, ho23, bo23⟩
      replace HL := Lib.hid (NSt.below (by first | exact HL.out | exact HL.out.drew) bo23)
      clear c0 c1 c2 c3 c4 c5 c6 c7 c8 c9 c10 c11
      obtain ⟨c0, c1, c2, c3, c4, c5, c6, c7, c8, c9, c10, c11⟩ := HL.out.cells
      have Ho23 := Lib.hid ho23.now
      clear ho23
      clear bo23
      (try (go_wp2_with fail))
      refine hK.out _ _ (by first | exact HL.out.cells | exact HL.out.drew.cells) (fun hHeld => ?_)
      clear hK K
      (try simp only [Act.put, List.setIfInBounds_toArray, List.set_cons_zero, List.set_cons_succ])
      refine held_call (i := 58) rfl (by kernel_rfl) (by rfl) (fun K hK => ?_)
      clear hHeld
      simp only [List.getElem_toArray, List.getElem_cons_succ, List.getElem_cons_zero]
      go_simp
      refine (is_any _ ro23 (rabs (Rat.divInt (-1) 3)) _ 1 (by decide) (by decide) (by first | exact Ho23.out | exact Ho23.out.drew) (Sz.ab (sz_of (by decide) (by decide))) (by first | exact HL.out.tz | exact HL.out.drew.tz) (by first | exact HL.out.tab | exact HL.out.drew.tab) nx_g).mono ?_
      rintro e wo24 ⟨rfl, bo24⟩
      replace HL := Lib.hid (NSt.below (by first | exact HL.out | exact HL.out.drew) bo24)
      clear c0 c1 c2 c3 c4 c5 c6 c7 c8 c9 c10 c11
      obtain ⟨c0, c1, c2, c3, c4, c5, c6, c7, c8, c9, c10, c11⟩ := HL.out.cells
      clear bo24
      (try (go_wp2_with fail))
      refine hK.out _ _ (by first | exact HL.out.cells | exact HL.out.drew.cells) (fun hHeld => ?_)
      clear hK K
      (try simp only [Act.put, List.setIfInBounds_toArray, List.set_cons_zero, List.set_cons_succ])
      refine held_take (i := 59) (v := ?_) (some 95) rfl rfl (by kernel_rfl) (by kernel_rfl) (by kernel_rfl) (fun _ _ _ h => h) (Or.inl ⟨by rfl, ?_⟩) hHeld ?_
      rotate_left 1
      · intro w hSw
        (try dsimp only at hSw)
        (first | (go_simp; done) | (go_simp; with_reducible rfl))
      (try simp only [Act.put, List.setIfInBounds_toArray, List.set_cons_zero, List.set_cons_succ])
      refine held_take (i := 60) (v := ?_) (some 6) rfl rfl (by kernel_rfl) (by kernel_rfl) (by kernel_rfl) (fun _ _ _ h => h) (Or.inl ⟨by rfl, ?_⟩) hHeld ?_
      rotate_left 1
      · intro w hSw
        (try dsimp only at hSw)
        (first | (go_simp; done) | (go_simp; with_reducible rfl))
      (try simp only [Act.put, List.setIfInBounds_toArray, List.set_cons_zero, List.set_cons_succ])
      refine wpAnyH_done (by kernel_rfl) ?_ _
      refine NoPanic.normal ?_
      all_goals
        go_wp2_with fail
        go_meet
        exact ⟨rfl, by first | exact HL.out | exact HL.out.drew⟩
  clear HL c0 c1 c2 c3 c4 c5 c6 c7 c8 c9 c10 c11
  obtain ⟨rfl, hL⟩ := hcut
  have HL := Lib.hid hL
  obtain ⟨c0, c1, c2, c3, c4, c5, c6, c7, c8, c9, c10, c11⟩ := hL.cells
  clear hL
  go_upto_region 6 with fail
  go_cut [7] (fun v wx => v = .bool true ∧ TSt w wx)
  case first =>
    as_aux_lemma =>
      refine wp_region_noPanic ?_
      refine wp_region_held_drew (S := (fun W => W.cell? ⟨gf, 0, none⟩ = some (.bool jf.neg) ∧ W.cell? ⟨gf, 1, none⟩ = some (.slice jf.A jf.k jf.c) ∧ W.cell? ⟨gc, 0, none⟩ = some (.bool jc.neg) ∧ W.cell? ⟨gc, 1, none⟩ = some (.slice jc.A jc.k jc.c) ∧ W.cell? ⟨gz, 0, none⟩ = some (.bool rz.num.neg) ∧ W.cell? ⟨gz, 1, none⟩ = some (.slice rz.num.A rz.num.k rz.num.c) ∧ W.cell? ⟨gz, 2, none⟩ = some (.bool rz.den.neg) ∧ W.cell? ⟨gz, 3, none⟩ = some (.slice rz.den.A rz.den.k rz.den.c) ∧ W.cell? ⟨go, 0, none⟩ = some (.bool ro.num.neg) ∧ W.cell? ⟨go, 1, none⟩ = some (.slice ro.num.A ro.num.k ro.num.c) ∧ W.cell? ⟨go, 2, none⟩ = some (.bool ro.den.neg) ∧ W.cell? ⟨go, 3, none⟩ = some (.slice ro.den.A ro.den.k ro.den.c))) (by kernel_rfl) (by first | exact HL.out.cells | exact HL.out.drew.cells) (fun hHeld => ?_)
      refine held_take (i := 1) (v := ?_) (some 97) rfl rfl (by kernel_rfl) (by kernel_rfl) (by kernel_rfl) (fun _ _ _ h => h) (Or.inl ⟨by rfl, ?_⟩) hHeld ?_
      rotate_left 1
      · intro w hSw
        (try dsimp only at hSw)
        (first | (go_simp; done) | (go_simp; with_reducible rfl))
      (try simp only [Act.put, List.setIfInBounds_toArray, List.set_cons_zero, List.set_cons_succ])
      refine held_call (i := 0) rfl (by kernel_rfl) (by rfl) (fun K hK => ?_)
      clear hHeld
      simp only [List.getElem_toArray, List.getElem_cons_zero]
      go_simp
      refine (wof_any _ 3 (by decide) (by decide)).mono ?_
      rintro e wt1 ⟨jt1, rfl, ht1, bt1⟩
      replace HL := Lib.hid (NSt.below (by first | exact HL.out | exact HL.out.drew) bt1)
      clear c0 c1 c2 c3 c4 c5 c6 c7 c8 c9 c10 c11
      obtain ⟨c0, c1, c2, c3, c4, c5, c6, c7, c8, c9, c10, c11⟩ := HL.out.cells
      have Hjt1 := Lib.hid ht1.now.old
      clear ht1
      clear bt1
      (try (go_wp2_with fail))
      refine hK.out _ _ (by first | exact HL.out.cells | exact HL.out.drew.cells) (fun hHeld => ?_)
      clear hK K
      (try simp only [Act.put, List.setIfInBounds_toArray, List.set_cons_zero, List.set_cons_succ])
      refine held_call (i := 2) rfl (by kernel_rfl) (by rfl) (fun K hK => ?_)
      clear hHeld
      simp only [List.getElem_toArray, List.getElem_cons_succ, List.getElem_cons_zero]
      go_simp
      refine (make_any _ jt1 ⟨false, none, 0, 0⟩ 3 0 1 (by decide) (by decide) (IntN.ofLt (Rests.now (F := (· < wt1.heap.size)) (φ := IntN jt1 3) (by first | exact Hjt1.out | exact Hjt1.out.drew)) (by decide)) (none_int _) (by first | exact HL.out.tz | exact HL.out.drew.tz)).mono ?_
      rintro e wt2 ⟨rt2, rfl, ht2, bt2⟩
      replace HL := Lib.hid (NSt.below (by first | exact HL.out | exact HL.out.drew) bt2)
      clear c0 c1 c2 c3 c4 c5 c6 c7 c8 c9 c10 c11
      obtain ⟨c0, c1, c2, c3, c4, c5, c6, c7, c8, c9, c10, c11⟩ := HL.out.cells
      have Ht2 := Lib.hid ht2.now
      clear ht2 Hjt1
      clear bt2
      (try (go_wp2_with fail))
      refine hK.out _ _ (by first | exact HL.out.cells | exact HL.out.drew.cells) (fun hHeld => ?_)
      clear hK K
      (try simp only [Act.put, List.setIfInBounds_toArray, List.set_cons_zero, List.set_cons_succ])
      refine held_call (i := 3) rfl (by kernel_rfl) (by rfl) (fun K hK => ?_)
      clear hHeld
      simp only [List.getElem_toArray, List.getElem_cons_succ, List.getElem_cons_zero]
      go_simp
      refine (is_any _ rt2 (Rat.divInt 3 0) _ 1 (by decide) (by decide) (by first | exact Ht2.out | exact Ht2.out.drew) (sz_of (by decide) (by decide)) (by first | exact HL.out.tz | exact HL.out.drew.tz) (by first | exact HL.out.tab | exact HL.out.drew.tab) nx_h).mono ?_
      rintro e wt3 ⟨rfl, bt3⟩
      replace HL := Lib.hid (NSt.below (by first | exact HL.out | exact HL.out.drew) bt3)
      clear c0 c1 c2 c3 c4 c5 c6 c7 c8 c9 c10 c11
      obtain ⟨c0, c1, c2, c3, c4, c5, c6, c7, c8, c9, c10, c11⟩ := HL.out.cells
      clear bt3
      (try (go_wp2_with fail))
      refine hK.out _ _ (by first | exact HL.out.cells | exact HL.out.drew.cells) (fun hHeld => ?_)
      clear hK K
      (try simp only [Act.put, List.setIfInBounds_toArray, List.set_cons_zero, List.set_cons_succ])
      refine held_take (i := 4) (v := ?_) (some 100) rfl rfl (by kernel_rfl) (by kernel_rfl) (by kernel_rfl) (fun _ _ _ h => h) (Or.inl ⟨by rfl, ?_⟩) hHeld ?_
      rotate_left 1
      · intro w hSw
        (try dsimp only at hSw)
        (first | (go_simp; done) | (go_simp; with_reducible rfl))
      (try simp only [Act.put, List.setIfInBounds_toArray, List.set_cons_zero, List.set_cons_succ])
      refine held_take (i := 5) (v := ?_) (some 101) rfl rfl (by kernel_rfl) (by kernel_rfl) (by kernel_rfl) (fun _ _ _ h => h) (Or.inl ⟨by rfl, ?_⟩) hHeld ?_
      rotate_left 1
      · intro w hSw
        (try dsimp only at hSw)
        (first | (go_simp; done) | (go_simp; with_reducible rfl))
      (try simp only [Act.put, List.setIfInBounds_toArray, List.set_cons_zero, List.set_cons_succ])
      refine held_take (i := 7) (v := ?_) (some 103) rfl rfl (by kernel_rfl) (by kernel_rfl) (by kernel_rfl) (fun _ _ _ h => h) (Or.inl ⟨by rfl, ?_⟩) hHeld ?_
      rotate_left 1
      · intro w hSw
        (try dsimp only at hSw)
        (first | (go_simp; done) | (go_simp; with_reducible rfl))
      (try simp only [Act.put, List.setIfInBounds_toArray, List.set_cons_zero, List.set_cons_succ])
      refine held_call (i := 6) rfl (by kernel_rfl) (by rfl) (fun K hK => ?_)
      clear hHeld
      simp only [List.getElem_toArray, List.getElem_cons_succ, List.getElem_cons_zero]
      go_simp
      refine (rof_any _ 1 3 (by decide) (by decide) (by decide) (by decide) (by first | exact HL.out.tz | exact HL.out.drew.tz)).mono ?_
      rintro e wt4 ⟨rt4, rfl, ht4, bt4⟩
      replace HL := Lib.hid (NSt.below (by first | exact HL.out | exact HL.out.drew) bt4)
      clear c0 c1 c2 c3 c4 c5 c6 c7 c8 c9 c10 c11
      obtain ⟨c0, c1, c2, c3, c4, c5, c6, c7, c8, c9, c10, c11⟩ := HL.out.cells
      have Ht4 := Lib.hid ht4.now
      clear ht4
      clear bt4
      (try (go_wp2_with fail))
      refine hK.out _ _ (by first | exact HL.out.cells | exact HL.out.drew.cells) (fun hHeld => ?_)
      clear hK K
      (try simp only [Act.put, List.setIfInBounds_toArray, List.set_cons_zero, List.set_cons_succ])
      refine held_call (i := 8) rfl (by kernel_rfl) (by rfl) (fun K hK => ?_)
      clear hHeld
      simp only [List.getElem_toArray, List.getElem_cons_succ, List.getElem_cons_zero]
      go_simp
      refine (rmax_any _ rt4 ro (Rat.divInt 1 3) (Rat.divInt (-6) (-4)) 3 (by decide) (by decide) (RatN.rat (by first | exact Ht4.out | exact Ht4.out.drew) (Sz.up (sz_of (by decide) (by decide)) (by decide))) (RatD.mono (n := 3) (by first | exact HL.out.od | exact HL.out.drew.od) (by decide)) (by first | exact HL.out.tz | exact HL.out.drew.tz)).mono ?_
      rintro e wt5 ⟨rt5, rfl, ht5, bt5⟩
      replace HL := Lib.hid (NSt.below (by first | exact HL.out | exact HL.out.drew) bt5)
      clear c0 c1 c2 c3 c4 c5 c6 c7 c8 c9 c10 c11
      obtain ⟨c0, c1, c2, c3, c4, c5, c6, c7, c8, c9, c10, c11⟩ := HL.out.cells
      have Ht5 := Lib.hid ht5.now
      clear ht5
      clear bt5
      (try (go_wp2_with fail))
      refine hK.out _ _ (by first | exact HL.out.cells | exact HL.out.drew.cells) (fun hHeld => ?_)
      clear hK K
      (try simp only [Act.put, List.setIfInBounds_toArray, List.set_cons_zero, List.set_cons_succ])
      refine held_call (i := 9) rfl (by kernel_rfl) (by rfl) (fun K hK => ?_)
      clear hHeld
      simp only [List.getElem_toArray, List.getElem_cons_succ, List.getElem_cons_zero]
      go_simp
      refine (is_any _ rt5 (maxQ (Rat.divInt 1 3) (Rat.divInt (-6) (-4))) _ 3 (by decide) (by decide) (by first | exact Ht5.out | exact Ht5.out.drew) (Sz.max (Sz.up (sz_of (by decide) (by decide)) (by decide)) (Sz.up (sz_of (by decide) (by decide)) (by decide))) (by first | exact HL.out.tz | exact HL.out.drew.tz) (by first | exact HL.out.tab | exact HL.out.drew.tab) nx_i).mono ?_
      rintro e wt6 ⟨rfl, bt6⟩
      replace HL := Lib.hid (NSt.below (by first | exact HL.out | exact HL.out.drew) bt6)
      clear c0 c1 c2 c3 c4 c5 c6 c7 c8 c9 c10 c11
      obtain ⟨c0, c1, c2, c3, c4, c5, c6, c7, c8, c9, c10, c11⟩ := HL.out.cells
      clear bt6
      (try (go_wp2_with fail))
      refine hK.out _ _ (by first | exact HL.out.cells | exact HL.out.drew.cells) (fun hHeld => ?_)
      clear hK K
      (try simp only [Act.put, List.setIfInBounds_toArray, List.set_cons_zero, List.set_cons_succ])
      refine held_take (i := 10) (v := ?_) (some 106) rfl rfl (by kernel_rfl) (by kernel_rfl) (by kernel_rfl) (fun _ _ _ h => h) (Or.inl ⟨by rfl, ?_⟩) hHeld ?_
      rotate_left 1
      · intro w hSw
        (try dsimp only at hSw)
        (first | (go_simp; done) | (go_simp; with_reducible rfl))
      (try simp only [Act.put, List.setIfInBounds_toArray, List.set_cons_zero, List.set_cons_succ])
      refine held_take (i := 11) (v := ?_) (some 107) rfl rfl (by kernel_rfl) (by kernel_rfl) (by kernel_rfl) (fun _ _ _ h => h) (Or.inl ⟨by rfl, ?_⟩) hHeld ?_
      rotate_left 1
      · intro w hSw
        (try dsimp only at hSw)
        (first | (go_simp; done) | (go_simp; with_reducible rfl))
      (try simp only [Act.put, List.setIfInBounds_toArray, List.set_cons_zero, List.set_cons_succ])
      refine held_take (i := 12) (v := ?_) (some 108) rfl rfl (by kernel_rfl) (by kernel_rfl) (by kernel_rfl) (fun _ _ _ h => h) (Or.inl ⟨by rfl, ?_⟩) hHeld ?_
      rotate_left 1
      · intro w hSw
        (try dsimp only at hSw)
        (first | (go_simp; done) | (go_simp; with_reducible rfl))
      (try simp only [Act.put, List.setIfInBounds_toArray, List.set_cons_zero, List.set_cons_succ])
      refine held_take (i := 14) (v := ?_) (some 110) rfl rfl (by kernel_rfl) (by kernel_rfl) (by kernel_rfl) (fun _ _ _ h => h) (Or.inl ⟨by rfl, ?_⟩) hHeld ?_
      rotate_left 1
      · intro w hSw
        (try dsimp only at hSw)
        (first | (go_simp; done) | (go_simp; with_reducible rfl))
      (try simp only [Act.put, List.setIfInBounds_toArray, List.set_cons_zero, List.set_cons_succ])
      refine held_call (i := 13) rfl (by kernel_rfl) (by rfl) (fun K hK => ?_)
      clear hHeld
      simp only [List.getElem_toArray, List.getElem_cons_succ, List.getElem_cons_zero]
      go_simp
      refine (rof_any _ (-1) 3 (by decide) (by decide) (by decide) (by decide) (by first | exact HL.out.tz | exact HL.out.drew.tz)).mono ?_
      rintro e wt7 ⟨rt7, rfl, ht7, bt7⟩
      replace HL := Lib.hid (NSt.below (by first | exact HL.out | exact HL.out.drew) bt7)
      clear c0 c1 c2 c3 c4 c5 c6 c7 c8 c9 c10 c11
      obtain ⟨c0, c1, c2, c3, c4, c5, c6, c7, c8, c9, c10, c11⟩ := HL.out.cells
      have Ht7 := Lib.hid ht7.now
      clear ht7
      clear bt7
      (try (go_wp2_with fail))
      refine hK.out _ _ (by first | exact HL.out.cells | exact HL.out.drew.cells) (fun hHeld => ?_)
      clear hK K
      (try simp only [Act.put, List.setIfInBounds_toArray, List.set_cons_zero, List.set_cons_succ])
      refine held_call (i := 15) rfl (by kernel_rfl) (by rfl) (fun K hK => ?_)
      clear hHeld
      simp only [List.getElem_toArray, List.getElem_cons_succ, List.getElem_cons_zero]
      go_simp
      refine (rof_any _ (-1) 2 (by decide) (by decide) (by decide) (by decide) (by first | exact HL.out.tz | exact HL.out.drew.tz)).mono ?_
      rintro e wt8 ⟨rt8, rfl, ht8, bt8⟩
      replace HL := Lib.hid (NSt.below (by first | exact HL.out | exact HL.out.drew) bt8)
      clear c0 c1 c2 c3 c4 c5 c6 c7 c8 c9 c10 c11
      obtain ⟨c0, c1, c2, c3, c4, c5, c6, c7, c8, c9, c10, c11⟩ := HL.out.cells
      replace Ht7 := Lib.hid (RatN.below (by first | exact Ht7.out | exact Ht7.out.drew) bt8)
      have Ht8 := Lib.hid ht8.now
      clear ht8
      clear bt8
      (try (go_wp2_with fail))
      refine hK.out _ _ (by first | exact HL.out.cells | exact HL.out.drew.cells) (fun hHeld => ?_)
      clear hK K
      (try simp only [Act.put, List.setIfInBounds_toArray, List.set_cons_zero, List.set_cons_succ])
      refine held_call (i := 16) rfl (by kernel_rfl) (by rfl) (fun K hK => ?_)
      clear hHeld
      simp only [List.getElem_toArray, List.getElem_cons_succ, List.getElem_cons_zero]
      go_simp
      refine (rmin_any _ rt7 rt8 (Rat.divInt (-1) 3) (Rat.divInt (-1) 2) 1 (by decide) (by decide) (RatN.rat (by first | exact Ht7.out | exact Ht7.out.drew) (Sz.up (sz_of (by decide) (by decide)) (by decide))) (RatN.rat (by first | exact Ht8.out | exact Ht8.out.drew) (Sz.up (sz_of (by decide) (by decide)) (by decide))) (by first | exact HL.out.tz | exact HL.out.drew.tz)).mono ?_
      rintro e wt9 ⟨rt9, rfl, ht9, bt9⟩
      replace HL := Lib.hid (NSt.below (by first | exact HL.out | exact HL.out.drew) bt9)
      clear c0 c1 c2 c3 c4 c5 c6 c7 c8 c9 c10 c11
      obtain ⟨c0, c1, c2, c3, c4, c5, c6, c7, c8, c9, c10, c11⟩ := HL.out.cells
      have Ht9 := Lib.hid ht9.now
      clear ht9
      clear bt9
      (try (go_wp2_with fail))
      refine hK.out _ _ (by first | exact HL.out.cells | exact HL.out.drew.cells) (fun hHeld => ?_)
      clear hK K
      (try simp only [Act.put, List.setIfInBounds_toArray, List.set_cons_zero, List.set_cons_succ])
      refine held_call (i := 17) rfl (by kernel_rfl) (by rfl) (fun K hK => ?_)
      clear hHeld
      simp only [List.getElem_toArray, List.getElem_cons_succ, List.getElem_cons_zero]
      go_simp
      refine (is_any _ rt9 (minQ (Rat.divInt (-1) 3) (Rat.divInt (-1) 2)) _ 1 (by decide) (by decide) (by first | exact Ht9.out | exact Ht9.out.drew) (Sz.min (sz_of (by decide) (by decide)) (sz_of (by decide) (by decide))) (by first | exact HL.out.tz | exact HL.out.drew.tz) (by first | exact HL.out.tab | exact HL.out.drew.tab) nx_j).mono ?_
      rintro e wt10 ⟨rfl, bt10⟩
      replace HL := Lib.hid (NSt.below (by first | exact HL.out | exact HL.out.drew) bt10)
      clear c0 c1 c2 c3 c4 c5 c6 c7 c8 c9 c10 c11
      obtain ⟨c0, c1, c2, c3, c4, c5, c6, c7, c8, c9, c10, c11⟩ := HL.out.cells
      clear bt10
      (try (go_wp2_with fail))
      refine hK.out _ _ (by first | exact HL.out.cells | exact HL.out.drew.cells) (fun hHeld => ?_)
      clear hK K
      (try simp only [Act.put, List.setIfInBounds_toArray, List.set_cons_zero, List.set_cons_succ])
      refine held_take (i := 18) (v := ?_) (some 114) rfl rfl (by kernel_rfl) (by kernel_rfl) (by kernel_rfl) (fun _ _ _ h => h) (Or.inl ⟨by rfl, ?_⟩) hHeld ?_
      rotate_left 1
      · intro w hSw
        (try dsimp only at hSw)
        (first | (go_simp; done) | (go_simp; with_reducible rfl))
      (try simp only [Act.put, List.setIfInBounds_toArray, List.set_cons_zero, List.set_cons_succ])
      refine held_take (i := 19) (v := ?_) (some 115) rfl rfl (by kernel_rfl) (by kernel_rfl) (by kernel_rfl) (fun _ _ _ h => h) (Or.inl ⟨by rfl, ?_⟩) hHeld ?_
      rotate_left 1
      · intro w hSw
        (try dsimp only at hSw)
        (first | (go_simp; done) | (go_simp; with_reducible rfl))
      (try simp only [Act.put, List.setIfInBounds_toArray, List.set_cons_zero, List.set_cons_succ])
      refine held_take (i := 20) (v := ?_) (some 116) rfl rfl (by kernel_rfl) (by kernel_rfl) (by kernel_rfl) (fun _ _ _ h => h) (Or.inl ⟨by rfl, ?_⟩) hHeld ?_
      rotate_left 1
      · intro w hSw
        (try dsimp only at hSw)
        (first | (go_simp; done) | (go_simp; with_reducible rfl))
      (try simp only [Act.put, List.setIfInBounds_toArray, List.set_cons_zero, List.set_cons_succ])
      refine held_call (i := 21) rfl (by kernel_rfl) (by rfl) (fun K hK => ?_)
      clear hHeld
      simp only [List.getElem_toArray, List.getElem_cons_succ, List.getElem_cons_zero]
      go_simp
      refine (rof_any _ 8 4 (by decide) (by decide) (by decide) (by decide) (by first | exact HL.out.tz | exact HL.out.drew.tz)).mono ?_
      rintro e wt11 ⟨rt11, rfl, ht11, bt11⟩
      replace HL := Lib.hid (NSt.below (by first | exact HL.out | exact HL.out.drew) bt11)
      clear c0 c1 c2 c3 c4 c5 c6 c7 c8 c9 c10 c11
      obtain ⟨c0, c1, c2, c3, c4, c5, c6, c7, c8, c9, c10, c11⟩ := HL.out.cells
      have Ht11 := Lib.hid ht11.now
      clear ht11
      clear bt11
      (try (go_wp2_with fail))
      refine hK.out _ _ (by first | exact HL.out.cells | exact HL.out.drew.cells) (fun hHeld => ?_)
      clear hK K
      (try simp only [Act.put, List.setIfInBounds_toArray, List.set_cons_zero, List.set_cons_succ])
      refine held_call (i := 22) rfl (by kernel_rfl) (by rfl) (fun K hK => ?_)
      clear hHeld
      simp only [List.getElem_toArray, List.getElem_cons_succ, List.getElem_cons_zero]
      go_simp
      refine (whole_is _ rt11 (Rat.divInt 8 4) 1 true (by decide) (by decide) (RatN.rat (by first | exact Ht11.out | exact Ht11.out.drew) (Sz.up (sz_of (by decide) (by decide)) (by decide))) (by decide +kernel)).mono ?_
      rintro e wt12 ⟨rfl, bt12⟩
      replace HL := Lib.hid (NSt.below (by first | exact HL.out | exact HL.out.drew) bt12)
      clear c0 c1 c2 c3 c4 c5 c6 c7 c8 c9 c10 c11
      obtain ⟨c0, c1, c2, c3, c4, c5, c6, c7, c8, c9, c10, c11⟩ := HL.out.cells
      clear bt12
      (try (go_wp2_with fail))
      refine hK.out _ _ (by first | exact HL.out.cells | exact HL.out.drew.cells) (fun hHeld => ?_)
      clear hK K
      (try simp only [Act.put, List.setIfInBounds_toArray, List.set_cons_zero, List.set_cons_succ])
      refine held_take (i := 23) (v := ?_) (some 119) rfl rfl (by kernel_rfl) (by kernel_rfl) (by kernel_rfl) (fun _ _ _ h => h) (Or.inl ⟨by rfl, ?_⟩) hHeld ?_
      rotate_left 1
      · intro w hSw
        (try dsimp only at hSw)
        (first | (go_simp; done) | (go_simp; with_reducible rfl))
      (try simp only [Act.put, List.setIfInBounds_toArray, List.set_cons_zero, List.set_cons_succ])
      refine held_take (i := 24) (v := ?_) (some 120) rfl rfl (by kernel_rfl) (by kernel_rfl) (by kernel_rfl) (fun _ _ _ h => h) (Or.inl ⟨by rfl, ?_⟩) hHeld ?_
      rotate_left 1
      · intro w hSw
        (try dsimp only at hSw)
        (first | (go_simp; done) | (go_simp; with_reducible rfl))
      (try simp only [Act.put, List.setIfInBounds_toArray, List.set_cons_zero, List.set_cons_succ])
      refine held_take (i := 25) (v := ?_) (some 121) rfl rfl (by kernel_rfl) (by kernel_rfl) (by kernel_rfl) (fun _ _ _ h => h) (Or.inl ⟨by rfl, ?_⟩) hHeld ?_
      rotate_left 1
      · intro w hSw
        (try dsimp only at hSw)
        (first | (go_simp; done) | (go_simp; with_reducible rfl))
      (try simp only [Act.put, List.setIfInBounds_toArray, List.set_cons_zero, List.set_cons_succ])
      refine held_call (i := 26) rfl (by kernel_rfl) (by rfl) (fun K hK => ?_)
      clear hHeld
      simp only [List.getElem_toArray, List.getElem_cons_succ, List.getElem_cons_zero]
      go_simp
      refine (rof_any _ 1 2 (by decide) (by decide) (by decide) (by decide) (by first | exact HL.out.tz | exact HL.out.drew.tz)).mono ?_
      rintro e wt13 ⟨rt13, rfl, ht13, bt13⟩
      replace HL := Lib.hid (NSt.below (by first | exact HL.out | exact HL.out.drew) bt13)
      clear c0 c1 c2 c3 c4 c5 c6 c7 c8 c9 c10 c11
      obtain ⟨c0, c1, c2, c3, c4, c5, c6, c7, c8, c9, c10, c11⟩ := HL.out.cells
      have Ht13 := Lib.hid ht13.now
      clear ht13
      clear bt13
      (try (go_wp2_with fail))
      refine hK.out _ _ (by first | exact HL.out.cells | exact HL.out.drew.cells) (fun hHeld => ?_)
      clear hK K
      (try simp only [Act.put, List.setIfInBounds_toArray, List.set_cons_zero, List.set_cons_succ])
      refine held_call (i := 27) rfl (by kernel_rfl) (by rfl) (fun K hK => ?_)
      clear hHeld
      simp only [List.getElem_toArray, List.getElem_cons_succ, List.getElem_cons_zero]
      go_simp
      refine (whole_is _ rt13 (Rat.divInt 1 2) 1 false (by decide) (by decide) (RatN.rat (by first | exact Ht13.out | exact Ht13.out.drew) (Sz.up (sz_of (by decide) (by decide)) (by decide))) (by decide +kernel)).mono ?_
      rintro e wt14 ⟨rfl, bt14⟩
      replace HL := Lib.hid (NSt.below (by first | exact HL.out | exact HL.out.drew) bt14)
      clear c0 c1 c2 c3 c4 c5 c6 c7 c8 c9 c10 c11
      obtain ⟨c0, c1, c2, c3, c4, c5, c6, c7, c8, c9, c10, c11⟩ := HL.out.cells
      clear bt14
      (try (go_wp2_with fail))
      refine hK.out _ _ (by first | exact HL.out.cells | exact HL.out.drew.cells) (fun hHeld => ?_)
      clear hK K
      (try simp only [Act.put, List.setIfInBounds_toArray, List.set_cons_zero, List.set_cons_succ])
      refine held_take (i := 28) (v := ?_) (some 124) rfl rfl (by kernel_rfl) (by kernel_rfl) (by kernel_rfl) (fun _ _ _ h => h) (Or.inl ⟨by rfl, ?_⟩) hHeld ?_
      rotate_left 1
      · intro w hSw
        (try dsimp only at hSw)
        (first | (go_simp; done) | (go_simp; with_reducible rfl))
      (try simp only [Act.put, List.setIfInBounds_toArray, List.set_cons_zero, List.set_cons_succ])
      refine held_take (i := 29) (v := ?_) (some 125) rfl rfl (by kernel_rfl) (by kernel_rfl) (by kernel_rfl) (fun _ _ _ h => h) (Or.inl ⟨by rfl, ?_⟩) hHeld ?_
      rotate_left 1
      · intro w hSw
        (try dsimp only at hSw)
        (first | (go_simp; done) | (go_simp; with_reducible rfl))
      (try simp only [Act.put, List.setIfInBounds_toArray, List.set_cons_zero, List.set_cons_succ])
      refine held_take (i := 30) (v := ?_) (some 126) rfl rfl (by kernel_rfl) (by kernel_rfl) (by kernel_rfl) (fun _ _ _ h => h) (Or.inl ⟨by rfl, ?_⟩) hHeld ?_
      rotate_left 1
      · intro w hSw
        (try dsimp only at hSw)
        (first | (go_simp; done) | (go_simp; with_reducible rfl))
      (try simp only [Act.put, List.setIfInBounds_toArray, List.set_cons_zero, List.set_cons_succ])
      refine held_call (i := 31) rfl (by kernel_rfl) (by rfl) (fun K hK => ?_)
      clear hHeld
      simp only [List.getElem_toArray, List.getElem_cons_succ, List.getElem_cons_zero]
      go_simp
      refine (rof_any _ (-9223372036854775808) (-9223372036854775808) (by decide) (by decide) (by decide) (by decide) (by first | exact HL.out.tz | exact HL.out.drew.tz)).mono ?_
      rintro e wt15 ⟨rt15, rfl, ht15, bt15⟩
      replace HL := Lib.hid (NSt.below (by first | exact HL.out | exact HL.out.drew) bt15)
      clear c0 c1 c2 c3 c4 c5 c6 c7 c8 c9 c10 c11
      obtain ⟨c0, c1, c2, c3, c4, c5, c6, c7, c8, c9, c10, c11⟩ := HL.out.cells
      have Ht15 := Lib.hid ht15.now
      clear ht15
      clear bt15
      (try (go_wp2_with fail))
      refine hK.out _ _ (by first | exact HL.out.cells | exact HL.out.drew.cells) (fun hHeld => ?_)
      clear hK K
      (try simp only [Act.put, List.setIfInBounds_toArray, List.set_cons_zero, List.set_cons_succ])
      refine held_call (i := 32) rfl (by kernel_rfl) (by rfl) (fun K hK => ?_)
      clear hHeld
      simp only [List.getElem_toArray, List.getElem_cons_succ, List.getElem_cons_zero]
      go_simp
      refine (is_any _ rt15 (Rat.divInt (-9223372036854775808) (-9223372036854775808)) _ 1 (by decide) (by decide) (by first | exact Ht15.out | exact Ht15.out.drew) (sz_of (by decide) (by decide)) (by first | exact HL.out.tz | exact HL.out.drew.tz) (by first | exact HL.out.tab | exact HL.out.drew.tab) nx_k).mono ?_
      rintro e wt16 ⟨rfl, bt16⟩
      replace HL := Lib.hid (NSt.below (by first | exact HL.out | exact HL.out.drew) bt16)
      clear c0 c1 c2 c3 c4 c5 c6 c7 c8 c9 c10 c11
      obtain ⟨c0, c1, c2, c3, c4, c5, c6, c7, c8, c9, c10, c11⟩ := HL.out.cells
      clear bt16
      (try (go_wp2_with fail))
      refine hK.out _ _ (by first | exact HL.out.cells | exact HL.out.drew.cells) (fun hHeld => ?_)
      clear hK K
      (try simp only [Act.put, List.setIfInBounds_toArray, List.set_cons_zero, List.set_cons_succ])
      refine held_take (i := 33) (v := ?_) (some 129) rfl rfl (by kernel_rfl) (by kernel_rfl) (by kernel_rfl) (fun _ _ _ h => h) (Or.inl ⟨by rfl, ?_⟩) hHeld ?_
      rotate_left 1
      · intro w hSw
        (try dsimp only at hSw)
        (first | (go_simp; done) | (go_simp; with_reducible rfl))
      (try simp only [Act.put, List.setIfInBounds_toArray, List.set_cons_zero, List.set_cons_succ])
      refine held_take (i := 34) (v := ?_) (some 130) rfl rfl (by kernel_rfl) (by kernel_rfl) (by kernel_rfl) (fun _ _ _ h => h) (Or.inl ⟨by rfl, ?_⟩) hHeld ?_
      rotate_left 1
      · intro w hSw
        (try dsimp only at hSw)
        (first | (go_simp; done) | (go_simp; with_reducible rfl))
      (try simp only [Act.put, List.setIfInBounds_toArray, List.set_cons_zero, List.set_cons_succ])
      refine held_call (i := 35) rfl (by kernel_rfl) (by rfl) (fun K hK => ?_)
      clear hHeld
      simp only [List.getElem_toArray, List.getElem_cons_succ, List.getElem_cons_zero]
      go_simp
      refine (rof_any _ (-9223372036854775808) 1 (by decide) (by decide) (by decide) (by decide) (by first | exact HL.out.tz | exact HL.out.drew.tz)).mono ?_
      rintro e wt17 ⟨rt17, rfl, ht17, bt17⟩
      replace HL := Lib.hid (NSt.below (by first | exact HL.out | exact HL.out.drew) bt17)
      clear c0 c1 c2 c3 c4 c5 c6 c7 c8 c9 c10 c11
      obtain ⟨c0, c1, c2, c3, c4, c5, c6, c7, c8, c9, c10, c11⟩ := HL.out.cells
      have Ht17 := Lib.hid ht17.now
      clear ht17
      clear bt17
      (try (go_wp2_with fail))
      refine hK.out _ _ (by first | exact HL.out.cells | exact HL.out.drew.cells) (fun hHeld => ?_)
      clear hK K
      (try simp only [Act.put, List.setIfInBounds_toArray, List.set_cons_zero, List.set_cons_succ])
      refine held_call (i := 36) rfl (by kernel_rfl) (by rfl) (fun K hK => ?_)
      clear hHeld
      simp only [List.getElem_toArray, List.getElem_cons_succ, List.getElem_cons_zero]
      go_simp
      refine (is_any _ rt17 (Rat.divInt (-9223372036854775808) 1) _ 1 (by decide) (by decide) (by first | exact Ht17.out | exact Ht17.out.drew) (sz_of (by decide) (by decide)) (by first | exact HL.out.tz | exact HL.out.drew.tz) (by first | exact HL.out.tab | exact HL.out.drew.tab) nx_l).mono ?_
      rintro e wt18 ⟨rfl, bt18⟩
      replace HL := Lib.hid (NSt.below (by first | exact HL.out | exact HL.out.drew) bt18)
      clear c0 c1 c2 c3 c4 c5 c6 c7 c8 c9 c10 c11
      obtain ⟨c0, c1, c2, c3, c4, c5, c6, c7, c8, c9, c10, c11⟩ := HL.out.cells
      clear bt18
      (try (go_wp2_with fail))
      refine hK.out _ _ (by first | exact HL.out.cells | exact HL.out.drew.cells) (fun hHeld => ?_)
      clear hK K
      (try simp only [Act.put, List.setIfInBounds_toArray, List.set_cons_zero, List.set_cons_succ])
      refine held_take (i := 37) (v := ?_) (some 133) rfl rfl (by kernel_rfl) (by kernel_rfl) (by kernel_rfl) (fun _ _ _ h => h) (Or.inl ⟨by rfl, ?_⟩) hHeld ?_
      rotate_left 1
      · intro w hSw
        (try dsimp only at hSw)
        (first | (go_simp; done) | (go_simp; with_reducible rfl))
      (try simp only [Act.put, List.setIfInBounds_toArray, List.set_cons_zero, List.set_cons_succ])
      refine held_take (i := 38) (v := ?_) (some 134) rfl rfl (by kernel_rfl) (by kernel_rfl) (by kernel_rfl) (fun _ _ _ h => h) (Or.inl ⟨by rfl, ?_⟩) hHeld ?_
      rotate_left 1
      · intro w hSw
        (try dsimp only at hSw)
        (first | (go_simp; done) | (go_simp; with_reducible rfl))
      (try simp only [Act.put, List.setIfInBounds_toArray, List.set_cons_zero, List.set_cons_succ])
      refine held_take (i := 39) (v := ?_) (some 135) rfl rfl (by kernel_rfl) (by kernel_rfl) (by kernel_rfl) (fun _ _ _ h => h) (Or.inl ⟨by rfl, ?_⟩) hHeld ?_
      rotate_left 1
      · intro w hSw
        (try dsimp only at hSw)
        (first | (go_simp; done) | (go_simp; with_reducible rfl))
      (try simp only [Act.put, List.setIfInBounds_toArray, List.set_cons_zero, List.set_cons_succ])
      refine held_take (i := 41) (v := ?_) (some 137) rfl rfl (by kernel_rfl) (by kernel_rfl) (by kernel_rfl) (fun _ _ _ h => h) (Or.inl ⟨by rfl, ?_⟩) hHeld ?_
      rotate_left 1
      · intro w hSw
        (try dsimp only at hSw)
        (first | (go_simp; done) | (go_simp; with_reducible rfl))
      (try simp only [Act.put, List.setIfInBounds_toArray, List.set_cons_zero, List.set_cons_succ])
      refine held_call (i := 40) rfl (by kernel_rfl) (by rfl) (fun K hK => ?_)
      clear hHeld
      simp only [List.getElem_toArray, List.getElem_cons_succ, List.getElem_cons_zero]
      go_simp
      refine (rof_any _ 1 3 (by decide) (by decide) (by decide) (by decide) (by first | exact HL.out.tz | exact HL.out.drew.tz)).mono ?_
      rintro e wt19 ⟨rt19, rfl, ht19, bt19⟩
      replace HL := Lib.hid (NSt.below (by first | exact HL.out | exact HL.out.drew) bt19)
      clear c0 c1 c2 c3 c4 c5 c6 c7 c8 c9 c10 c11
      obtain ⟨c0, c1, c2, c3, c4, c5, c6, c7, c8, c9, c10, c11⟩ := HL.out.cells
      have Ht19 := Lib.hid ht19.now
      clear ht19
      clear bt19
      (try (go_wp2_with fail))
      refine hK.out _ _ (by first | exact HL.out.cells | exact HL.out.drew.cells) (fun hHeld => ?_)
      clear hK K
      (try simp only [Act.put, List.setIfInBounds_toArray, List.set_cons_zero, List.set_cons_succ])
      refine held_call (i := 42) rfl (by kernel_rfl) (by rfl) (fun K hK => ?_)
      clear hHeld
      simp only [List.getElem_toArray, List.getElem_cons_succ, List.getElem_cons_zero]
      go_simp
      refine (rof_any _ 1 2 (by decide) (by decide) (by decide) (by decide) (by first | exact HL.out.tz | exact HL.out.drew.tz)).mono ?_
      rintro e wt20 ⟨rt20, rfl, ht20, bt20⟩
      replace HL := Lib.hid (NSt.below (by first | exact HL.out | exact HL.out.drew) bt20)
      clear c0 c1 c2 c3 c4 c5 c6 c7 c8 c9 c10 c11
      obtain ⟨c0, c1, c2, c3, c4, c5, c6, c7, c8, c9, c10, c11⟩ := HL.out.cells
      replace Ht19 := Lib.hid (RatN.below (by first | exact Ht19.out | exact Ht19.out.drew) bt20)
      have Ht20 := Lib.hid ht20.now
      clear ht20
      clear bt20
      (try (go_wp2_with fail))
      refine hK.out _ _ (by first | exact HL.out.cells | exact HL.out.drew.cells) (fun hHeld => ?_)
      clear hK K
      (try simp only [Act.put, List.setIfInBounds_toArray, List.set_cons_zero, List.set_cons_succ])
      refine held_call (i := 43) rfl (by kernel_rfl) (by rfl) (fun K hK => ?_)
      clear hHeld
      simp only [List.getElem_toArray, List.getElem_cons_succ, List.getElem_cons_zero]
      go_simp
      refine (cmp_is _ rt19 rt20 (Rat.divInt 1 3) (Rat.divInt 1 2) 1 (-1) (by decide) (by decide) (RatN.rat (by first | exact Ht19.out | exact Ht19.out.drew) (Sz.up (sz_of (by decide) (by decide)) (by decide))) (RatN.rat (by first | exact Ht20.out | exact Ht20.out.drew) (Sz.up (sz_of (by decide) (by decide)) (by decide))) (by decide +kernel)).mono ?_
      rintro e wt21 ⟨rfl, bt21⟩
      replace HL := Lib.hid (NSt.below (by first | exact HL.out | exact HL.out.drew) bt21)
      clear c0 c1 c2 c3 c4 c5 c6 c7 c8 c9 c10 c11
      obtain ⟨c0, c1, c2, c3, c4, c5, c6, c7, c8, c9, c10, c11⟩ := HL.out.cells
      clear bt21
      (try (go_wp2_with fail))
      refine hK.out _ _ (by first | exact HL.out.cells | exact HL.out.drew.cells) (fun hHeld => ?_)
      clear hK K
      (try simp only [Act.put, List.setIfInBounds_toArray, List.set_cons_zero, List.set_cons_succ])
      refine held_take (i := 44) (v := ?_) (some 140) rfl rfl (by kernel_rfl) (by kernel_rfl) (by kernel_rfl) (fun _ _ _ h => h) (Or.inl ⟨by rfl, ?_⟩) hHeld ?_
      rotate_left 1
      · intro w hSw
        (try dsimp only at hSw)
        (first | (go_simp; done) | (go_simp; with_reducible rfl))
      (try simp only [Act.put, List.setIfInBounds_toArray, List.set_cons_zero, List.set_cons_succ])
      refine held_take (i := 45) (v := ?_) (some 141) rfl rfl (by kernel_rfl) (by kernel_rfl) (by kernel_rfl) (fun _ _ _ h => h) (Or.inl ⟨by rfl, ?_⟩) hHeld ?_
      rotate_left 1
      · intro w hSw
        (try dsimp only at hSw)
        (first | (go_simp; done) | (go_simp; with_reducible rfl))
      (try simp only [Act.put, List.setIfInBounds_toArray, List.set_cons_zero, List.set_cons_succ])
      refine held_take (i := 46) (v := ?_) (some 142) rfl rfl (by kernel_rfl) (by kernel_rfl) (by kernel_rfl) (fun _ _ _ h => h) (Or.inl ⟨by rfl, ?_⟩) hHeld ?_
      rotate_left 1
      · intro w hSw
        (try dsimp only at hSw)
        (first | (go_simp; done) | (go_simp; with_reducible rfl))
      (try simp only [Act.put, List.setIfInBounds_toArray, List.set_cons_zero, List.set_cons_succ])
      refine held_call (i := 47) rfl (by kernel_rfl) (by rfl) (fun K hK => ?_)
      clear hHeld
      simp only [List.getElem_toArray, List.getElem_cons_succ, List.getElem_cons_zero]
      go_simp
      refine (wof_any _ (-7) (by decide) (by decide)).mono ?_
      rintro e wt22 ⟨jt22, rfl, ht22, bt22⟩
      replace HL := Lib.hid (NSt.below (by first | exact HL.out | exact HL.out.drew) bt22)
      clear c0 c1 c2 c3 c4 c5 c6 c7 c8 c9 c10 c11
      obtain ⟨c0, c1, c2, c3, c4, c5, c6, c7, c8, c9, c10, c11⟩ := HL.out.cells
      have Hjt22 := Lib.hid ht22.now.old
      clear ht22
      clear bt22
      (try (go_wp2_with fail))
      refine hK.out _ _ (by first | exact HL.out.cells | exact HL.out.drew.cells) (fun hHeld => ?_)
      clear hK K
      (try simp only [Act.put, List.setIfInBounds_toArray, List.set_cons_zero, List.set_cons_succ])
      refine held_call (i := 48) rfl (by kernel_rfl) (by rfl) (fun K hK => ?_)
      clear hHeld
      simp only [List.getElem_toArray, List.getElem_cons_succ, List.getElem_cons_zero]
      go_simp
      refine (rwhole_any _ jt22 (-7) 1 (by decide) (IntN.ofLt (Rests.now (F := (· < wt22.heap.size)) (φ := IntN jt22 (-7)) (by first | exact Hjt22.out | exact Hjt22.out.drew)) (by decide))).mono ?_
      rintro e wt23 ⟨rt23, rfl, ht23, bt23⟩
      replace HL := Lib.hid (NSt.below (by first | exact HL.out | exact HL.out.drew) bt23)
      clear c0 c1 c2 c3 c4 c5 c6 c7 c8 c9 c10 c11
      obtain ⟨c0, c1, c2, c3, c4, c5, c6, c7, c8, c9, c10, c11⟩ := HL.out.cells
      have Ht23 := Lib.hid ht23.now
      clear ht23 Hjt22
      clear bt23
      (try (go_wp2_with fail))
      refine hK.out _ _ (by first | exact HL.out.cells | exact HL.out.drew.cells) (fun hHeld => ?_)
      clear hK K
      (try simp only [Act.put, List.setIfInBounds_toArray, List.set_cons_zero, List.set_cons_succ])
      refine held_call (i := 49) rfl (by kernel_rfl) (by rfl) (fun K hK => ?_)
      clear hHeld
      simp only [List.getElem_toArray, List.getElem_cons_succ, List.getElem_cons_zero]
      go_simp
      refine (is_any _ rt23 (Rat.divInt (-7) 1) _ 1 (by decide) (by decide) (by first | exact Ht23.out | exact Ht23.out.drew) (sz_of (by decide) (by decide)) (by first | exact HL.out.tz | exact HL.out.drew.tz) (by first | exact HL.out.tab | exact HL.out.drew.tab) nx_m).mono ?_
      rintro e wt24 ⟨rfl, bt24⟩
      replace HL := Lib.hid (NSt.below (by first | exact HL.out | exact HL.out.drew) bt24)
      clear c0 c1 c2 c3 c4 c5 c6 c7 c8 c9 c10 c11
      obtain ⟨c0, c1, c2, c3, c4, c5, c6, c7, c8, c9, c10, c11⟩ := HL.out.cells
      clear bt24
      (try (go_wp2_with fail))
      refine hK.out _ _ (by first | exact HL.out.cells | exact HL.out.drew.cells) (fun hHeld => ?_)
      clear hK K
      (try simp only [Act.put, List.setIfInBounds_toArray, List.set_cons_zero, List.set_cons_succ])
      refine held_take (i := 50) (v := ?_) (some 146) rfl rfl (by kernel_rfl) (by kernel_rfl) (by kernel_rfl) (fun _ _ _ h => h) (Or.inl ⟨by rfl, ?_⟩) hHeld ?_
      rotate_left 1
      · intro w hSw
        (try dsimp only at hSw)
        (first | (go_simp; done) | (go_simp; with_reducible rfl))
      (try simp only [Act.put, List.setIfInBounds_toArray, List.set_cons_zero, List.set_cons_succ])
      refine held_take (i := 51) (v := ?_) (some 7) rfl rfl (by kernel_rfl) (by kernel_rfl) (by kernel_rfl) (fun _ _ _ h => h) (Or.inl ⟨by rfl, ?_⟩) hHeld ?_
      rotate_left 1
      · intro w hSw
        (try dsimp only at hSw)
        (first | (go_simp; done) | (go_simp; with_reducible rfl))
      (try simp only [Act.put, List.setIfInBounds_toArray, List.set_cons_zero, List.set_cons_succ])
      refine wpAnyH_done (by kernel_rfl) ?_ _
      refine NoPanic.normal ?_
      all_goals
        go_wp2_with fail
        go_meet
        exact ⟨rfl, by first | exact HL.out.tst | exact HL.out.drew.tst⟩
  clear HL c0 c1 c2 c3 c4 c5 c6 c7 c8 c9 c10 c11
  obtain ⟨rfl, hL⟩ := hcut
  have HL := Lib.hid hL
  clear hL
  obtain ⟨v0, hv0⟩ : ∃ v0 : World, v0 = wc := ⟨_, rfl⟩
  rw [← hv0] at HL ⊢
  clear hv0
  have HI0 := Lib.hid (show MInv w (v0.alloc (.cells (strsB noL) 9)) v0.heap.size from ⟨Blk.new _ _ _, HL.out.alloc _⟩)
  clear HL
  have h1 := size_strB
  go_wp2_with fail
  have hsl : Sl (some ⟨v0.heap.size, 0, none⟩) 14 := Sl.some_ _ _ _
  go_loopw [149] (fun i wr => ∃ k : Nat, k ≤ 14 ∧ i = .int .i64 k ∧ MInv w wr v0.heap.size) (fun i _ => 14 - (intOf i).toNat)
  case atStart => exact ⟨0, by omega, rfl, HI0.out⟩
  case round =>
    clear HI0
    obtain ⟨k, hk, rfl, hI⟩ := hrel
    by_cases hlt : k < 14
    · have hcell : wr.cell? (adr (some ⟨v0.heap.size, 0, none⟩) k) = some (.string (noL[k]'hlt)) := by rw [adr_some, Nat.zero_add, hI.blk.cell k, strsB_get noL k hlt]
      have hm := no_at (List.getElem_mem (l := noL) hlt)
      have HP := Lib.hid (fun W hT => parse_as (noL[k]'hlt) W hT 11 0 hm.1 (by rw [hm.2]; rfl))
      have HI := Lib.hid hI
      clear hI hm
      generalize noL[k]'hlt = s at *
      go_wp2_with fail
      refine (HP.out _ HI.out.t.tz).mono ?_
      rintro e w1 ⟨r1, rfl, hr1, hb1⟩
      have hBa := Blk.new w1 50 #[.bool r1.num.neg, .slice r1.num.A r1.num.k r1.num.c, .bool r1.den.neg, .slice r1.den.A r1.den.k r1.den.c]
      have Hn1 := Lib.hid ((hr1.now.old).alloc (.cells #[.bool r1.num.neg, .slice r1.num.A r1.num.k r1.num.c, .bool r1.den.neg, .slice r1.den.A r1.den.k r1.den.c] 50))
      have HI1 := Lib.hid (show MInv w (w1.alloc (.cells #[.bool r1.num.neg, .slice r1.num.A r1.num.k r1.num.c, .bool r1.den.neg, .slice r1.den.A r1.den.k r1.den.c] 50)) v0.heap.size from ⟨(HI.out.blk.below hb1 HI.out.blk.lt).alloc _, (HI.out.t.below hb1).alloc _⟩)
      obtain ⟨x0, x1, x2, x3⟩ := Blk.c4 hBa
      clear hBa hr1 hb1 HP hcell HI
      go_wp2_with fail
      refine (rsign_zero _ r1 0 1 (by decide) (RatN.rat Hn1.out.now sz_zero) rfl).mono ?_
      rintro e w2 ⟨rfl, hb2⟩
      have HI2 := Lib.hid (show MInv w w2 v0.heap.size from ⟨HI1.out.blk.below hb2 HI1.out.blk.lt, HI1.out.t.below hb2⟩)
      clear hb2 HI1 Hn1 x0 x1 x2 x3
      go_wp2_with fail
      go_roundw
      case rel => exact ⟨k + 1, by omega, by go_num, HI2.out⟩
      case measure => simp [intOf]; omega
    · have HL := Lib.hid hI.t
      have hkk : k = 14 := by omega
      subst hkk
      clear hI
      go_wp2_with fail
      refine (p_sevens _).mono ?_
      rintro e w1 ⟨S, hS, rfl, hb1⟩
      have hsz := hS.size
      have HS := Lib.hid hS
      replace HL := Lib.hid (HL.out.below hb1)
      clear hb1 hS
      have HPA := Lib.hid pl_a
      have HPB := Lib.hid (pl_b HS.out)
      have HPC := Lib.hid (pl_c HS.out)
      have HPD := Lib.hid pl_d
      clear HS
      go_wp2_with fail
      refine (HPA.out _ HL.out.tz).mono ?_
      rintro e w2 ⟨r2, rfl, hr, hb⟩
      replace HL := Lib.hid ((HL.out.below hb).alloc (.cells #[.bool r2.num.neg, .slice r2.num.A r2.num.k r2.num.c, .bool r2.den.neg, .slice r2.den.A r2.den.k r2.den.c] 50))
      clear hb hr HPA
      go_wp2_with fail
      refine (HPB.out _ HL.out.tz).mono ?_
      rintro e w3 ⟨r3, rfl, hr, hb⟩
      replace HL := Lib.hid ((HL.out.below hb).alloc (.cells #[.bool r3.num.neg, .slice r3.num.A r3.num.k r3.num.c, .bool r3.den.neg, .slice r3.den.A r3.den.k r3.den.c] 50))
      clear hb hr HPB
      go_wp2_with fail
      refine (HPC.out _ HL.out.tz).mono ?_
      rintro e w4 ⟨r4, rfl, hr, hb⟩
      replace HL := Lib.hid ((HL.out.below hb).alloc (.cells #[.bool r4.num.neg, .slice r4.num.A r4.num.k r4.num.c, .bool r4.den.neg, .slice r4.den.A r4.den.k r4.den.c] 50))
      clear hb hr HPC
      go_wp2_with fail
      refine (HPD.out _ HL.out.tz).mono ?_
      rintro e w5 ⟨r5, rfl, hr, hb⟩
      replace HL := Lib.hid ((HL.out.below hb).alloc (.cells #[.bool r5.num.neg, .slice r5.num.A r5.num.k r5.num.c, .bool r5.den.neg, .slice r5.den.A r5.den.k r5.den.c] 50))
      have HX := Lib.hid ((hr.now.old).alloc (.cells #[.bool r5.num.neg, .slice r5.num.A r5.num.k r5.num.c, .bool r5.den.neg, .slice r5.den.A r5.den.k r5.den.c] 50))
      obtain ⟨x0, x1, x2, x3⟩ := Blk.c4 (Blk.new w5 50 #[.bool r5.num.neg, .slice r5.num.A r5.num.k r5.num.c, .bool r5.den.neg, .slice r5.den.A r5.den.k r5.den.c])
      clear hb hr HPD
      go_wp2_with fail
      refine (is_any _ r5 (Rat.divInt 0 5) _ 1 (by decide) (by decide) HX.out.now (sz_of (by decide) (by decide)) HL.out.tz HL.out.tab nx_n).mono ?_
      rintro e w6 ⟨rfl, hb⟩
      replace HL := Lib.hid (HL.out.below hb)
      clear hb HX
      go_wp2_with fail
      refine (awake_any _ HL.out.tz HL.out.tab).mono ?_
      rintro e w7 ⟨rfl, hb⟩
      replace HL := Lib.hid (HL.out.below hb)
      clear hb
      go_wp2_with fail
      go_ret
      exact ⟨rfl, HL.out.bel⟩
end Go.Proofs.YtgghdedabpohbaaGreatDoor
