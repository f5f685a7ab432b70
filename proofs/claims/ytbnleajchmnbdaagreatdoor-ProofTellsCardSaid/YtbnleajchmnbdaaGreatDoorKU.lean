/-
 The walk of ProofTells. What the rows of law 17 share: the one table out of the row's list, the world of the witness, the last step; forms and lists of fractions as arguments. ProofTells returns true, whatever the input; no conditions: the row and its card.
-/
import Derived.Test.YtbnleajchmnbdaaGreatDoorKR
import Derived.Test.YtbnleajchmnbdaaGreatDoorCards
import Derived.Test.YtbnleajchmnbdaaGreatDoorTie
import Derived.Deep.Slices
import Derived.Lib.SmallJoins
import Derived.WalkKit
import Derived.ProofKit
import Derived.OpenShut
import Derived.Deep.DeepHandedRow
import Derived.Lib.LaidTab
import Derived.Stop.LaidErr
import Derived.Carry
import Derived.ChangeMaps5
namespace Go.Proofs.YtbnleajchmnbdaaGreatDoor
set_option maxHeartbeats 4000000
open Go.RowKit

theorem RatD.cut {r : RV} {q : Rat} {n m : Nat} {w : World} (h : RatD r q n w) (h1 : r.num.k ≤ m) (h2 : r.den.k ≤ m) : RatD r q m w := by
 obtain ⟨x, d, hx, hd, hq⟩ := h.ex
 exact ⟨⟨x, d, ⟨hx.ex, hx.cap, h1⟩, ⟨hd.ex, hd.cap, h2⟩, hq⟩⟩
theorem NotGreat.small {f : FoV} {gs : List RsV} (h : NotGreat f gs) : FSmall f := ⟨h.M, h.cols, h.col, h.lo, h.hi, h.cost, h.b⟩
theorem rats_cut {A : Option Addr} {l : List (RV × Rat)} {w : World} (h : LsR 4 rtcells okR A l w) (hs : ∀ p ∈ l, shortP p) : LsR 4 rtcells (roD 4) A l w :=
 h.imp fun p hp hk => RatD.cut hk (hs p hp).1 (hs p hp).2
theorem FoA.cut {f : FoV} {gs : List RsV} {w : World} (h : FoA f w) (hg : NotGreat f gs) : FoD 4 f w := by
 have hs := hg.short
 refine ⟨h.cols.imp fun v hv hk => LsR.imp hk fun t ht hn => ?_, rats_cut h.lo fun p hp => hs p (by simp [hp]), rats_cut h.hi fun p hp => hs p (by simp [hp]), rats_cut h.cost fun p hp => hs p (by simp [hp]), rats_cut h.b fun p hp => hs p (by simp [hp])⟩
 have h1 : shortP (tr t) := hs _ (by
  refine List.mem_append_left _ (List.mem_append_right _ ?_)
  exact List.mem_flatMap.2 ⟨v, hv, List.mem_map_of_mem (f := tr) ht⟩)
 exact RatD.cut hn h1.1 h1.2
theorem NotGreat.lshort {f : FoV} {gs : List RsV} (h : NotGreat f gs) {l : RsV} (hl : l ∈ gs) : ∀ p ∈ l.ps, shortP p := fun p hp => h.short p (List.mem_append_right _ (List.mem_flatMap.2 ⟨l, hl, hp⟩))
theorem vs2s {g : Nat} {x y : RsV} {W : World} {t : TypeId} (h : Blk W g t #[.slice x.A x.ps.length x.c, .slice y.A y.ps.length y.c]) (hx : okS x W) (hy : okS y W) : LsR 1 rscells okS (some ⟨g, 0, none⟩) [x, y] W := by
 refine ⟨⟨Sl.some_ _ _ _, fun i hi => ?_, fun i hi j hj => ?_⟩, fun p hp => ?_⟩
 ·match i, hi with
  | 0, _ => rfl
  | 1, _ => rfl
 ·obtain rfl : j = 0 := by omega
  rw [adr_some]
  match i, hi with
  | 0, _ => exact h.cell 0
  | 1, _ => exact h.cell 1
 ·simp only [List.mem_cons, List.not_mem_nil, or_false] at hp
  rcases hp with rfl | rfl
  ·exact hx
  ·exact hy
theorem bound_law {w : World} {f : FoV} (h : FoD 4 f w) (hs : FSmall f) {Ay : Option Addr} {cy : Nat} {ys : List (RV × Rat)} (hy : LsR 4 rtcells (roD 4) Ay ys w) (hyl : ys.length ≤ 30) (hyc : ys.length ≤ cy) : ∃ Q, Sz Q 3000 ∧ ∀ V, Below w.heap.size w V → Tz V → Calls Tryz.prog 8 #[fA f, .slice Ay ys.length cy] V (RetR Q V) ∧ Calls Tryz.prog 9 #[fA f, .slice Ay ys.length cy] V (RetR Q V) := by
 by_cases hR : FRight f w
 ·refine ⟨_, (bnd_sz (by decide) h hs hR hy (K := min ys.length f.b.length) (by have := hs.b; omega) (cq := fun i => (f.cost[i]!).2) (fun i hi => ?_)).up (by decide), fun V hb hT => ?_⟩
  ·rw [getElem!_pos f.cost i (by rw [hR.cost]; exact hi)]
   exact RatD.sz (h.cost.ok _ (List.getElem_mem _)) (by decide)
  ·have hV := (h.old.below hb).now
   have hyV := ((hy.old roD_old).below hb).now
   have hRV := (FRight.same h hb).2 hR
   refine ⟨Bound_yes V 4 (by decide) (by decide) f hV hs Ay cy ys hyV hyl hyc hT hRV, ?_⟩
   rw [bnd_eq (cs := f.cost) (fun j _ => rfl)]
   exact rBound_yes V 4 3000 (by decide) (by decide) (by decide) (by decide) f hV hs Ay cy ys hyV hyl hRV
 ·refine ⟨0, sz_zero.up (by decide), fun V hb hT => ?_⟩
  have hV := (h.old.below hb).now
  have hyV := ((hy.old roD_old).below hb).now
  have hRV : ¬ FRight f V := fun h9 => hR ((FRight.same h hb).1 h9)
  exact ⟨Bound_no V 4 (by decide) (by decide) f hV hs Ay cy ys hyV hyl hyc hT hRV, rBound_no V 4 3000 (by decide) (by decide) (by decide) (by decide) f hV hs Ay cy ys hyV hyl hRV⟩
theorem boolRes_is {P : Prop} {B : Bool} {e : Ending} (h : BoolRes P e) (hB : B = true ↔ P) : e = .returned (.bool B) := by
 obtain ⟨B', rfl, hB'⟩ := h
 rw [show B' = B by rw [Bool.eq_iff_iff, hB', hB]]
theorem bool_of (P : Prop) : ∃ B : Bool, B = true ↔ P := by
 by_cases h : P
 ·exact ⟨true, by simp [h]⟩
 ·exact ⟨false, by simp [h]⟩
theorem refutes_law {w : World} {f : FoV} (h : FoD 4 f w) (hs : FSmall f) {Ay : Option Addr} {cy : Nat} {ys : List (RV × Rat)} (hy : LsR 4 rtcells (roD 4) Ay ys w) (hyl : ys.length ≤ 30) (hyc : ys.length ≤ cy) : ∃ B : Bool, ∀ V, Below w.heap.size w V → Tz V → (Calls Tryz.prog 10 #[fA f, .slice Ay ys.length cy] V fun e w' => e = .returned (.bool B) ∧ Below V.heap.size V w') ∧ Calls Tryz.prog 11 #[fA f, .slice Ay ys.length cy] V fun e w' => e = .returned (.bool B) ∧ Below V.heap.size V w' := by
 obtain ⟨B, hB⟩ := bool_of (FRight f w ∧ 0 < (bndQ f (vecL (ys.take (min ys.length f.b.length))) (dotQ (vecL (ys.take (min ys.length f.b.length))) (vecL f.b)) (fun _ => (0 : Rat)) f.cols.length).num.sign)
 refine ⟨B, fun V hb hT => ?_⟩
 have hV := (h.old.below hb).now
 have hyV := ((hy.old roD_old).below hb).now
 have hRV := FRight.same h hb
 refine ⟨(refutes_any V 4 (by decide) (by decide) f hV hs Ay cy ys hyV hyl hyc hT).mono fun e w' h9 => ⟨boolRes_is h9.1 (by rw [hB, hRV]), h9.2⟩, (rrefutes_any V 4 3000 (by decide) (by decide) (by decide) (by decide) f hV hs Ay cy ys hyV hyl).mono fun e w' h9 => ⟨boolRes_is h9.1 ?_, h9.2⟩⟩
 rw [hB, hRV, bnd_eq (cs := List.replicate f.cols.length (zeroR, (0 : Rat))) (fun j hj => by rw [getElem!_pos _ j (by simpa using hj), List.getElem_replicate])]
theorem best_law {w : World} {f : FoV} (h : FoD 4 f w) (hs : FSmall f) {Ay : Option Addr} {cy : Nat} {ys : List (RV × Rat)} (hy : LsR 4 rtcells (roD 4) Ay ys w) (hyl : ys.length ≤ 30) (hyc : ys.length ≤ cy) {Ax : Option Addr} {cx : Nat} {xs : List (RV × Rat)} (hx : LsR 4 rtcells (roD 4) Ax xs w) : ∃ B : Bool, ∀ V, Below w.heap.size w V → Tz V → (Calls Tryz.prog 12 #[fA f, .slice Ax xs.length cx, .slice Ay ys.length cy] V fun e w' => e = .returned (.bool B) ∧ Below V.heap.size V w') ∧ Calls Tryz.prog 13 #[fA f, .slice Ax xs.length cx, .slice Ay ys.length cy] V fun e w' => e = .returned (.bool B) ∧ Below V.heap.size V w' := by
 obtain ⟨B, hB⟩ := bool_of (FeasP f xs w ∧ dotQ (vecL f.cost) (vecL xs) = bndQ f (vecL (ys.take (min ys.length f.b.length))) (dotQ (vecL (ys.take (min ys.length f.b.length))) (vecL f.b)) (fun i => (f.cost[i]!).2) f.cols.length)
 refine ⟨B, fun V hb hT => ?_⟩
 have hV := (h.old.below hb).now
 have hyV := ((hy.old roD_old).below hb).now
 have hxV := ((hx.old roD_old).below hb).now
 have hFV := FeasP.same (xs := xs) h hb
 refine ⟨(best_any V 4 (by decide) (by decide) f hV hs Ax cx xs hxV Ay cy ys hyV hyl hyc hT).mono fun e w' h9 => ⟨boolRes_is h9.1 (by rw [hB, hFV]), h9.2⟩, (rbest_any V 4 3000 (by decide) (by decide) (by decide) (by decide) f hV hs Ax cx xs hxV Ay cy ys hyV hyl).mono fun e w' h9 => ⟨boolRes_is h9.1 ?_, h9.2⟩⟩
 rw [hB, hFV, bnd_eq (cs := f.cost) (fun j _ => rfl)]
 constructor
 ·rintro ⟨h1, h2⟩
  exact ⟨h1, by rw [← cost_eq h1.right.cost h1.len]; exact h2⟩
 ·rintro ⟨h1, h2⟩
  exact ⟨h1, by rw [cost_eq h1.right.cost h1.len]; exact h2⟩
set_option maxRecDepth 100000 in
theorem proofTells_any (w : World) (f : FoV) (hf : FoA f w) (Ax : Option Addr) (cx : Nat) (xs : List (RV × Rat)) (hx : LsR 4 rtcells okR Ax xs w) (Ay : Option Addr) (cy : Nat) (ys : List (RV × Rat)) (hy : LsR 4 rtcells okR Ay ys w) (hyc : ys.length ≤ cy) (hT : Tz w) :
 Calls Tryz.prog 3 #[fA f, .slice Ax xs.length cx, .slice Ay ys.length cy] w fun e w' => e = .returned (.bool true) ∧ Below w.heap.size w w' := by
 have Hf := Lib.hid hf
 have Hx := Lib.hid hx
 have Hy := Lib.hid hy
 obtain ⟨W0, hW0⟩ : ∃ W0, W0 = ((w.alloc (.cells #[.int .i64 f.M, .slice f.Ac f.cols.length f.cc, .slice f.Al f.lo.length f.cl, .slice f.Ah f.hi.length f.ch, .slice f.Ak f.cost.length f.ck, .slice f.Ab f.b.length f.cb] 25)).alloc (.cells #[.slice Ax xs.length cx, .slice Ay ys.length cy] 23)) := ⟨_, rfl⟩
 have HE := Lib.hid (Env.lay2 (Env.start ((hf.old).and (((hx.old okR_old)).and (((hy.old okR_old)).and (hT.old))))) hW0)
 subst hW0
 have c := Env.c2 HE.out
 have dd := Env.d2 HE.out
 clear hf hx hy hT
 unfold fA
 go_enter Tryz.func3, Tryz.ntmps3
 go_wp2_with fail
 refine (great_any _ f HE.out.o.1 (some ⟨w.heap.size + 1, 0, none⟩) 2 [⟨Ax, cx, xs⟩, ⟨Ay, cy, ys⟩] (vs2s (x := ⟨Ax, cx, xs⟩) (y := ⟨Ay, cy, ys⟩) (HE.out.bx ⟨w.heap.size + 1, 23, #[.slice Ax xs.length cx, .slice Ay ys.length cy]⟩ (by simp)) HE.out.o.2.1 HE.out.o.2.2.1) (by simp)).mono ?_
 rintro e w1 ⟨⟨B, rfl, hB⟩, hb⟩
 replace HE := Lib.hid (Env.call HE.out hb)
 have HBg := Lib.hid hB
 clear hb hB c dd
 have c := (Env.c2 HE.out).2
 cases B
 ·have hN := HBg.out rfl
  have hs := hN.small
  have h4 := Hf.out.cut hN
  have h4x := rats_cut Hx.out (hN.lshort (l := ⟨Ax, cx, xs⟩) (by simp))
  have h4y := rats_cut Hy.out (hN.lshort (l := ⟨Ay, cy, ys⟩) (by simp))
  have hyl : ys.length ≤ 30 := hN.lst ⟨Ay, cy, ys⟩ (by simp)
  obtain ⟨Q, hQ, hBd⟩ := bound_law h4 hs h4y hyl hyc
  obtain ⟨B1, hRf⟩ := refutes_law h4 hs h4y hyl hyc
  obtain ⟨B2, hBs⟩ := best_law h4 hs h4y hyl hyc (cx := cx) h4x
  have HsQ := Lib.hid hQ
  have HBd := Lib.hid hBd
  have HRf := Lib.hid hRf
  have HBs := Lib.hid hBs
  clear hN hs h4 h4x h4y hyl hQ hBd hRf hBs HBg
  go_upto_region 3 with fail
  clear c
  refine wp_region_noPanic ?_
  refine wp_region_held_drew (S := (fun W => CB (w.heap.size) #[.int .i64 f.M, .slice f.Ac f.cols.length f.cc, .slice f.Al f.lo.length f.cl, .slice f.Ah f.hi.length f.ch, .slice f.Ak f.cost.length f.ck, .slice f.Ab f.b.length f.cb] W)) (by kernel_rfl) (by with_reducible first | exact (Env.c2 HE.out).2 | exact (Env.c2 HE.out.drew).2) (fun hHeld => ?_)
  replace HE := Lib.hid HE.out.drew
  refine hT 0 13 hHeld ?_
  refine hT 1 14 hHeld ?_
  refine hT 3 16 hHeld ?_
  refine hT 4 17 hHeld ?_
  refine held_call (i := 2) rfl (by kernel_rfl) (by rfl) (fun K hK => ?_)
  clear hHeld
  simp only [q1, q2, q3]
  go_simp
  refine ((HBd.out _ HE.out.bel HE.out.o.2.2.2).1).mono ?_
  rintro e w3 ⟨ka, rfl, hk, hb⟩
  replace HE := Lib.hid (Env.ret HE.out hk hb)
  clear hk hb
  (try (go_wp2_with fail))
  refine hK.out _ _ (by with_reducible first | exact (Env.c2 HE.out).2 | exact (Env.c2 HE.out.drew).2) (fun hHeld => ?_)
  clear hK K
  try simp only [p1, p2, p3, p4]
  refine held_call (i := 5) rfl (by kernel_rfl) (by rfl) (fun K hK => ?_)
  clear hHeld
  simp only [q1, q2, q3]
  go_simp
  refine ((HBd.out _ HE.out.bel HE.out.o.2.2.2).2).mono ?_
  rintro e w3 ⟨kb, rfl, hk, hb⟩
  replace HE := Lib.hid (Env.ret HE.out hk hb)
  clear hk hb
  (try (go_wp2_with fail))
  refine hK.out _ _ (by with_reducible first | exact (Env.c2 HE.out).2 | exact (Env.c2 HE.out.drew).2) (fun hHeld => ?_)
  clear hK K
  try simp only [p1, p2, p3, p4]
  refine held_call (i := 6) rfl (by kernel_rfl) (by rfl) (fun K hK => ?_)
  clear hHeld
  simp only [q1, q2, q3]
  go_simp
  refine (rsame_any _ ka kb Q Q 3000 (by decide) (by decide) (RatN.rat HE.out.n.2.1 HsQ.out) (RatN.rat HE.out.n.1 HsQ.out)).mono ?_
  rintro e w3 ⟨rfl, hb⟩
  rw [decide_eq_true (rfl : Q = Q)]
  replace HE := Lib.hid (Env.call HE.out hb)
  clear hb
  (try (go_wp2_with fail))
  refine hK.out _ _ (by with_reducible first | exact (Env.c2 HE.out).2 | exact (Env.c2 HE.out.drew).2) (fun hHeld => ?_)
  clear hK K
  try simp only [p1, p2, p3, p4]
  refine hT 7 20 hHeld ?_
  refine hT 8 21 hHeld ?_
  refine hT 9 22 hHeld ?_
  refine hT 11 24 hHeld ?_
  refine hT 12 25 hHeld ?_
  refine held_call (i := 10) rfl (by kernel_rfl) (by rfl) (fun K hK => ?_)
  clear hHeld
  simp only [q1, q2, q3]
  go_simp
  refine ((HRf.out _ HE.out.bel HE.out.o.2.2.2).1).mono ?_
  rintro e w3 ⟨rfl, hb⟩
  replace HE := Lib.hid (Env.call HE.out hb)
  clear hb
  (try (go_wp2_with fail))
  refine hK.out _ _ (by with_reducible first | exact (Env.c2 HE.out).2 | exact (Env.c2 HE.out.drew).2) (fun hHeld => ?_)
  clear hK K
  try simp only [p1, p2, p3, p4]
  refine held_call (i := 13) rfl (by kernel_rfl) (by rfl) (fun K hK => ?_)
  clear hHeld
  simp only [q1, q2, q3]
  go_simp
  refine ((HRf.out _ HE.out.bel HE.out.o.2.2.2).2).mono ?_
  rintro e w3 ⟨rfl, hb⟩
  replace HE := Lib.hid (Env.call HE.out hb)
  clear hb
  (try (go_wp2_with fail))
  refine hK.out _ _ (by with_reducible first | exact (Env.c2 HE.out).2 | exact (Env.c2 HE.out.drew).2) (fun hHeld => ?_)
  clear hK K
  try simp only [p1, p2, p3, p4]
  have hbb := beq_self_eq_true B1
  refine hT 14 27 hHeld ?_
  refine hT 15 28 hHeld ?_
  refine hT 16 29 hHeld ?_
  refine hT 17 30 hHeld ?_
  refine hT 18 31 hHeld ?_
  refine hT 19 32 hHeld ?_
  refine hT 21 34 hHeld ?_
  refine hT 22 35 hHeld ?_
  refine hT 23 36 hHeld ?_
  refine held_call (i := 20) rfl (by kernel_rfl) (by rfl) (fun K hK => ?_)
  clear hHeld
  simp only [q1, q2, q3]
  go_simp
  refine ((HBs.out _ HE.out.bel HE.out.o.2.2.2).1).mono ?_
  rintro e w3 ⟨rfl, hb⟩
  replace HE := Lib.hid (Env.call HE.out hb)
  clear hb
  (try (go_wp2_with fail))
  refine hK.out _ _ (by with_reducible first | exact (Env.c2 HE.out).2 | exact (Env.c2 HE.out.drew).2) (fun hHeld => ?_)
  clear hK K
  try simp only [p1, p2, p3, p4]
  refine held_call (i := 24) rfl (by kernel_rfl) (by rfl) (fun K hK => ?_)
  clear hHeld
  simp only [q1, q2, q3]
  go_simp
  refine ((HBs.out _ HE.out.bel HE.out.o.2.2.2).2).mono ?_
  rintro e w3 ⟨rfl, hb⟩
  replace HE := Lib.hid (Env.call HE.out hb)
  clear hb
  (try (go_wp2_with fail))
  refine hK.out _ _ (by with_reducible first | exact (Env.c2 HE.out).2 | exact (Env.c2 HE.out.drew).2) (fun hHeld => ?_)
  clear hK K
  try simp only [p1, p2, p3, p4]
  have hbb2 := beq_self_eq_true B2
  refine hT 25 38 hHeld ?_
  refine hT 26 39 hHeld ?_
  refine hT 27 40 hHeld ?_
  refine held_call (i := 28) rfl (by kernel_rfl) (by rfl) (fun K hK => ?_)
  clear hHeld
  simp only [q1, q2, q3]
  go_simp
  refine (awake_any _ HE.out.o.2.2.2).mono ?_
  rintro e w3 ⟨rfl, hb⟩
  replace HE := Lib.hid (Env.call HE.out hb)
  clear hb
  (try (go_wp2_with fail))
  refine hK.out _ _ (by with_reducible first | exact (Env.c2 HE.out).2 | exact (Env.c2 HE.out.drew).2) (fun hHeld => ?_)
  clear hK K
  try simp only [p1, p2, p3, p4]
  refine hT 29 42 hHeld ?_
  refine hT 30 6 hHeld ?_
  refine wpAnyH_done (by kernel_rfl) ?_ _
  refine NoPanic.normal ?_
  go_wp2_with fail
  exact bodyPost_ret (v := .bool true) (by simp [results, Tryz.results3, go_sem]) rfl ⟨rfl, HE.out.bel⟩
 ·go_wp2_with fail
  refine (awake_any _ HE.out.o.2.2.2).mono ?_
  rintro e w2 ⟨rfl, hb⟩
  replace HE := Lib.hid (Env.call HE.out hb)
  clear hb
  go_wp2_with fail
  exact bodyPost_ret (v := .bool true) (by simp [results, Tryz.results3, go_sem]) rfl ⟨rfl, HE.out.bel⟩
open Go.ChangeShapes Go.WideShapes Go.ChangeAt Go.RowKit Go.Deep

theorem own : ownKnob Tryz.prog.godebug = none := by kernel_rfl
def rowLaid : List (String × DataW Unit) := [("math/bits.deBruijn64tab", Rows.laid_math_bits_deBruijn64tab)]

def layTab (cs : Array Value) : Obj → Obj
 | .cells _ t frozen => .cells cs t frozen
 | o => o
noncomputable def laidWorld (os : Os) : World :=
 { World.holding Tryz.prog os ⟨#[], #[], []⟩ with heap := (World.holding Tryz.prog os ⟨#[], #[], []⟩).heap.modify 2 (layTab #[.int .u8 0, .int .u8 1, .int .u8 56, .int .u8 2, .int .u8 57, .int .u8 49, .int .u8 28, .int .u8 3, .int .u8 61, .int .u8 58, .int .u8 42, .int .u8 50, .int .u8 38, .int .u8 29, .int .u8 17, .int .u8 4, .int .u8 62, .int .u8 47, .int .u8 59, .int .u8 36, .int .u8 45, .int .u8 43, .int .u8 51, .int .u8 22, .int .u8 53, .int .u8 39, .int .u8 33, .int .u8 30, .int .u8 24, .int .u8 18, .int .u8 12, .int .u8 5, .int .u8 63, .int .u8 55, .int .u8 48, .int .u8 27, .int .u8 60, .int .u8 41, .int .u8 37, .int .u8 16, .int .u8 46, .int .u8 35, .int .u8 44, .int .u8 21, .int .u8 52, .int .u8 32, .int .u8 23, .int .u8 11, .int .u8 54, .int .u8 26, .int .u8 40, .int .u8 15, .int .u8 34, .int .u8 20, .int .u8 31, .int .u8 10, .int .u8 25, .int .u8 14, .int .u8 19, .int .u8 9, .int .u8 13, .int .u8 8, .int .u8 7, .int .u8 6]) }

theorem post_kept {H : Type} {enc : TypeId × Value → H} {f : Func} {s : ChangeSpec} {W W' : World} {args : Array Value} {ds : List (DataW H)} {before : List MemPlace}
 (hW : DataW.Whole enc Tryz.prog f.params.toList s.vars false W args.toList ds [] before) (hv : s.vars = []) (hr : f.resultTypes = #[4])
 (hfn : s.fn H (ds ++ []) = { results := [.lit (.bool true)], args := ds }) (hb : Below W.heap.size W W')
 (hargs : DataW.TrodAll enc Tryz.prog W' 0 (fun b => decide (b < W.heap.size)) true f.params.toList args.toList ds before) :
 s.post enc Tryz.prog f false true false false W args (.bool true) W' := by
 refine ⟨ds, [], before, [], before, [], hW, ?_, ?_, ?_, ?_, fun h => by cases h⟩
 ·rw [hfn, hr]
  exact trodAll_cons_mk (shut_bool Tryz.underlying4 _) trodAll_mk0
 ·rw [hfn]; exact hargs
 ·rw [hfn, hv]; exact rfl
 ·exact World.keptBut_mono (fun p hp => ⟨hp, .inr (.inl hp)⟩) (hb.frame (· ∈ before))

theorem gTz : Tryz.prog.globalNamed "math/bits.deBruijn64tab" = some 2 := by kernel_rfl
theorem gTzType : (Tryz.prog.globals[(2 : Nat)]?).map (·.type) = some 155 := by kernel_rfl
theorem cellsTz : Tryz.prog.cellsOf 155 = 64 := by kernel_rfl
theorem cellsU8 : Tryz.prog.cellsOf 5 = 1 := by kernel_rfl
theorem tz_of {W : World} (h : laidMetH Tryz.prog rowLaid W) : Tz W := by
 have h1 := Lib.tabIs_of_head (rest := []) (zs := Lib.deBruijn64tab.map fun n : Nat => (n : Int)) gTz gTzType Tryz.underlying155 Tryz.underlying5 cellsU8 cellsTz (show laidMet Tryz.prog rowLaid W from h)
 unfold Lib.TabIs World.var? at h1
 simp only [gTz, Option.bind_some] at h1
 intro j hj
 cases hh : W.heap[(2 : Nat)]? with
 | none => rw [hh] at h1; simp at h1
 | some o =>
  rw [hh] at h1
  cases o with
  | cells cs t fr =>
   have e : cs = ((Lib.deBruijn64tab.map fun n : Nat => (n : Int)).map fun z => Value.int .u8 z).toArray := by simpa using h1
   rw [Joins.cell_of_block hh, e]
   simp [List.getD, hj]
  | _ => simp at h1
theorem laidOut : laidOutB Tryz.prog = true := by kernel_rfl
theorem cellsU64 : Tryz.prog.cellsOf 119 = 1 := by kernel_rfl
theorem cellsInt : Tryz.prog.cellsOf 31 = 2 := by kernel_rfl
def natOf : Value → Nat
 | .int _ z => z.toNat
 | _ => 0
theorem spot_of {w : World} {a : Addr} {v : Value} (h : w.cell? a = some v) : a.spot = none := by
 unfold World.cell? at h
 split at h
 ·split at h
  ·cases h
  ·rename_i h2; simpa using h2
 ·cases h
theorem words_arg {H : Type} {enc : TypeId × Value → H} {W : World} {b : Nat} {sp : Nat → Bool} {hd : Bool} {n : Nat} {v : Value} {y : DataW H × List MemPlace} (h : DataW.trod enc Tryz.prog W b sp hd n 29 [v] = some y) :
 ∃ A c l, v = .slice A (List.length l) c ∧ l.length ≤ c ∧ c ≤ maxLen ∧ Rd W .u64 A l ∧ ∀ x ∈ l, x < B64 := by
 rcases open_slice1 Tryz.underlying29 cellsU64 h with ⟨h1, -⟩ | ⟨a, len, cap, m, k, V, D, Pl, h1, -, hl, hm, hmm, -, hx⟩
 ·exact ⟨none, 0, [], by simpa using h1, by simp, by simp, Rd.nil_ _ _, by simp⟩
 ·have hlm : len ≤ m := by rw [hmm]; split <;> omega
  have hV : ∀ i, i < len → ∃ z : Nat, V i = .int .u64 (z : Int) ∧ z < B64 := fun i hi => by
   obtain ⟨z, h2, -, hw⟩ := DataW.trod_int Tryz.underlying119 (hx i (by omega)).2
   have hz := bounds_u64 hw
   refine ⟨z.toNat, ?_, by simp only [B64]; omega⟩
   have : V i = .int .u64 z := by simpa using h2
   rw [this, Int.toNat_of_nonneg hz.1]
  refine ⟨some a, cap, (List.range len).map fun i => natOf (V i), by simpa using h1, by simpa using hl, hm, ⟨?_, ?_⟩, ?_⟩
  ·intro h0
   have h0' : 0 < len := by simpa using h0
   have := spot_of (hx 0 (by omega)).1
   obtain ⟨ab, ao, asp⟩ := a
   have e : asp = none := by simpa [Addr.add] using this
   exact ⟨ab, ao, by rw [e]⟩
  ·intro i hi
   have hi' : i < len := by simpa using hi
   obtain ⟨z, hz, -⟩ := hV i hi'
   have hc := (hx i (by omega)).1
   have hs := spot_of (hx 0 (by omega)).1
   obtain ⟨ab, ao, asp⟩ := a
   have e : asp = none := by simpa [Addr.add] using hs
   subst e
   rw [add_one_cell] at hc
   rw [adr_some, hc, hz]
   simp [nth, List.getD, hi', hz, natOf]
  ·intro x hx'
   obtain ⟨i, hi, rfl⟩ := List.mem_map.1 hx'
   obtain ⟨z, hz, hlt⟩ := hV i (by simpa using hi)
   rw [hz]
   simpa [natOf] using hlt
theorem cellsRat : Tryz.prog.cellsOf 33 = 4 := by kernel_rfl
theorem cellsBool : Tryz.prog.cellsOf 4 = 1 := by kernel_rfl
theorem cellsWords : Tryz.prog.cellsOf 29 = 1 := by kernel_rfl
theorem int_cells {H : Type} {enc : TypeId × Value → H} {W : World} {b : Nat} {sp : Nat → Bool} {hd : Bool} {n : Nat} {v0 v1 : Value} {y : DataW H × List MemPlace} (h : DataW.trod enc Tryz.prog W b sp hd n 31 [v0, v1] = some y) :
 ∃ i : IV, v0 = .bool i.neg ∧ v1 = .slice i.A i.k i.c ∧ ∃ z, IntD i z i.k W := by
 obtain ⟨y0, y1, m, -, -, h0, h1⟩ := trod_struct2 Tryz.underlying31 h
 have k0 : DataW.trod enc Tryz.prog W b sp hd m 4 [v0] = some y0 := by simpa [cellsBool] using h0
 have k1 : DataW.trod enc Tryz.prog W b sp hd m 29 [v1] = some y1 := by simpa [cellsWords] using h1
 obtain ⟨neg, h2, -⟩ := DataW.trod_bool Tryz.underlying4 k0
 obtain ⟨A, c, l, rfl, h3, h4, h5, h6⟩ := words_arg k1
 obtain rfl : v0 = .bool neg := by simpa using h2
 exact ⟨⟨neg, A, l.length, c⟩, rfl, rfl, _, ⟨⟨l, rfl, h5, h6, rfl⟩, h3, Nat.le_refl _⟩⟩
theorem list4 {α : Type} {l : List α} (h : l.length = 4) : ∃ a b c d, l = [a, b, c, d] := by
 match l, h with
 | [a, b, c, d], _ => exact ⟨a, b, c, d, rfl⟩
theorem list5 {α : Type} {l : List α} (h : l.length = 5) : ∃ a b c d e, l = [a, b, c, d, e] := by
 match l, h with
 | [a, b, c, d, e], _ => exact ⟨a, b, c, d, e, rfl⟩
theorem list1 {α : Type} {l : List α} (h : l.length = 1) : ∃ a, l = [a] := by
 match l, h with
 | [a], _ => exact ⟨a, rfl⟩
theorem array6 {α : Type} {x : Array α} (h : x.size = 6) : ∃ a b c d e f, x = #[a, b, c, d, e, f] := by
 obtain ⟨l⟩ := x
 match l, h with
 | [a, b, c, d, e, f], _ => exact ⟨a, b, c, d, e, f, rfl⟩
instance : Inhabited TeV := ⟨⟨0, zeroR, 0⟩⟩
section
variable {H : Type} {enc : TypeId × Value → H} {w : World} {b : Nat} {sp : Nat → Bool} {hd : Bool}
theorem trod_struct6 {P : Program} {t : TypeId} {f0 f1 f2 f3 f4 f5 : Field} {fuel : Nat} {cs : List Value} {x : DataW H × List MemPlace} (ht : P.underlying t = some (.struct #[f0, f1, f2, f3, f4, f5])) (h : DataW.trod enc P w b sp hd fuel t cs = some x) :
 ∃ y0 y1 y2 y3 y4 y5 n, cs.length = P.cellsOf t ∧ DataW.trod enc P w b sp hd n f0.type ((cs.drop f0.offset).take (P.cellsOf f0.type)) = some y0 ∧ DataW.trod enc P w b sp hd n f1.type ((cs.drop f1.offset).take (P.cellsOf f1.type)) = some y1 ∧ DataW.trod enc P w b sp hd n f2.type ((cs.drop f2.offset).take (P.cellsOf f2.type)) = some y2 ∧
  DataW.trod enc P w b sp hd n f3.type ((cs.drop f3.offset).take (P.cellsOf f3.type)) = some y3 ∧ DataW.trod enc P w b sp hd n f4.type ((cs.drop f4.offset).take (P.cellsOf f4.type)) = some y4 ∧ DataW.trod enc P w b sp hd n f5.type ((cs.drop f5.offset).take (P.cellsOf f5.type)) = some y5 := by
 obtain ⟨xs, n, _, rfl, hl, hlen, hf⟩ := DataW.trod_struct ht h
 match xs, hlen with
 | [y0, y1, y2, y3, y4, y5], _ => exact ⟨y0, y1, y2, y3, y4, y5, n, hl, by simpa using hf 0 f0 rfl, by simpa using hf 1 f1 rfl, by simpa using hf 2 f2 rfl, by simpa using hf 3 f3 rfl, by simpa using hf 4 f4 rfl, by simpa using hf 5 f5 rfl⟩
theorem slice_els {α : Type} [Inhabited α] {t e : TypeId} {k : Nat} {cells : α → Array Value} {φ : α → Prop} (ht : Tryz.prog.underlying t = some (.slice e)) (hc : Tryz.prog.cellsOf e = k) (hk : 0 < k)
 (hq : ∀ n cs y, cs.length = k → DataW.trod enc Tryz.prog w b sp hd n e cs = some y → ∃ x, cs = (cells x).toList ∧ φ x) {v : Value} {n : Nat} {y : DataW H × List MemPlace} (h : DataW.trod enc Tryz.prog w b sp hd n t [v] = some y) :
 ∃ A c l, v = .slice A (List.length l) c ∧ l.length ≤ c ∧ El w k A (l.map cells) ∧ ∀ x ∈ l, φ x := by
 subst hc
 rcases open_slice ht h with ⟨h1, -⟩ | ⟨a, len, cap, m, n, D, Pl, h1, -, hl, hm, hmm, hy, hx⟩
 ·exact ⟨none, 0, [], by simpa using h1, by simp, El.nil_ _ _ _, by simp⟩
 ·have hlm : len ≤ m := by rw [hmm]; split <;> omega
  obtain ⟨f, hf⟩ := choose_lt (n := len) (p := fun i x => w.cells? b (a.add (i * Tryz.prog.cellsOf e)) (Tryz.prog.cellsOf e) = some (cells x).toList ∧ φ x) fun i hi => by
   obtain ⟨cs, h2, h3⟩ := hx i (by omega)
   obtain ⟨x, rfl, h4⟩ := hq _ _ _ (World.cells?_some h2).2.1 h3
   exact ⟨x, h2, h4⟩
  have hce : ∀ i, i < len → (cells (f i)).size = Tryz.prog.cellsOf e ∧ ∀ j, j < Tryz.prog.cellsOf e → w.cell? ((a.add (i * Tryz.prog.cellsOf e)).add j) = (cells (f i))[j]? := fun i hi => by
   obtain ⟨-, h2, h3⟩ := World.cells?_some (hf i hi).1
   exact ⟨by simpa using h2, fun j hj => by simpa using h3 j hj⟩
  have hsp : 0 < len → a.spot = none := fun h0 => by
   obtain ⟨h2, h3⟩ := hce 0 h0
   have h4 := h3 0 hk
   have h5 : 0 < (cells (f 0)).size := by omega
   rw [Array.getElem?_eq_getElem h5] at h4
   have := spot_of h4
   simpa [Addr.add] using this
  refine ⟨some a, cap, (List.range len).map f, by simpa using h1, by simpa using hl, ⟨?_, ?_, ?_⟩, ?_⟩
  ·intro h0
   have h0' : 0 < len := by simpa using h0
   obtain ⟨ab, ao, asp⟩ := a
   have : asp = none := hsp h0'
   exact ⟨ab, ao, by rw [this]⟩
  ·intro i hi
   have hi' : i < len := by simpa using hi
   simpa using (hce i hi').1
  ·intro i hi j hj
   have hi' : i < len := by simpa using hi
   have hc := (hce i hi').2 j hj
   have hs := hsp (by omega)
   obtain ⟨ab, ao, asp⟩ := a
   have e : asp = none := hs
   subst e
   rw [add_one_cell, add_one_cell, Nat.add_assoc] at hc
   rw [adr_some, hc]
   simp
  ·intro x hx'
   obtain ⟨i, hi, rfl⟩ := List.mem_map.1 hx'
   have hi' : i < len := by simpa using hi
   exact (hf i hi').2
theorem cellsTerm : Tryz.prog.cellsOf 60 = 5 := by kernel_rfl
theorem cellsI64 : Tryz.prog.cellsOf 3 = 1 := by kernel_rfl
theorem cellsVec : Tryz.prog.cellsOf 40 = 1 := by kernel_rfl
theorem cellsVecs : Tryz.prog.cellsOf 22 = 1 := by kernel_rfl
theorem cellsRats : Tryz.prog.cellsOf 23 = 1 := by kernel_rfl
theorem cellsForm : Tryz.prog.cellsOf 25 = 6 := by kernel_rfl
theorem rat_one {n : Nat} {cs : List Value} {y : DataW H × List MemPlace} (h : DataW.trod enc Tryz.prog w b sp hd n 33 cs = some y) : ∃ p : RV × Rat, cs = (rtcells p).toList ∧ okR p w := by
 obtain ⟨y0, y1, m, -, hl, h0, h1⟩ := trod_struct2 Tryz.underlying33 h
 rw [cellsRat] at hl
 obtain ⟨c0, c1, c2, c3, rfl⟩ := list4 hl
 have k0 : DataW.trod enc Tryz.prog w b sp hd m 31 [c0, c1] = some y0 := by simpa [cellsInt] using h0
 have k1 : DataW.trod enc Tryz.prog w b sp hd m 31 [c2, c3] = some y1 := by simpa [cellsInt] using h1
 obtain ⟨i, rfl, rfl, x, hx⟩ := int_cells k0
 obtain ⟨j, rfl, rfl, y', hy⟩ := int_cells k1
 exact ⟨(⟨i, j⟩, if j.k = 0 then Rat.divInt x 1 else Rat.divInt x y'), rfl, x, y', hx.mono (Nat.le_add_right _ _), hy.mono (Nat.le_add_left _ _), rfl⟩
theorem rats_el {n : Nat} {v : Value} {y : DataW H × List MemPlace} (h : DataW.trod enc Tryz.prog w b sp hd n 23 [v] = some y) : ∃ A c l, v = .slice A (List.length l) c ∧ l.length ≤ c ∧ LsR 4 rtcells okR A l w := by
 obtain ⟨A, c, l, h1, h2, h3, h4⟩ := slice_els (cells := rtcells) (φ := fun p => okR p w) Tryz.underlying23 cellsRat (by decide) (fun n cs y _ h => rat_one h) h
 exact ⟨A, c, l, h1, h2, h3, h4⟩
theorem term_one {n : Nat} {cs : List Value} {y : DataW H × List MemPlace} (h : DataW.trod enc Tryz.prog w b sp hd n 60 cs = some y) : ∃ t : TeV, cs = (tecells t).toList ∧ okT t w := by
 obtain ⟨y0, y1, m, -, hl, h0, h1⟩ := trod_struct2 Tryz.underlying60 h
 rw [cellsTerm] at hl
 obtain ⟨c0, c1, c2, c3, c4, rfl⟩ := list5 hl
 have k0 : DataW.trod enc Tryz.prog w b sp hd m 3 [c0] = some y0 := by simpa [cellsI64] using h0
 have k1 : DataW.trod enc Tryz.prog w b sp hd m 33 [c1, c2, c3, c4] = some y1 := by simpa [cellsRat] using h1
 obtain ⟨z, e0, -, -⟩ := DataW.trod_int Tryz.underlying3 k0
 obtain ⟨p, e, hp⟩ := rat_one k1
 obtain rfl : c0 = .int .i64 z := by simpa using e0
 exact ⟨⟨z, p.1, p.2⟩, by rw [e]; rfl, hp⟩
theorem vec_one {n : Nat} {cs : List Value} {y : DataW H × List MemPlace} (hl : cs.length = 1) (h : DataW.trod enc Tryz.prog w b sp hd n 40 cs = some y) : ∃ v : VeV, cs = (vecells v).toList ∧ okV v w := by
 obtain ⟨v, rfl⟩ := list1 hl
 obtain ⟨A, c, l, h1, h2, h3, h4⟩ := slice_els (cells := tecells) (φ := fun t => okT t w) Tryz.underlying40 cellsTerm (by decide) (fun n cs y _ h => term_one h) h
 exact ⟨⟨A, c, l⟩, by rw [h1]; rfl, h3, h4⟩
theorem cols_el {n : Nat} {v : Value} {y : DataW H × List MemPlace} (h : DataW.trod enc Tryz.prog w b sp hd n 22 [v] = some y) : ∃ A c l, v = .slice A (List.length l) c ∧ LsR 1 vecells okV A l w := by
 obtain ⟨A, c, l, h1, h2, h3, h4⟩ := slice_els (cells := vecells) (φ := fun v => okV v w) Tryz.underlying22 cellsVec (by decide) (fun n cs y hl h => vec_one hl h) h
 exact ⟨A, c, l, h1, h3, h4⟩
set_option maxRecDepth 100000 in
theorem rats_arg {b0 : Nat} {rr : Reach} {v : Value} {d : DataW H} {p : List MemPlace} (hv : Value.okWide Tryz.prog w rr b0 23 v) (h : DataW.Trod enc Tryz.prog w b sp hd 23 v d p) :
 ∃ A c l, v = .slice A (List.length l) c ∧ l.length ≤ c ∧ LsR 4 rtcells okR A l w := by
 obtain ⟨a, len, cap, rfl⟩ := okWide_slice Tryz.underlying23 hv
 obtain ⟨n, hf⟩ := h
 exact rats_el hf
set_option maxRecDepth 100000 in
theorem form_arg {b0 : Nat} {rr : Reach} {v : Value} {d : DataW H} {p : List MemPlace} (hv : Value.okWide Tryz.prog w rr b0 25 v) (h : DataW.Trod enc Tryz.prog w b sp hd 25 v d p) :
 ∃ f : FoV, v = .agg #[.int .i64 f.M, .slice f.Ac f.cols.length f.cc, .slice f.Al f.lo.length f.cl, .slice f.Ah f.hi.length f.ch, .slice f.Ak f.cost.length f.ck, .slice f.Ab f.b.length f.cb] ∧ FoA f w := by
 obtain ⟨cs, rfl, hsz⟩ := okWide_struct Tryz.underlying25 hv
 obtain ⟨c0, c1, c2, c3, c4, c5, rfl⟩ := array6 (hsz.trans cellsForm)
 obtain ⟨fuel, hf⟩ := h
 obtain ⟨y0, y1, y2, y3, y4, y5, n, -, h0, h1, h2, h3, h4, h5⟩ := trod_struct6 Tryz.underlying25 hf
 have k0 : DataW.trod enc Tryz.prog w b sp hd n 3 [c0] = some y0 := by simpa [Value.cells, cellsI64] using h0
 have k1 : DataW.trod enc Tryz.prog w b sp hd n 22 [c1] = some y1 := by simpa [Value.cells, cellsVecs] using h1
 have k2 : DataW.trod enc Tryz.prog w b sp hd n 23 [c2] = some y2 := by simpa [Value.cells, cellsRats] using h2
 have k3 : DataW.trod enc Tryz.prog w b sp hd n 23 [c3] = some y3 := by simpa [Value.cells, cellsRats] using h3
 have k4 : DataW.trod enc Tryz.prog w b sp hd n 23 [c4] = some y4 := by simpa [Value.cells, cellsRats] using h4
 have k5 : DataW.trod enc Tryz.prog w b sp hd n 23 [c5] = some y5 := by simpa [Value.cells, cellsRats] using h5
 obtain ⟨z, e0, -, -⟩ := DataW.trod_int Tryz.underlying3 k0
 obtain rfl : c0 = .int .i64 z := by simpa using e0
 obtain ⟨A1, q1, l1, rfl, g1⟩ := cols_el k1
 obtain ⟨A2, q2, l2, rfl, -, g2⟩ := rats_el k2
 obtain ⟨A3, q3, l3, rfl, -, g3⟩ := rats_el k3
 obtain ⟨A4, q4, l4, rfl, -, g4⟩ := rats_el k4
 obtain ⟨A5, q5, l5, rfl, -, g5⟩ := rats_el k5
 exact ⟨⟨z, A1, q1, l1, A2, q2, l2, A3, q3, l3, A4, q4, l4, A5, q5, l5⟩, rfl, g1, g2, g3, g4, g5⟩
end
end Go.Proofs.YtbnleajchmnbdaaGreatDoor
namespace Go.Proofs.YtbnleajchmnbdaaGreatDoor.proofTells
set_option maxHeartbeats 4000000
open Go.ChangeShapes Go.WideShapes Go.ChangeAt Go.RowKit Go.ChangeMaps

set_option maxRecDepth 100000 in
theorem contract (H : Type) (enc : TypeId × Value → H) (W : World) (base : Nat) (args : Array Value) (ds gs : List (DataW H)) (before : List MemPlace)
 (hval : ∀ (j : Nat) t v, Tryz.f3.params[j]? = some t → args[j]? = some v → Value.okWide Tryz.prog W .any base t v)
 (hW : DataW.Whole enc Tryz.prog Tryz.f3.params.toList Rows.proofTellsSpec.vars false W args.toList ds gs before) (hL : laidMetH Tryz.prog Rows.proofTellsRow.laid W) :
 Calls Tryz.prog 3 args W fun e W' => ∃ v, e = .returned v ∧ Rows.proofTellsSpec.post enc Tryz.prog Tryz.f3 false true false false W args v W' := by
 have hW' := hW
 have hlt := hW.lt
 obtain ⟨p, q, hA, hV, rfl, hfz, hnd⟩ := hW
 obtain ⟨rfl, rfl⟩ := trodVars_none hV
 rw [Tryz.params3] at hA
 obtain ⟨v0, vs0, d0, ds0, p0, q0, hargs, rfl, rfl, h0, t0⟩ := trodAll_cons hA
 obtain ⟨v1, vs1, d1, ds1, p1, q1, rfl, rfl, rfl, h1, t1⟩ := trodAll_cons t0
 obtain ⟨v2, vs2, d2, ds2, p2, q2, rfl, rfl, rfl, h2, t2⟩ := trodAll_cons t1
 obtain ⟨rfl, rfl, rfl⟩ := trodAll_nil t2
 obtain rfl : args = #[v0, v1, v2] := by cases args; simp_all
 obtain ⟨f0, rfl, x0⟩ := form_arg (hval 0 _ v0 (by rw [Tryz.params3]; rfl) rfl) h0
 obtain ⟨A1, c1, l1, rfl, hn1, hr1⟩ := rats_arg (hval 1 _ v1 (by rw [Tryz.params3]; rfl) rfl) h1
 obtain ⟨A2, c2, l2, rfl, hn2, hr2⟩ := rats_arg (hval 2 _ v2 (by rw [Tryz.params3]; rfl) rfl) h2
 refine (proofTells_any W f0 x0 A1 c1 l1 hr1 A2 c2 l2 hr2 hn2 (tz_of hL)).mono fun e W' ⟨he, hb⟩ => ?_
 subst he
 exact ⟨_, rfl, post_kept hW' rfl rfl rfl hb (by rw [Tryz.params3]; simpa only [List.append_nil] using trodAll_cons_mk (Below.trod laidOut (by kernel_rfl) (of_decide_eq_true (by kernel_rfl)) h0 hb (fun x hx => hlt x (by simp [hx]))) (trodAll_cons_mk (Below.trod laidOut (by kernel_rfl) (of_decide_eq_true (by kernel_rfl)) h1 hb (fun x hx => hlt x (by simp [hx]))) (trodAll_cons_mk (Below.trod laidOut (by kernel_rfl) (of_decide_eq_true (by kernel_rfl)) h2 hb (fun x hx => hlt x (by simp [hx]))) (trodAll_mk0))))⟩

theorem laid_met (os : Os) : laidMet Tryz.prog Rows.proofTellsRow.laid ((laidWorld os).forCall (fun _ _ => 0) ⟨#[], #[.agg #[.int .i64 0, .slice none 0 0, .slice none 0 0, .slice none 0 0, .slice none 0 0, .slice none 0 0], .slice none 0 0, .slice none 0 0], []⟩).memory :=
 laidMet_of_run' 8 (by kernel_rfl) (by kernel_rfl)
theorem reads (os : Os) {H : Type} (enc : TypeId × Value → H) : ∃ places, DataW.whole enc Tryz.prog ((laidWorld os).forCall (fun _ _ => 0) ⟨#[], #[.agg #[.int .i64 0, .slice none 0 0, .slice none 0 0, .slice none 0 0, .slice none 0 0, .slice none 0 0], .slice none 0 0, .slice none 0 0], []⟩).memory Tryz.f3.params.toList Rows.proofTellsSpec.vars false (#[.agg #[.int .i64 0, .slice none 0 0, .slice none 0 0, .slice none 0 0, .slice none 0 0, .slice none 0 0], .slice none 0 0, .slice none 0 0] : Array Value).toList 8 = some ([.agg [.lit (.int .i64 0), .nil, .nil, .nil, .nil, .nil], .nil, .nil], [], places) :=
 ⟨[], by kernel_rfl⟩

set_option maxRecDepth 100000 in
theorem lifted (os : Os) (started : os.Started) (H : Type) (enc : TypeId × Value → H) (F : Stop.Interp) :
 ReturnsInHanded {} Tryz.checked os 3 .any ((OpenSpec.ofChange Rows.proofTellsSpec).preRow enc Tryz.prog Tryz.f3 Rows.proofTellsRow.domain false Rows.proofTellsRow.laid) (((OpenSpec.ofChange Rows.proofTellsSpec).at F).post enc Tryz.prog Tryz.f3 false true false false) := by
 obtain ⟨places, hx⟩ := reads os enc
 refine returnsInHanded_of_row (C := Tryz.checked) (s := OpenSpec.ofChange Rows.proofTellsSpec) own started (by kernel_rfl) Tryz.func3
  (witness_row_at (enc := enc) (C := Tryz.checked) false (laidWorld os) #[.agg #[.int .i64 0, .slice none 0 0, .slice none 0 0, .slice none 0 0, .slice none 0 0, .slice none 0 0], .slice none 0 0, .slice none 0 0] rfl (by kernel_rfl) (by kernel_rfl) (by kernel_rfl)
   (OpenSpec.preRow_of_cond 8 hx (by kernel_rfl) (fun k hk => by cases hk) (by kernel_rfl) (laid_met os))) ?_
 intro W base args ds gs before hval hW _ _ _ hL _ _
 exact contract H enc W base args ds gs before hval hW hL

theorem and_tr {a b : Bool} (h : a = true) (h' : b = true) : (a && b) = true := by rw [h, h']; rfl
theorem closed : joinedFacts Tryz.pinned.checked.prog 3 Tryz.f3 (OpenSpec.ofChange Rows.proofTellsSpec).bare Rows.proofTellsRow = true := by
 unfold joinedFacts
 repeat' (with_reducible refine and_tr ?_ ?_)
 all_goals (as_aux_lemma => kernel_rfl)
theorem said : Rows.ProofTellsSaid :=
 OpenClaim.holds_of_cond 3 Tryz.f3 rfl rfl rfl rfl rfl rfl rfl ⟨rfl, rfl, rfl, rfl, rfl⟩ rfl rfl rfl rfl rfl (by kernel_rfl) Tryz.func3 closed
  (of_decide_eq_true (by kernel_rfl)) (by unfold Func.isWrapper; first | (rw [if_pos (by decide +kernel)]; kernel_rfl) | (rw [if_neg (by decide +kernel)]; exact ⟨rfl, rfl⟩))
  (fun os started H enc _ F => by rw [OpenClaim.pre_eq_preRow]; exact lifted os started H enc F)

theorem plain (f : FuncId) (fn : Func) (hf : Tryz.pinned.checked.prog.funcNamed "tripwire/tripwirelaw17.ProofTells" = some f) (hfn : Tryz.pinned.checked.prog.funcs[f]? = some fn) :
 false = Tryz.pinned.checked.prog.looks [] ∧ ∀ (j : Nat) t, fn.params[j]? = some t → Tryz.pinned.checked.prog.wantsStandIn t = false := by
 obtain rfl : f = 3 := Option.some.inj ((show Tryz.prog.funcNamed "tripwire/tripwirelaw17.ProofTells" = some 3 by kernel_rfl).symm.trans hf) |>.symm
 obtain rfl : fn = Tryz.f3 := (Option.some.inj (Tryz.func3.symm.trans hfn)).symm
 refine ⟨by kernel_rfl, fun j t ht => ?_⟩
 rw [Tryz.params3] at ht
 match j, ht with
 | 0, ht => have e := Option.some.inj ht; rw [← e]; exact (show Tryz.prog.wantsStandIn 25 = false by kernel_rfl)
 | 1, ht => have e := Option.some.inj ht; rw [← e]; exact (show Tryz.prog.wantsStandIn 23 = false by kernel_rfl)
 | 2, ht => have e := Option.some.inj ht; rw [← e]; exact (show Tryz.prog.wantsStandIn 23 = false by kernel_rfl)
 | n + 3, ht => simp at ht

theorem card : Rows.ProofTellsCardSaid :=
 Claim7.holds_tied_plain_at .later [] _ _ _ _ said (fun _ h => by cases h) (by kernel_rfl) (fun _ h => by cases h) proofTells_row_tie rfl ⟨rfl, rfl⟩ (by kernel_rfl) rfl plain (by kernel_rfl)
end Go.Proofs.YtbnleajchmnbdaaGreatDoor.proofTells
#print axioms Go.Proofs.YtbnleajchmnbdaaGreatDoor.proofTells.card
