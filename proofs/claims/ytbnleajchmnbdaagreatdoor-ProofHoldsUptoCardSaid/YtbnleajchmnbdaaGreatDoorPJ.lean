/-
 The law of ProofHolds over contracts: what great leaves, what prices tell. The walk of ProofHolds.
-/
import Derived.Test.YtbnleajchmnbdaaGreatDoorKR
import Derived.Test.YtbnleajchmnbdaaGreatDoorKM
import Derived.Test.YtbnleajchmnbdaaGreatDoorPF
import Derived.Test.YtbnleajchmnbdaaGreatDoorPH
namespace Go.Proofs.YtbnleajchmnbdaaGreatDoor
set_option maxHeartbeats 20000000
open Go.RowKit

theorem RatD.cut {r : RV} {q : Rat} {n m : Nat} {w : World} (h : RatD r q n w) (h1 : r.num.k ≤ m) (h2 : r.den.k ≤ m) : RatD r q m w := by
 obtain ⟨x, d, hx, hd, hq⟩ := h.ex
 exact ⟨⟨x, d, ⟨hx.ex, hx.cap, h1⟩, ⟨hd.ex, hd.cap, h2⟩, hq⟩⟩
theorem RatN.okR {r : RV} {q : Rat} {w : World} (h : RatN r q w) : RatD r q (r.num.k + r.den.k) w :=
 RatD.cut (h.rat (n := q.num.natAbs + q.den) ⟨Nat.lt_of_lt_of_le (Nat.lt_pow_self (by decide)) (Nat.pow_le_pow_right (by decide) (Nat.le_add_right _ _)), Nat.lt_of_lt_of_le (Nat.lt_pow_self (by decide)) (Nat.pow_le_pow_right (by decide) (Nat.le_add_left _ _))⟩) (by omega) (by omega)
theorem FoN.foA {f : FoV} {w : World} (h : FoN f w) : FoA f w :=
 ⟨h.cols.imp fun _ _ hv => LsR.imp hv fun _ _ ht => RatN.okR ht, h.lo.imp fun _ _ hp => RatN.okR hp, h.hi.imp fun _ _ hp => RatN.okR hp, h.cost.imp fun _ _ hp => RatN.okR hp, h.b.imp fun _ _ hp => RatN.okR hp⟩
theorem FoD.mono {n m : Nat} {f : FoV} {w : World} (h : FoD n f w) (hm : n ≤ m) : FoD m f w :=
 ⟨h.cols.imp fun _ _ hv => LsR.imp hv fun _ _ ht => RatD.mono ht hm, h.lo.imp fun _ _ hp => RatD.mono hp hm, h.hi.imp fun _ _ hp => RatD.mono hp hm, h.cost.imp fun _ _ hp => RatD.mono hp hm, h.b.imp fun _ _ hp => RatD.mono hp hm⟩
theorem rats_mono {n m : Nat} {A : Option Addr} {l : List (RV × Rat)} {w : World} (h : LsR 4 rtcells (roD n) A l w) (hm : n ≤ m) : LsR 4 rtcells (roD m) A l w := h.imp fun _ _ hp => RatD.mono hp hm
theorem NotGreat.small {f : FoV} {gs : List RsV} (h : NotGreat f gs) : FSmall f := ⟨h.M, h.cols, h.col, h.lo, h.hi, h.cost, h.b⟩
theorem rats_cut {A : Option Addr} {l : List (RV × Rat)} {w : World} (h : LsR 4 rtcells okR A l w) (hs : ∀ p ∈ l, shortP p) : LsR 4 rtcells (roD 4) A l w :=
 h.imp fun p hp hk => RatD.cut hk (hs p hp).1 (hs p hp).2
theorem FoA.cut {f : FoV} {gs : List RsV} {w : World} (h : FoA f w) (hg : NotGreat f gs) : FoD 4 f w := by
 have hs := hg.short
 refine ⟨h.cols.imp fun v hv hk => LsR.imp hk fun t ht hn => ?_, rats_cut h.lo fun p hp => hs p (by simp [hp]), rats_cut h.hi fun p hp => hs p (by simp [hp]), rats_cut h.cost fun p hp => hs p (by simp [hp]), rats_cut h.b fun p hp => hs p (by simp [hp])⟩
 have h1 : shortP (tr t) := hs _ (by
  refine List.mem_append_left _ (List.mem_append_right _ ?_)
  exact List.mem_flatMap.2 ⟨v, hv, List.mem_map_of_mem (f := tr) ht⟩)
 exact RatD.cut hn h1.1 h1.2
theorem NotGreat.lshort {f : FoV} {gs : List RsV} (h : NotGreat f gs) {l : RsV} (hl : l ∈ gs) : ∀ p ∈ l.ps, shortP p := fun p hp => h.short p (List.mem_append_right _ (List.mem_flatMap.2 ⟨l, hl, hp⟩))
theorem vs3s {g : Nat} {x y z : RsV} {W : World} {t : TypeId} (h : Blk W g t #[.slice x.A x.ps.length x.c, .slice y.A y.ps.length y.c, .slice z.A z.ps.length z.c]) (hx : okS x W) (hy : okS y W) (hz : okS z W) : LsR 1 rscells okS (some ⟨g, 0, none⟩) [x, y, z] W := by
 refine ⟨⟨Sl.some_ _ _ _, fun i hi => ?_, fun i hi j hj => ?_⟩, fun p hp => ?_⟩
 ·match i, hi with
  | 0, _ => rfl
  | 1, _ => rfl
  | 2, _ => rfl
 ·obtain rfl : j = 0 := by omega
  rw [adr_some]
  match i, hi with
  | 0, _ => exact h.cell 0
  | 1, _ => exact h.cell 1
  | 2, _ => exact h.cell 2
 ·simp only [List.mem_cons, List.not_mem_nil, or_false] at hp
  rcases hp with rfl | rfl | rfl
  ·exact hx
  ·exact hy
  ·exact hz
structure PSmall (p : PrV) : Prop where
 ts : ∀ r ∈ p.rows, ∀ t ∈ r.ts, Sz t.q 4
 b : ∀ r ∈ p.rows, Sz r.b.2 4
 cost : ∀ t ∈ p.cost, Sz t.q 4
theorem FormP.small {p : PrV} {f : FoV} {w w0 : World} (hP : FormP p f w) (hf : FoD 4 f w) (hR : PRight p w0) : PSmall p := by
 have hnc := hP.nc
 have hnk := hP.nk
 have hnb := hP.nb
 refine ⟨fun r hr t ht => ?_, fun r hr => ?_, fun t ht => ?_⟩
 ·obtain ⟨i, hi, rfl⟩ := List.mem_iff_getElem.1 hr
  have h1 := (hR.ro _ hr).2
  obtain ⟨k, hk, rfl⟩ := List.mem_iff_getElem.1 ht
  have h2 := h1.rng _ ht
  obtain ⟨j, hj⟩ : ∃ j : Nat, p.rows[i].ts[k].pl = (j : Int) := ⟨p.rows[i].ts[k].pl.toNat, by omega⟩
  have h3 := h1.rise.get_at hk
  have hjn : j < p.vars.length := by omega
  have h4 := hP.col j i hjn hi
  rw [at_eq hi] at h4
  rw [hj, ← h4] at h3
  rw [← h3]
  have hjc : j < f.cols.length := by omega
  rw [at_eq hjc]
  have hm := List.getElem_mem hjc
  exact getQ_sz (hP.right _ hm).rise (by decide) (fun u hu => RatD.sz ((hf.cols.ok _ hm).ok u hu) (by decide)) _
 ·obtain ⟨i, hi, rfl⟩ := List.mem_iff_getElem.1 hr
  have h1 := hP.b i hi
  rw [at_eq hi, at_eq (show i < f.b.length by omega)] at h1
  rw [← h1]
  exact RatD.sz (hf.b.ok _ (List.getElem_mem _)) (by decide)
 ·obtain ⟨k, hk, rfl⟩ := List.mem_iff_getElem.1 ht
  have h2 := hR.cost.rng _ ht
  obtain ⟨j, hj⟩ : ∃ j : Nat, p.cost[k].pl = (j : Int) := ⟨p.cost[k].pl.toNat, by omega⟩
  have h3 := hR.cost.rise.get_at hk
  have hjn : j < p.vars.length := by omega
  rw [hj, ← hP.cost j hjn, at_eq (show j < f.cost.length by omega)] at h3
  rw [← h3]
  exact RatD.sz (hf.cost.ok _ (List.getElem_mem _)) (by decide)
theorem PSmall.prE {p : PrV} {N : Nat} {w : World} (h : PSmall p) (hR : PRight p w) (hD : PrD N p w) : PrE 4 N p w :=
 ⟨hD.vars, hD.rows.imp fun r hr hk => ⟨LsR.imp hk.1 fun t ht _ => RatN.rat ((hR.ro r hr).2.one t ht) (h.ts r hr t ht), hk.2⟩⟩
theorem PSmall.costE {p : PrV} {N : Nat} {w : World} (h : PSmall p) (hR : PRight p w) (hD : PrD N p w) : LsR 5 tecells (teD 4) p.Ak p.cost w :=
 hD.cost.imp fun t ht _ => RatN.rat (hR.cost.one t ht) (h.cost t ht)
theorem few_of {p : PrV} {f : FoV} {w w0 : World} (hP : FormP p f w) (hs : FSmall f) (hR : PRight p w0) : p.vars.length + p.rows.length ≤ 12 ∧ (∀ r ∈ p.rows, Rise r.ts ∧ r.ts.length ≤ 20 ∧ (r.kind = 1 ∨ r.kind = 2 ∨ r.kind = 3)) ∧ p.cost.length ≤ 20 := by
 have h1 := hs.cols
 rw [hP.nc] at h1
 refine ⟨h1, fun r hr => ?_, ?_⟩
 ·have h2 := hR.ro r hr
  have h3 := rise_few h2.2.rise h2.2.rng
  exact ⟨h2.2.rise, by omega, h2.1⟩
 ·have h3 := rise_few hR.cost.rise hR.cost.rng
  omega
theorem cost_I {f : FoV} {zs : List (RV × Rat)} (h1 : f.cost.length = f.cols.length) (hl : zs.length = f.cols.length) : dotQ (vecL f.cost) (vecL zs) = sumI (fun j => (f.cost[j]!).2 * (zs[j]!).2) f.cols.length := by
 rw [dotQ_range (n := f.cols.length) _ fun q hq => by
  have := vecL_rng q hq
  omega]
 exact sumI_congr fun j hj => by rw [vecL_at (by omega), vecL_at (by omega)]
theorem boolRes_is {P : Prop} {B : Bool} {e : Ending} (h : BoolRes P e) (hB : B = true ↔ P) : e = .returned (.bool B) := by
 obtain ⟨B', rfl, hB'⟩ := h
 rw [show B' = B by rw [Bool.eq_iff_iff, hB', hB]]
theorem prices_law {w : World} {f : FoV} {n : Nat} (hn : n ≤ 1000) (h1n : 1 ≤ n) (h : FoD n f w) (hs : FSmall f) {Ax : Option Addr} {cx : Nat} {xs : List (RV × Rat)} (hx : LsR 4 rtcells (roD n) Ax xs w) (hF : FeasP f xs w)
 {Ay : Option Addr} {cy : Nat} {ys : List (RV × Rat)} (hy : LsR 4 rtcells (roD n) Ay ys w) (hyl : ys.length ≤ 30) (hyc : ys.length ≤ cy) {C : Rat} (hC : sumI (fun j => (f.cost[j]!).2 * (xs[j]!).2) f.cols.length = C) :
 ∃ Q, Q ≤ C ∧ Sz Q 10000000 ∧ ∀ V, Below w.heap.size w V → Tz V → Calls Tryz.prog 8 #[.agg #[.int .i64 f.M, .slice f.Ac f.cols.length f.cc, .slice f.Al f.lo.length f.cl, .slice f.Ah f.hi.length f.ch, .slice f.Ak f.cost.length f.ck, .slice f.Ab f.b.length f.cb], .slice Ay ys.length cy] V (RetR Q V) ∧ (Calls Tryz.prog 10 #[.agg #[.int .i64 f.M, .slice f.Ac f.cols.length f.cc, .slice f.Al f.lo.length f.cl, .slice f.Ah f.hi.length f.ch, .slice f.Ak f.cost.length f.ck, .slice f.Ab f.b.length f.cb], .slice Ay ys.length cy] V fun e w' => e = .returned (.bool false) ∧ Below V.heap.size V w') ∧ (Calls Tryz.prog 12 #[.agg #[.int .i64 f.M, .slice f.Ac f.cols.length f.cc, .slice f.Al f.lo.length f.cl, .slice f.Ah f.hi.length f.ch, .slice f.Ak f.cost.length f.ck, .slice f.Ab f.b.length f.cb], .slice Ax xs.length cx, .slice Ay ys.length cy] V fun e w' => e = .returned (.bool (decide (Q = C))) ∧ Below V.heap.size V w') := by
 have hR := hF.right
 have hw := hF.weak ys (fun i => (f.cost[i]!).2)
 have hw0 := hF.weak ys (fun _ => (0 : Rat))
 rw [hC] at hw
 rw [sumI_zero fun i _ => Rat.zero_mul _] at hw0
 refine ⟨_, hw, (bnd_sz h1n h hs hR hy (K := min ys.length f.b.length) (by have := hs.b; omega) (cq := fun i => (f.cost[i]!).2) (fun i hi => ?_)).up (bndT_le hn), fun V hb hT => ?_⟩
 ·rw [at_eq (show i < f.cost.length by rw [hR.cost]; exact hi)]
  exact RatD.sz (h.cost.ok _ (List.getElem_mem _)) h1n
 ·have hV := (h.old.below hb).now
  have hyV := ((hy.old roD_old).below hb).now
  have hxV := ((hx.old roD_old).below hb).now
  have hRV := (FRight.same h hb).2 hR
  have hFV := (FeasP.same (xs := xs) h hb).2 hF
  refine ⟨Bound_yes V n hn h1n f hV hs Ay cy ys hyV hyl hyc hT hRV, (refutes_any V n hn h1n f hV hs Ay cy ys hyV hyl hyc hT).mono fun e w' h9 => ⟨boolRes_is h9.1 ⟨fun h0 => absurd h0 (by decide), fun h0 => ?_⟩, h9.2⟩, (best_any V n hn h1n f hV hs Ax cx xs hxV Ay cy ys hyV hyl hyc hT).mono fun e w' h9 => ⟨boolRes_is h9.1 ?_, h9.2⟩⟩
  ·exfalso
   have h8 : ¬ 0 < (bndQ f (vecL (ys.take (min ys.length f.b.length))) (dotQ (vecL (ys.take (min ys.length f.b.length))) (vecL f.b)) (fun _ => (0 : Rat)) f.cols.length).num.sign := by
    intro h9
    have h7 := Int.sign_pos_iff.1 h9
    have h6 : 0 ≤ (-(bndQ f (vecL (ys.take (min ys.length f.b.length))) (dotQ (vecL (ys.take (min ys.length f.b.length))) (vecL f.b)) (fun _ => (0 : Rat)) f.cols.length)).num := Rat.num_nonneg.2 (by grind)
    rw [Rat.neg_num] at h6
    omega
   exact h8 h0.2
  ·rw [decide_eq_true_iff, cost_I hR.cost hF.len, hC]
   exact ⟨fun h0 => ⟨hFV, h0.symm⟩, fun h0 => h0.2.symm⟩
theorem FoD.feas {w : World} {f : FoV} {n : Nat} (hn : n ≤ 1000) (h1n : 1 ≤ n) (h : FoD n f w) (hs : FSmall f) {Ax : Option Addr} {cx : Nat} {xs : List (RV × Rat)} (hx : LsR 4 rtcells (roD n) Ax xs w) (hF : FeasP f xs w) (V : World) (hb : Below w.heap.size w V) (hT : Tz V) :
 Calls Tryz.prog 20 #[.agg #[.int .i64 f.M, .slice f.Ac f.cols.length f.cc, .slice f.Al f.lo.length f.cl, .slice f.Ah f.hi.length f.ch, .slice f.Ak f.cost.length f.ck, .slice f.Ab f.b.length f.cb], .slice Ax xs.length cx] V fun e w' => e = .returned (.bool true) ∧ Below V.heap.size V w' :=
 (feas_any V n hn h1n f (h.old.below hb).now hs Ax cx xs ((hx.old roD_old).below hb).now hT).mono fun e w' h9 => ⟨boolRes_is h9.1 ⟨fun _ => (FeasP.same (xs := xs) h hb).2 hF, fun _ => rfl⟩, h9.2⟩
theorem holds_plain {p : PrV} {f : FoV} {w w0 : World} (hP : FormP p f w) (hR : PRight p w0) {xs ss : List (RV × Rat)} (hb : BrP p xs) (hs : ss.length = p.rows.length) (hsv : ∀ i, i < p.rows.length → (ss[i]!).2 = (p.rows[i]!).b.2 - dotQ ((p.rows[i]!).ts.map plq) (vecL xs)) :
 FeasP f (xs ++ ss) w ∧ sumI (fun j => (f.cost[j]!).2 * ((xs ++ ss)[j]!).2) f.cols.length = dotQ (p.cost.map plq) (vecL xs) := by
 have hl := hb.len
 refine ⟨hP.feas (fun i hi => ?_) (fun j hj => ?_) (fun i hi => ?_) hl (fun j hj => ?_) (fun i hi => ?_) hs hsv, hP.value hR.cost.rng hl hs⟩
 ·rw [at_eq hi]; exact (hR.ro _ (List.getElem_mem hi)).1
 ·rw [at_eq hj]; exact cmpQ_le.1 (hR.va _ (List.getElem_mem hj))
 ·rw [at_eq hi]; exact (hR.ro _ (List.getElem_mem hi)).2.rng
 ·have h1 := hb.va j hj (by omega)
  rw [at_eq hj, at_eq (show j < xs.length by omega)]
  exact ⟨cmpQ_ge.1 (by omega), cmpQ_le.1 (by omega)⟩
 ·rw [at_eq hi]; exact hb.ro _ (List.getElem_mem hi)
end Go.Proofs.YtbnleajchmnbdaaGreatDoor
namespace Go.Proofs.YtbnleajchmnbdaaGreatDoor
set_option maxHeartbeats 20000000
open Go.RowKit

section
variable {w W W' : World} {ls : List Ow} {bs : List Bo} {old new : World → Prop}
theorem rtcells_one9 (p : RV × Rat) : ∀ u ∈ (rtcells p).toList, u.oneCell' = true := by
 unfold rtcells
 intro u hu
 simp only [List.mem_cons, List.not_mem_nil, or_false] at hu
 rcases hu with rfl | rfl | rfl | rfl <;> rfl
theorem GL.appF {k g : Nat} {A : Option Addr} {c : Nat} {l : List (RV × Rat)} (h : GL w ls old new W) (hk : ls[k]? = some ⟨33, 4, .slice A l.length c, l.map rtcells⟩) (x : RV × Rat) (hd : Blk W g 33 (rtcells x)) (hl : l.length ≤ 1000000) :
 ∃ A' c' w', (Builtin.append_ #[23, 23] 23 #[.slice A l.length c, .slice (some ⟨g, 0, none⟩) 1 1]).run Tryz.prog W = .ok (.slice A' (l ++ [x]).length c') w' ∧ GL w (ls.set k ⟨33, 4, .slice A' (l ++ [x]).length c', (l ++ [x]).map rtcells⟩) old new w' := by
 have hel : El W 4 (some ⟨g, 0, none⟩) [rtcells x] := by
  refine ⟨Sl.some_ _ _ _, fun i hi => ?_, fun i hi j hj => ?_⟩
  ·have : i = 0 := by simpa using hi
   subst this; rfl
  ·have : i = 0 := by simpa using hi
   subst this
   rw [adr_some, Nat.zero_mul, Nat.zero_add, Nat.zero_add]
   exact hd.cell j
 obtain ⟨v', w', hrun, hG, -, A', n', c', hv⟩ := GL.appAt (P := Tryz.prog) (c := 1) under_rats info_rat rfl (by decide) h hk hel (rtcells_one9 x) (by simp; omega) (by simp [maxLen]; omega)
 obtain ⟨A2, c2, hv2, -⟩ := (hG.own _ (List.mem_of_getElem? (set_at _ _ _ _ hk))).form
 have hv' : v' = .slice A2 (l ++ [x]).length c2 := by rw [show v' = _ from hv2]; simp
 subst hv'
 refine ⟨A2, c2, w', hrun, ?_⟩
 have e : (l ++ [x]).map rtcells = l.map rtcells ++ [rtcells x] := by simp
 rw [e]; exact hG
end
theorem idx_y0 (A B : Option Addr) (n c m d : Nat) (W : World) : (Instr.index 43 (.agg #[.slice A n c, .slice B m d]) (.int .i64 0)).run Tryz.prog W = .ok (.slice A n c) W := by kernel_rfl
theorem idx_y1 (A B : Option Addr) (n c m d : Nat) (W : World) : (Instr.index 43 (.agg #[.slice A n c, .slice B m d]) (.int .i64 1)).run Tryz.prog W = .ok (.slice B m d) W := by kernel_rfl
theorem cmp_false {Q C : Rat} (h : Q ≤ C) : decide (0 < cmpQ Q C) = false := by rw [decide_eq_false_iff_not]; exact cmpQ_le.2 h
set_option maxRecDepth 100000 in
theorem proofHolds_any (w : World) (N : Nat) (hN : N ≤ 10000000) (h2N : 300 ≤ N) (p : PrV) (hp : PrD N p w) (hts : ∀ r ∈ p.rows, r.ts.length ≤ 1000000) (hck : p.cost.length ≤ 1000000) (Ax : Option Addr) (cx : Nat) (xs : List (RV × Rat)) (hx : LsR 4 rtcells okR Ax xs w) (A0 : Option Addr) (c0 : Nat) (y0 : List (RV × Rat)) (h0 : LsR 4 rtcells okR A0 y0 w) (hc0 : y0.length ≤ c0) (A1 : Option Addr) (c1 : Nat) (y1 : List (RV × Rat)) (h1 : LsR 4 rtcells okR A1 y1 w) (hc1 : y1.length ≤ c1) (hT : Tz w) :
 Calls Tryz.prog 4 #[.agg #[.slice p.Av p.vars.length p.cv, .slice p.Ar p.rows.length p.cr, .slice p.Ak p.cost.length p.ck], .slice Ax xs.length cx, .agg #[.slice A0 y0.length c0, .slice A1 y1.length c1]] w fun e w' => e = .returned (.bool true) ∧ Below w.heap.size w w' := by
 have HD := Lib.hid hp
 have Hx := Lib.hid hx
 have Hy0 := Lib.hid h0
 have Hy1 := Lib.hid h1
 have slx := hx.sl
 have slr := hp.rows.sl
 have hszr := size_rats
 have hszw := size_rows
 have hadd := adr_add
 obtain ⟨W0, hW0⟩ : ∃ W0, W0 = ((w.alloc (.cells #[.slice p.Av p.vars.length p.cv, .slice p.Ar p.rows.length p.cr, .slice p.Ak p.cost.length p.ck] 42)).alloc (.cells #[.slice A0 y0.length c0, .slice A1 y1.length c1] 43)) := ⟨_, rfl⟩
 have HE := Lib.hid (Env.lay2 (Env.start ((hp.old).and (((hx.old okR_old)).and (((h0.old okR_old)).and (((h1.old okR_old)).and (hT.old)))))) hW0)
 subst hW0
 have c := Env.c2 HE.out
 have dd := Env.d2 HE.out
 clear hp hx h0 h1 hT dd
 go_enter Tryz.func4, Tryz.ntmps4
 go_wp2_with fail
 refine (form_any _ N hN (by omega) p HE.out.o.1 hts hck HE.out.o.2.2.2.2).mono ?_
 rintro e w1 ⟨hres, hb⟩
 rcases hres with ⟨k, hk, rfl⟩ | ⟨f, rfl, hR, hk⟩
 ·have hk0 : (k != 0) = true := by simpa using hk
  replace HE := Lib.hid (Env.call HE.out hb)
  replace c := Env.c2 HE.out
  clear hb hk
  go_upto_region 2 with fail
  obtain ⟨W2, gf, hW2, hgf, HE⟩ := Env.al HE.out 25 #[.int .i64 0, .slice none 0 0, .slice none 0 0, .slice none 0 0, .slice none 0 0, .slice none 0 0]
  rw [hW2, hgf]
  clear hW2 hgf
  replace c := Env.c3 HE.out
  go_wp2_with fail
  refine (awake_any _ HE.out.o.2.2.2.2).mono ?_
  rintro e w9 ⟨rfl, hb⟩
  replace HE := Lib.hid (Env.call HE.out hb)
  clear hb
  go_wp2_with fail
  exact bodyPost_ret (v := .bool true) (by simp [results, Tryz.results4, go_sem]) rfl ⟨rfl, HE.out.bel⟩
 ·have HR := Lib.hid ((PRight.same HD.out HE.out.bel).1 hR)
  replace HE := Lib.hid (Env.ret HE.out hk hb)
  replace c := Env.c2 HE.out
  clear hb hk hR
  go_upto_region 2 with fail
  obtain ⟨W2, gf, hW2, hgf, HE⟩ := Env.al HE.out 25 #[.int .i64 f.M, .slice f.Ac f.cols.length f.cc, .slice f.Al f.lo.length f.cl, .slice f.Ah f.hi.length f.ch, .slice f.Ak f.cost.length f.ck, .slice f.Ab f.b.length f.cb]
  rw [hW2, hgf]
  clear hW2 hgf
  replace c := Env.c3 HE.out
  go_wp2_with fail
  obtain ⟨W3, gs, hW3, hgs, HE⟩ := Env.al HE.out 23 #[.slice Ax xs.length cx, .slice A0 y0.length c0, .slice A1 y1.length c1]
  rw [hW3, hgs]
  clear hW3 hgs
  refine (great_any _ f HE.out.n.1.1.foA (some ⟨gs, 0, none⟩) 3 [⟨Ax, cx, xs⟩, ⟨A0, c0, y0⟩, ⟨A1, c1, y1⟩] (vs3s (x := ⟨Ax, cx, xs⟩) (y := ⟨A0, c0, y0⟩) (z := ⟨A1, c1, y1⟩) (HE.out.bx ⟨gs, 23, #[.slice Ax xs.length cx, .slice A0 y0.length c0, .slice A1 y1.length c1]⟩ (by simp)) HE.out.o.2.1 HE.out.o.2.2.1 HE.out.o.2.2.2.1) (by simp)).mono ?_
  rintro e w4 ⟨⟨B, rfl, hB⟩, hb⟩
  replace HE := Lib.hid (Env.call HE.out hb)
  have HBg := Lib.hid hB
  clear hb hB
  replace c := Env.c4 HE.out
  cases B
  rotate_left 1
  ·go_wp2_with fail
   refine (awake_any _ HE.out.o.2.2.2.2).mono ?_
   rintro e w9 ⟨rfl, hb⟩
   replace HE := Lib.hid (Env.call HE.out hb)
   clear hb
   go_wp2_with fail
   exact bodyPost_ret (v := .bool true) (by simp [results, Tryz.results4, go_sem]) rfl ⟨rfl, HE.out.bel⟩
  have hN := HBg.out rfl
  have hs := hN.small
  have h4 := HE.out.n.1.1.foA.cut hN
  have hfew := few_of HE.out.n.1.2 hs HR.out
  have hps := HE.out.n.1.2.small h4 HR.out
  have hlst := hN.lst
  have hxl : xs.length ≤ 30 := hlst ⟨Ax, cx, xs⟩ (by simp)
  have hyl0 : y0.length ≤ 30 := hlst ⟨A0, c0, y0⟩ (by simp)
  have hyl1 : y1.length ≤ 30 := hlst ⟨A1, c1, y1⟩ (by simp)
  have HX4 := Lib.hid (rats_cut Hx.out (hN.lshort (l := ⟨Ax, cx, xs⟩) (by simp)))
  have HY0 := Lib.hid (rats_cut Hy0.out (hN.lshort (l := ⟨A0, c0, y0⟩) (by simp)))
  have HY1 := Lib.hid (rats_cut Hy1.out (hN.lshort (l := ⟨A1, c1, y1⟩) (by simp)))
  have HPE := Lib.hid (hps.prE HR.out HD.out)
  have HCE := Lib.hid (hps.costE HR.out HD.out)
  have Hps := Lib.hid hps
  have Hs := Lib.hid hs
  have Hgr := Lib.hid hN
  have hfv : p.vars.length + p.rows.length ≤ 12 := hfew.1
  have Hrw := Lib.hid hfew.2.1
  have hck2 : p.cost.length ≤ 20 := hfew.2.2
  clear hfew hps hN h4 hs hlst HBg
  go_wp2_with fail
  refine (broken_any _ 4 (by decide) (by decide) N (by omega) (by omega) p (HPE.out.old.below HE.out.bel).now Hrw.out (by omega) (by omega) Ax cx xs ((HX4.out.old roD_old).below HE.out.bel).now HE.out.o.2.2.2.2).mono ?_
  rintro e w5 ⟨⟨k, i0, rfl, hk⟩, hb⟩
  replace HE := Lib.hid (Env.call HE.out hb)
  replace c := Env.c4 HE.out
  have HK := Lib.hid hk
  clear hb hk
  by_cases hk : k = 0 ∨ k = 3
  rotate_left 1
  ·have hk0 : (k != 0) = true := by simp; omega
   have hk3 : (k != 3) = true := by simp; omega
   clear hk
   go_wp2_with fail
   refine (awake_any _ HE.out.o.2.2.2.2).mono ?_
   rintro e w9 ⟨rfl, hb⟩
   replace HE := Lib.hid (Env.call HE.out hb)
   clear hb
   go_wp2_with fail
   exact bodyPost_ret (v := .bool true) (by simp [results, Tryz.results4, go_sem]) rfl ⟨rfl, HE.out.bel⟩
  have HB := Lib.hid (HK.out hk)
  clear HK
  go_upto_region 5 with fail
  go_cut [46] (fun bv wx => bv = .bool false ∧ Hid (Env w [⟨gs, 23, #[.slice Ax xs.length cx, .slice A0 y0.length c0, .slice A1 y1.length c1]⟩, ⟨gf, 25, #[.int .i64 f.M, .slice f.Ac f.cols.length f.cc, .slice f.Al f.lo.length f.cl, .slice f.Ah f.hi.length f.ch, .slice f.Ak f.cost.length f.ck, .slice f.Ab f.b.length f.cb]⟩, ⟨w.heap.size + 1, 43, #[.slice A0 y0.length c0, .slice A1 y1.length c1]⟩, ⟨w.heap.size, 42, #[.slice p.Av p.vars.length p.cv, .slice p.Ar p.rows.length p.cr, .slice p.Ak p.cost.length p.ck]⟩] (fun V => PrD N p V ∧ LsR 4 rtcells okR Ax xs V ∧ LsR 4 rtcells okR A0 y0 V ∧ LsR 4 rtcells okR A1 y1 V ∧ Tz V) (fun V => (FoN f V ∧ FormP p f V) ∧ True) wx))
  case first =>
   rcases hk with rfl | rfl
   all_goals
    go_wp2_with fail
    go_meet
    exact ⟨rfl, HE⟩
  case rest =>
   clear HE c hk
   obtain ⟨rfl, HE⟩ := hcut
   have HG := Lib.hid (show GL w [] (fun V => Blk V (w.heap.size) 42 #[.slice p.Av p.vars.length p.cv, .slice p.Ar p.rows.length p.cr, .slice p.Ak p.cost.length p.ck] ∧ Blk V (w.heap.size + 1) 43 #[.slice A0 y0.length c0, .slice A1 y1.length c1] ∧ Blk V gf 25 #[.int .i64 f.M, .slice f.Ac f.cols.length f.cc, .slice f.Al f.lo.length f.cl, .slice f.Ah f.hi.length f.ch, .slice f.Ak f.cost.length f.ck, .slice f.Ab f.b.length f.cb] ∧ PrD N p V ∧ LsR 4 rtcells okR Ax xs V ∧ LsR 4 rtcells okR A0 y0 V ∧ LsR 4 rtcells okR A1 y1 V ∧ Tz V) (fun V => (FoN f V ∧ FormP p f V) ∧ True) _ from (GL.ofEnv (bs1 := []) (bs2 := [⟨gs, 23, #[.slice Ax xs.length cx, .slice A0 y0.length c0, .slice A1 y1.length c1]⟩, ⟨gf, 25, #[.int .i64 f.M, .slice f.Ac f.cols.length f.cc, .slice f.Al f.lo.length f.cl, .slice f.Ah f.hi.length f.ch, .slice f.Ak f.cost.length f.ck, .slice f.Ab f.b.length f.cb]⟩, ⟨w.heap.size + 1, 43, #[.slice A0 y0.length c0, .slice A1 y1.length c1]⟩, ⟨w.heap.size, 42, #[.slice p.Av p.vars.length p.cv, .slice p.Ar p.rows.length p.cr, .slice p.Ak p.cost.length p.ck]⟩]) HE.out).imp (fun V h => ⟨h.1 ⟨w.heap.size, 42, #[.slice p.Av p.vars.length p.cv, .slice p.Ar p.rows.length p.cr, .slice p.Ak p.cost.length p.ck]⟩ (by simp), h.1 ⟨w.heap.size + 1, 43, #[.slice A0 y0.length c0, .slice A1 y1.length c1]⟩ (by simp), h.1 ⟨gf, 25, #[.int .i64 f.M, .slice f.Ac f.cols.length f.cc, .slice f.Al f.lo.length f.cl, .slice f.Ah f.hi.length f.ch, .slice f.Ak f.cost.length f.ck, .slice f.Ab f.b.length f.cb]⟩ (by simp), h.2⟩) (fun V h => h))
   clear HE
   have hx20 : xs.length ≤ 20 := by have := HB.out.len; omega
   have HG1 := Lib.hid (HG.out.made 33 4)
   obtain ⟨v1, w6, hrun, hG⟩ := GL.apps (P := Tryz.prog) (c := cx) under_rats info_rat rfl (by decide) HG1.out (Env.start (Rests.pure trivial _ _) : Env _ [] (fun _ => True) (fun _ => True) _) HG1.out.o.2.2.2.2.1.el (fun d hd => by obtain ⟨p, -, rfl⟩ := List.mem_map.1 hd; exact rtcells_one9 p) (by simp; omega) (by simp [maxLen]; omega)
   obtain ⟨Af, cf, hv, -⟩ := (hG.own _ (List.mem_cons_self ..)).form
   have hv1 : v1 = .slice Af xs.length cf := by rw [show v1 = _ from hv]; simp
   subst hv1
   rw [List.length_map] at hrun
   have Hrun := Lib.hid hrun
   have HG2 := Lib.hid (show GL w [⟨33, 4, .slice Af (xs ++ ([] : List (RV × Rat))).length cf, (xs ++ ([] : List (RV × Rat))).map rtcells⟩] (fun V => Blk V (w.heap.size) 42 #[.slice p.Av p.vars.length p.cv, .slice p.Ar p.rows.length p.cr, .slice p.Ak p.cost.length p.ck] ∧ Blk V (w.heap.size + 1) 43 #[.slice A0 y0.length c0, .slice A1 y1.length c1] ∧ Blk V gf 25 #[.int .i64 f.M, .slice f.Ac f.cols.length f.cc, .slice f.Al f.lo.length f.cl, .slice f.Ah f.hi.length f.ch, .slice f.Ak f.cost.length f.ck, .slice f.Ab f.b.length f.cb] ∧ PrD N p V ∧ LsR 4 rtcells okR Ax xs V ∧ LsR 4 rtcells okR A0 y0 V ∧ LsR 4 rtcells okR A1 y1 V ∧ Tz V) (fun V => (FoN f V ∧ FormP p f V) ∧ ∀ q ∈ ([] : List (RV × Rat)), roN q V) _ from by
    rw [List.append_nil]
    exact hG.imp (fun V h => h) (fun V h => ⟨h.2.1, by simp⟩))
   clear hrun hG HG HG1 hv
   have c := Blk.cb HG2.out.o.1
   go_wp2_with (at_builtin; refine wpList_append_eq rfl (.tmp 48) (.tmp 49) 23 _ _ _ rfl rfl rfl Hrun.out ?_)
   clear Hrun c
   go_loopw [11, 54] (fun fv iv wr => ∃ (Af : Option Addr) (cf i : Nat) (ss : List (RV × Rat)), fv = .slice Af (xs ++ ss).length cf ∧ iv = .int .i64 (i : Int) ∧ i ≤ p.rows.length ∧ Hid (ss.length = i ∧ (∀ a, a < i → (ss[a]!).2 = (p.rows[a]!).b.2 - dotQ ((p.rows[a]!).ts.map plq) (vecL xs)) ∧ ∀ q ∈ ss, Sz q.2 206) ∧ Hid (GL w [⟨33, 4, .slice Af (xs ++ ss).length cf, (xs ++ ss).map rtcells⟩] (fun V => Blk V (w.heap.size) 42 #[.slice p.Av p.vars.length p.cv, .slice p.Ar p.rows.length p.cr, .slice p.Ak p.cost.length p.ck] ∧ Blk V (w.heap.size + 1) 43 #[.slice A0 y0.length c0, .slice A1 y1.length c1] ∧ Blk V gf 25 #[.int .i64 f.M, .slice f.Ac f.cols.length f.cc, .slice f.Al f.lo.length f.cl, .slice f.Ah f.hi.length f.ch, .slice f.Ak f.cost.length f.ck, .slice f.Ab f.b.length f.cb] ∧ PrD N p V ∧ LsR 4 rtcells okR Ax xs V ∧ LsR 4 rtcells okR A0 y0 V ∧ LsR 4 rtcells okR A1 y1 V ∧ Tz V) (fun V => (FoN f V ∧ FormP p f V) ∧ ∀ q ∈ ss, roN q V) wr)) (fun _ iv _ => p.rows.length - (intOf iv).toNat)
   case atStart => exact ⟨Af, cf, 0, [], by rw [List.append_nil], rfl, Nat.zero_le _, Lib.hid ⟨rfl, fun a h => absurd h (Nat.not_lt_zero _), by simp⟩, HG2⟩
   case round =>
    clear HG2
    obtain ⟨Af, cf, i, ss, rfl, rfl, hi, HI, HG⟩ := hrel
    by_cases hlt : i < p.rows.length
    ·have cr0 := HG.out.o.2.2.2.1.rows.rwc i hlt
     have hsl := HI.out.1
     have hro : p.rows[i]! = p.rows[i] := at_eq hlt
     have Hm0 := List.getElem_mem hlt
     obtain ⟨r, hr⟩ : ∃ r, r = p.rows[i] := ⟨_, rfl⟩
     rw [← hr] at cr0 hro Hm0
     have Hm := Lib.hid Hm0
     have Hro := Lib.hid hro
     have Hsl := Lib.hid hsl
     have hll : (xs ++ ss).length ≤ 1000000 := by rw [List.length_append]; omega
     clear hr Hm0 hro hsl
     obtain ⟨l, hl⟩ : ∃ l : List (RV × Rat), l = xs ++ ss := ⟨_, rfl⟩
     rw [← hl] at HG hll ⊢
     have Hl := Lib.hid hl
     clear hl
     have c := Blk.cb HG.out.o.1
     go_upto_region 11 with fail
     obtain ⟨W2, gr, hW2, hgr, HG⟩ := HG.out.al 51 #[.slice r.A r.ts.length r.c, .int .u8 r.kind, .bool r.b.1.num.neg, .slice r.b.1.num.A r.b.1.num.k r.b.1.num.c, .bool r.b.1.den.neg, .slice r.b.1.den.A r.b.1.den.k r.b.1.den.c]
     rw [hW2, hgr]
     clear hW2 hgr c cr0
     refine wp_region_noPanic ?_
     refine wp_region_held_drew (S := (fun W => CB gr #[.slice r.A r.ts.length r.c, .int .u8 r.kind, .bool r.b.1.num.neg, .slice r.b.1.num.A r.b.1.num.k r.b.1.num.c, .bool r.b.1.den.neg, .slice r.b.1.den.A r.b.1.den.k r.b.1.den.c] W)) (by kernel_rfl) (by first | with_reducible exact (Blk.cb HG.out.n.1) | with_reducible exact (Blk.cb HG.out.drew.n.1) | with_reducible exact (Blk.cb HG.out.n.2.1) | with_reducible exact (Blk.cb HG.out.drew.n.2.1) | with_reducible exact (Blk.cb HG.out.n.2.2.1) | with_reducible exact (Blk.cb HG.out.drew.n.2.2.1) | with_reducible exact (Blk.cb HG.out.n.2.2.2.1) | with_reducible exact (Blk.cb HG.out.drew.n.2.2.2.1) | with_reducible exact (Blk.cb HG.out.n.2.2.2.2.1) | with_reducible exact (Blk.cb HG.out.drew.n.2.2.2.2.1)) (fun hHeld => ?_)
     replace HG := Lib.hid HG.out.drew
     refine held_take (i := 0) (v := ?_) (some 58) rfl rfl (by kernel_rfl) (by kernel_rfl) (by kernel_rfl) (fun _ _ _ h => h) (Or.inl ⟨by rfl, ?_⟩) hHeld ?_
     rotate_left 1
     ·intro w hSw
      (try dsimp only at hSw)
      (first | (go_simp; done) | (go_simp; with_reducible rfl))
     (try simp only [Act.put, List.setIfInBounds_toArray, List.set_cons_zero, List.set_cons_succ])
     refine held_take (i := 1) (v := ?_) (some 59) rfl rfl (by kernel_rfl) (by kernel_rfl) (by kernel_rfl) (fun _ _ _ h => h) (Or.inl ⟨by rfl, ?_⟩) hHeld ?_
     rotate_left 1
     ·intro w hSw
      (try dsimp only at hSw)
      (first | (go_simp; done) | (go_simp; with_reducible rfl))
     (try simp only [Act.put, List.setIfInBounds_toArray, List.set_cons_zero, List.set_cons_succ])
     refine held_take (i := 2) (v := ?_) (some 60) rfl rfl (by kernel_rfl) (by kernel_rfl) (by kernel_rfl) (fun _ _ _ h => h) (Or.inl ⟨by rfl, ?_⟩) hHeld ?_
     rotate_left 1
     ·intro w hSw
      (try dsimp only at hSw)
      (first | (go_simp; done) | (go_simp; with_reducible rfl))
     (try simp only [Act.put, List.setIfInBounds_toArray, List.set_cons_zero, List.set_cons_succ])
     refine held_take (i := 3) (v := ?_) (some 61) rfl rfl (by kernel_rfl) (by kernel_rfl) (by kernel_rfl) (fun _ _ _ h => h) (Or.inl ⟨by rfl, ?_⟩) hHeld ?_
     rotate_left 1
     ·intro w hSw
      (try dsimp only at hSw)
      (first | (go_simp; done) | (go_simp; with_reducible rfl))
     (try simp only [Act.put, List.setIfInBounds_toArray, List.set_cons_zero, List.set_cons_succ])
     refine held_take (i := 4) (v := ?_) (some 62) rfl rfl (by kernel_rfl) (by kernel_rfl) (by kernel_rfl) (fun _ _ _ h => h) (Or.inl ⟨by rfl, ?_⟩) hHeld ?_
     rotate_left 1
     ·intro w hSw
      (try dsimp only at hSw)
      (first | (go_simp; done) | (go_simp; with_reducible rfl))
     (try simp only [Act.put, List.setIfInBounds_toArray, List.set_cons_zero, List.set_cons_succ])
     refine held_take (i := 5) (v := ?_) (some 63) rfl rfl (by kernel_rfl) (by kernel_rfl) (by kernel_rfl) (fun _ _ _ h => h) (Or.inl ⟨by rfl, ?_⟩) hHeld ?_
     rotate_left 1
     ·intro w hSw
      (try dsimp only at hSw)
      (first | (go_simp; done) | (go_simp; with_reducible rfl))
     (try simp only [Act.put, List.setIfInBounds_toArray, List.set_cons_zero, List.set_cons_succ])
     refine held_call (i := 6) rfl (by kernel_rfl) (by rfl) (fun K hK => ?_)
     clear hHeld
     simp only [List.getElem_toArray, List.getElem_cons_succ, List.getElem_cons_zero]
     go_simp
     refine (of_any _ 4 (by decide) (by decide) Ax cx xs ((HX4.out.old roD_old).below HG.out.bel).now hx20 HG.out.o.2.2.2.2.2.2.2).mono ?_
     rintro e wq ⟨Aq, cq, qs, rfl, hcq, hqs, hk, hb⟩
     have Hqs := Lib.hid (show qs.map plq = vecL xs from hqs)
     have HSq := Lib.hid (show ∀ t ∈ qs, Sz t.q 4 from vecL_sz hqs fun q hq => RatD.sz (HX4.out.ok q hq) (by decide))
     replace HG := Lib.hid (HG.out.call hk hb)
     clear hk hb hqs hcq
     (try (go_wp2_with fail))
     refine hK.out _ _ (by first | with_reducible exact (Blk.cb HG.out.n.1) | with_reducible exact (Blk.cb HG.out.drew.n.1) | with_reducible exact (Blk.cb HG.out.n.2.1) | with_reducible exact (Blk.cb HG.out.drew.n.2.1) | with_reducible exact (Blk.cb HG.out.n.2.2.1) | with_reducible exact (Blk.cb HG.out.drew.n.2.2.1) | with_reducible exact (Blk.cb HG.out.n.2.2.2.1) | with_reducible exact (Blk.cb HG.out.drew.n.2.2.2.1) | with_reducible exact (Blk.cb HG.out.n.2.2.2.2.1) | with_reducible exact (Blk.cb HG.out.drew.n.2.2.2.2.1)) (fun hHeld => ?_)
     clear hK K
     (try simp only [Act.put, List.setIfInBounds_toArray, List.set_cons_zero, List.set_cons_succ])
     refine held_call (i := 7) rfl (by kernel_rfl) (by rfl) (fun K hK => ?_)
     clear hHeld
     simp only [List.getElem_toArray, List.getElem_cons_succ, List.getElem_cons_zero]
     go_simp
     refine (dot_rise _ 4 (by decide) (by decide) r.A Aq r.c cq r.ts qs ((HPE.out.old.below HG.out.bel).now.rows.ok r Hm.out).1 (HG.out.n.1.imp fun t ht hn => RatN.rat hn (HSq.out t ht)) (Hrw.out r Hm.out).1 (vecL_of Hqs.out) (by have := (Hrw.out r Hm.out).2.1; omega) (by have := vecL_len Hqs.out; omega) HG.out.o.2.2.2.2.2.2.2).mono ?_
     rintro e wq ⟨q1, rfl, hk, hb⟩
     have HZd := Lib.hid (show Sz (dotQ (r.ts.map plq) (qs.map plq)) 201 from (dotQ_sz (vecL_of Hqs.out) (by decide) HSq.out r.ts (fun t ht => Hps.out.ts r Hm.out t ht)).up (by have := Nat.mul_le_mul_right (2 * 4 + 2) (Hrw.out r Hm.out).2.1; omega))
     replace HG := Lib.hid (HG.out.call hk hb)
     clear hk hb
     (try (go_wp2_with fail))
     refine hK.out _ _ (by first | with_reducible exact (Blk.cb HG.out.n.1) | with_reducible exact (Blk.cb HG.out.drew.n.1) | with_reducible exact (Blk.cb HG.out.n.2.1) | with_reducible exact (Blk.cb HG.out.drew.n.2.1) | with_reducible exact (Blk.cb HG.out.n.2.2.1) | with_reducible exact (Blk.cb HG.out.drew.n.2.2.1) | with_reducible exact (Blk.cb HG.out.n.2.2.2.1) | with_reducible exact (Blk.cb HG.out.drew.n.2.2.2.1) | with_reducible exact (Blk.cb HG.out.n.2.2.2.2.1) | with_reducible exact (Blk.cb HG.out.drew.n.2.2.2.2.1)) (fun hHeld => ?_)
     clear hK K
     (try simp only [Act.put, List.setIfInBounds_toArray, List.set_cons_zero, List.set_cons_succ])
     refine held_call (i := 8) rfl (by kernel_rfl) (by rfl) (fun K hK => ?_)
     clear hHeld
     simp only [List.getElem_toArray, List.getElem_cons_succ, List.getElem_cons_zero]
     go_simp
     refine (rsub_any _ r.b.1 q1 r.b.2 (dotQ (r.ts.map plq) (qs.map plq)) N (by omega) (by omega) ((HPE.out.old.below HG.out.bel).now.rows.ok r Hm.out).2 (RatN.rat HG.out.n.1 (HZd.out.up (by omega))) HG.out.o.2.2.2.2.2.2.2).mono ?_
     rintro e wq ⟨q2, rfl, hk, hb⟩
     have HZs := Lib.hid (show Sz (r.b.2 - dotQ (r.ts.map plq) (qs.map plq)) 206 from ((Hps.out.b r Hm.out).sub HZd.out).up (by decide))
     replace HG := Lib.hid (HG.out.call hk hb)
     clear hk hb
     (try (go_wp2_with fail))
     refine hK.out _ _ (by first | with_reducible exact (Blk.cb HG.out.n.1) | with_reducible exact (Blk.cb HG.out.drew.n.1) | with_reducible exact (Blk.cb HG.out.n.2.1) | with_reducible exact (Blk.cb HG.out.drew.n.2.1) | with_reducible exact (Blk.cb HG.out.n.2.2.1) | with_reducible exact (Blk.cb HG.out.drew.n.2.2.1) | with_reducible exact (Blk.cb HG.out.n.2.2.2.1) | with_reducible exact (Blk.cb HG.out.drew.n.2.2.2.1) | with_reducible exact (Blk.cb HG.out.n.2.2.2.2.1) | with_reducible exact (Blk.cb HG.out.drew.n.2.2.2.2.1)) (fun hHeld => ?_)
     clear hK K
     (try simp only [Act.put, List.setIfInBounds_toArray, List.set_cons_zero, List.set_cons_succ])
     refine held_call (i := 9) rfl (by kernel_rfl) (by rfl) (fun K hK => ?_)
     clear hHeld
     simp only [List.getElem_toArray, List.getElem_cons_succ, List.getElem_cons_zero]
     go_simp
     (try (go_wp2_with fail))
     obtain ⟨W4, gb, hW4, hgb, HG⟩ := HG.out.al 33 #[.bool q2.num.neg, .slice q2.num.A q2.num.k q2.num.c, .bool q2.den.neg, .slice q2.den.A q2.den.k q2.den.c]
     rw [hW4, hgb]
     clear hW4 hgb
     (try (go_wp2_with fail))
     refine hK.out _ _ (by first | with_reducible exact (Blk.cb HG.out.n.1) | with_reducible exact (Blk.cb HG.out.drew.n.1) | with_reducible exact (Blk.cb HG.out.n.2.1) | with_reducible exact (Blk.cb HG.out.drew.n.2.1) | with_reducible exact (Blk.cb HG.out.n.2.2.1) | with_reducible exact (Blk.cb HG.out.drew.n.2.2.1) | with_reducible exact (Blk.cb HG.out.n.2.2.2.1) | with_reducible exact (Blk.cb HG.out.drew.n.2.2.2.1) | with_reducible exact (Blk.cb HG.out.n.2.2.2.2.1) | with_reducible exact (Blk.cb HG.out.drew.n.2.2.2.2.1)) (fun hHeld => ?_)
     clear hK K
     (try simp only [Act.put, List.setIfInBounds_toArray, List.set_cons_zero, List.set_cons_succ])
     obtain ⟨A2, c2, W5, hrun, HG2⟩ := HG.out.appF (k := 0) (l := l) rfl (q2, r.b.2 - dotQ (r.ts.map plq) (qs.map plq)) HG.out.n.1 hll
     refine held_call (i := 10) rfl (by kernel_rfl) (by rfl) (fun K hK => ?_)
     clear hHeld
     simp only [List.getElem_toArray, List.getElem_cons_succ, List.getElem_cons_zero]
     refine oper_app9 (.tmp 58) (.tmp 67) 23 _ _ _ rfl rfl rfl hrun ?_
     clear hrun
     replace HG := Lib.hid HG2
     clear HG2
     refine hK.out _ _ (by first | with_reducible exact (Blk.cb HG.out.n.1) | with_reducible exact (Blk.cb HG.out.drew.n.1) | with_reducible exact (Blk.cb HG.out.n.2.1) | with_reducible exact (Blk.cb HG.out.drew.n.2.1) | with_reducible exact (Blk.cb HG.out.n.2.2.1) | with_reducible exact (Blk.cb HG.out.drew.n.2.2.1) | with_reducible exact (Blk.cb HG.out.n.2.2.2.1) | with_reducible exact (Blk.cb HG.out.drew.n.2.2.2.1) | with_reducible exact (Blk.cb HG.out.n.2.2.2.2.1) | with_reducible exact (Blk.cb HG.out.drew.n.2.2.2.2.1)) (fun hHeld => ?_)
     clear hK K
     (try simp only [Act.put, List.setIfInBounds_toArray, List.set_cons_zero, List.set_cons_succ])
     refine held_take (i := 11) (v := ?_) (some 11) rfl rfl (by kernel_rfl) (by kernel_rfl) (by kernel_rfl) (fun _ _ _ h => h) (Or.inl ⟨by rfl, ?_⟩) hHeld ?_
     rotate_left 1
     ·intro w hSw
      (try dsimp only at hSw)
      (first | (go_simp; done) | (go_simp; with_reducible rfl))
     (try simp only [Act.put, List.setIfInBounds_toArray, List.set_cons_zero, List.set_cons_succ])
     clear hHeld
     refine wpAnyH_done (by kernel_rfl) ?_ _
     refine NoPanic.normal ?_
     go_wp2_with fail
     go_roundw
     case rel => exact ⟨A2, c2, i + 1, ss ++ [(q2, r.b.2 - dotQ (r.ts.map plq) (qs.map plq))], by simp [Hl.out, Nat.add_assoc], by go_num, by omega, Lib.hid ⟨by rw [List.length_append, Hsl.out]; rfl, fun a ha => by
      by_cases e9 : a < i
      ·rw [at_left (by have := Hsl.out; omega)]; exact HI.out.2.1 a e9
      ·obtain rfl : a = i := by omega
       have h9 := at_right (l := ss) (k := [(q2, r.b.2 - dotQ (r.ts.map plq) (qs.map plq))]) (i := 0) (by simp)
       rw [Nat.add_zero, Hsl.out] at h9
       rw [h9, Hro.out, ← Hqs.out]; rfl,
      fun q hq => (List.mem_append.1 hq).elim (fun hq => HI.out.2.2 q hq) (fun hq => by rw [List.mem_singleton.1 hq]; exact HZs.out)⟩, Lib.hid (show GL w [⟨33, 4, .slice A2 (xs ++ (ss ++ [(q2, r.b.2 - dotQ (r.ts.map plq) (qs.map plq))])).length c2, (xs ++ (ss ++ [(q2, r.b.2 - dotQ (r.ts.map plq) (qs.map plq))])).map rtcells⟩] _ _ _ from by
      rw [← List.append_assoc, ← Hl.out]
      exact HG.out.imp (fun V h => h) (fun V h => ⟨h.2.2.2.2.2.1, fun q hq => (List.mem_append.1 hq).elim (fun hq => h.2.2.2.2.2.2 q hq) (fun hq => by rw [List.mem_singleton.1 hq]; exact h.2.1)⟩))⟩
     case measure => (simp [intOf] <;> omega)
    ·obtain rfl : i = p.rows.length := by omega
     have c := Blk.cb HG.out.o.1
     have hFD := HG.out.n.1.1.foA.cut Hgr.out
     have hP := HG.out.n.1.2
     obtain ⟨hF, hC⟩ := holds_plain hP HR.out HB.out HI.out.1 (fun a ha => HI.out.2.1 a ha)
     have hfull : LsR 4 rtcells (roD 300) Af (xs ++ ss) wr := ⟨(HG.out.els (k := 0) rfl).now, fun q hq => (List.mem_append.1 hq).elim (fun hq => RatD.mono (((HX4.out.old roD_old).below HG.out.bel).now.ok q hq) (by decide)) (fun hq => RatN.rat (HG.out.n.2 q hq) ((HI.out.2.2 q hq).up (by decide)))⟩
     have hFD3 := hFD.mono (show 4 ≤ 300 by decide)
     obtain ⟨Q0, hQ0, hz0, hl0⟩ := prices_law (cx := cf) (by decide) (by decide) hFD3 Hs.out hfull hF (rats_mono ((HY0.out.old roD_old).below HG.out.bel).now (show 4 ≤ 300 by decide)) hyl0 hc0 hC
     obtain ⟨Q1, hQ1, hz1, hl1⟩ := prices_law (cx := cf) (by decide) (by decide) hFD3 Hs.out hfull hF (rats_mono ((HY1.out.old roD_old).below HG.out.bel).now (show 4 ≤ 300 by decide)) hyl1 hc1 hC
     have HFE := Lib.hid (hFD3.feas (cx := cf) (by decide) (by decide) Hs.out hfull hF)
     have HL0 := Lib.hid hl0
     have HL1 := Lib.hid hl1
     have HZ0 := Lib.hid hz0
     have HZ1 := Lib.hid hz1
     have HQ0 := Lib.hid (cmp_false hQ0)
     have HQ1 := Lib.hid (cmp_false hQ1)
     have HZC := Lib.hid (show Sz (dotQ (p.cost.map plq) (vecL xs)) 10000000 from by
      obtain ⟨ps, hps⟩ : ∃ ps : List TeV, ps.map plq = vecL xs := ⟨(ofT xs).filter nzT, filter_plq _⟩
      rw [← hps]
      exact (dotQ_sz (vecL_of hps) (by decide) (vecL_sz hps fun q hq => RatD.sz (HX4.out.ok q hq) (by decide)) p.cost (fun t ht => Hps.out.cost t ht)).up (by have := Nat.mul_le_mul_right (2 * 4 + 2) hck2; omega))
     have HE := Lib.hid (show Env wr [] (fun V => Blk V (w.heap.size) 42 #[.slice p.Av p.vars.length p.cv, .slice p.Ar p.rows.length p.cr, .slice p.Ak p.cost.length p.ck] ∧ Blk V (w.heap.size + 1) 43 #[.slice A0 y0.length c0, .slice A1 y1.length c1] ∧ Blk V gf 25 #[.int .i64 f.M, .slice f.Ac f.cols.length f.cc, .slice f.Al f.lo.length f.cl, .slice f.Ah f.hi.length f.ch, .slice f.Ak f.cost.length f.ck, .slice f.Ab f.b.length f.cb] ∧ LsR 4 rtcells (roD 4) Ax xs V ∧ LsR 5 tecells (teD 4) p.Ak p.cost V ∧ Tz V) (fun _ => True) wr from Env.start (HG.out.o.1.old.and (HG.out.o.2.1.old.and (HG.out.o.2.2.1.old.and ((((HX4.out.old roD_old).below HG.out.bel).now.old roD_old).and ((((HCE.out.old teD_old).below HG.out.bel).now.old teD_old).and HG.out.o.2.2.2.2.2.2.2.old))))))
     have HBl := Lib.hid HG.out.bel
     have Hrise := Lib.hid HR.out.cost.rise
     obtain ⟨C, hCC⟩ : ∃ C, C = dotQ (p.cost.map plq) (vecL xs) := ⟨_, rfl⟩
     rw [← hCC] at HL0 HL1 HQ0 HQ1 HZC
     have HCC := Lib.hid hCC
     obtain ⟨nf, hnf⟩ : ∃ nf, nf = (xs ++ ss).length := ⟨_, rfl⟩
     rw [← hnf] at HL0 HL1 HFE ⊢
     clear hFD hP hF hC hfull hFD3 hQ0 hz0 hl0 hQ1 hz1 hl1 HG HI hCC hnf
     replace c := Blk.cb HE.out.o.1
     go_wp2_with fail
     refine (value_any _ 4 (by decide) (by decide) p HE.out.o.2.2.2.2.1 Hrise.out hck2 Ax cx xs HE.out.o.2.2.2.1 hx20 HE.out.o.2.2.2.2.2).mono ?_
     rintro e w7 ⟨kc, rfl, hk, hb⟩
     rw [← HCC.out] at hk
     replace HE := Lib.hid (Env.ret HE.out hk hb)
     clear hk hb c
     have c := Blk.cb HE.out.o.2.1
     go_upto_region 14 with fail
     obtain ⟨W8, gc, hW8, hgc, HE⟩ := Env.al HE.out 33 #[.bool kc.num.neg, .slice kc.num.A kc.num.k kc.num.c, .bool kc.den.neg, .slice kc.den.A kc.den.k kc.den.c]
     rw [hW8, hgc]
     clear hW8 hgc c
     have c := Blk.cb HE.out.o.2.1
     go_wp2_with fail
     clear c
     go_loopw [74] (fun iv wx => ∃ i : Nat, iv = .int .i64 (i : Int) ∧ i ≤ 2 ∧ Hid (Env wr [⟨gc, 33, #[.bool kc.num.neg, .slice kc.num.A kc.num.k kc.num.c, .bool kc.den.neg, .slice kc.den.A kc.den.k kc.den.c]⟩] (fun V => Blk V (w.heap.size) 42 #[.slice p.Av p.vars.length p.cv, .slice p.Ar p.rows.length p.cr, .slice p.Ak p.cost.length p.ck] ∧ Blk V (w.heap.size + 1) 43 #[.slice A0 y0.length c0, .slice A1 y1.length c1] ∧ Blk V gf 25 #[.int .i64 f.M, .slice f.Ac f.cols.length f.cc, .slice f.Al f.lo.length f.cl, .slice f.Ah f.hi.length f.ch, .slice f.Ak f.cost.length f.ck, .slice f.Ab f.b.length f.cb] ∧ LsR 4 rtcells (roD 4) Ax xs V ∧ LsR 5 tecells (teD 4) p.Ak p.cost V ∧ Tz V) (fun V => RatN kc C V ∧ True) wx)) (fun iv _ => 2 - (intOf iv).toNat)
     case atStart => exact ⟨0, rfl, Nat.zero_le _, HE⟩
     case round =>
      clear HE
      obtain ⟨i, rfl, hi2, HE⟩ := hrel
      by_cases hlt2 : i < 2
      ·have hi0 := idx_y0 A0 A1 y0.length c0 y1.length c1
       have hi1 := idx_y1 A0 A1 y0.length c0 y1.length c1
       rcases (show i = 0 ∨ i = 1 by omega) with rfl | rfl
       ·go_upto_region 17 with fail
        refine wp_region_noPanic ?_
        refine wp_region_held_drew (S := (fun W => CB gf #[.int .i64 f.M, .slice f.Ac f.cols.length f.cc, .slice f.Al f.lo.length f.cl, .slice f.Ah f.hi.length f.ch, .slice f.Ak f.cost.length f.ck, .slice f.Ab f.b.length f.cb] W ∧ CB gc #[.bool kc.num.neg, .slice kc.num.A kc.num.k kc.num.c, .bool kc.den.neg, .slice kc.den.A kc.den.k kc.den.c] W)) (by kernel_rfl) (by first | with_reducible exact ⟨Blk.cb HE.out.o.2.2.1, Env.c1 HE.out⟩ | with_reducible exact ⟨Blk.cb HE.out.drew.o.2.2.1, Env.c1 HE.out.drew⟩) (fun hHeld => ?_)
        replace HE := Lib.hid HE.out.drew
        refine held_take (i := 0) (v := ?_) (some 77) rfl rfl (by kernel_rfl) (by kernel_rfl) (by kernel_rfl) (fun _ _ _ h => h) (Or.inl ⟨by rfl, ?_⟩) hHeld ?_
        rotate_left 1
        ·intro w hSw
         (try dsimp only at hSw)
         (first | (go_simp; done) | (go_simp; with_reducible rfl))
        (try simp only [Act.put, List.setIfInBounds_toArray, List.set_cons_zero, List.set_cons_succ])
        refine held_take (i := 1) (v := ?_) (some 78) rfl rfl (by kernel_rfl) (by kernel_rfl) (by kernel_rfl) (fun _ _ _ h => h) (Or.inl ⟨by rfl, ?_⟩) hHeld ?_
        rotate_left 1
        ·intro w hSw
         (try dsimp only at hSw)
         (first | (go_simp; done) | (go_simp; with_reducible rfl))
        (try simp only [Act.put, List.setIfInBounds_toArray, List.set_cons_zero, List.set_cons_succ])
        refine held_call (i := 2) rfl (by kernel_rfl) (by rfl) (fun K hK => ?_)
        clear hHeld
        simp only [List.getElem_toArray, List.getElem_cons_succ, List.getElem_cons_zero]
        go_simp
        refine (HFE.out _ HE.out.bel HE.out.o.2.2.2.2.2).mono ?_
        rintro e w3 ⟨rfl, hb⟩
        replace HE := Lib.hid (Env.call HE.out hb)
        clear hb
        (try (go_wp2_with fail))
        refine hK.out _ _ (by first | with_reducible exact ⟨Blk.cb HE.out.o.2.2.1, Env.c1 HE.out⟩ | with_reducible exact ⟨Blk.cb HE.out.drew.o.2.2.1, Env.c1 HE.out.drew⟩) (fun hHeld => ?_)
        clear hK K
        (try simp only [Act.put, List.setIfInBounds_toArray, List.set_cons_zero, List.set_cons_succ])
        refine held_take (i := 3) (v := ?_) (some 80) rfl rfl (by kernel_rfl) (by kernel_rfl) (by kernel_rfl) (fun _ _ _ h => h) (Or.inl ⟨by rfl, ?_⟩) hHeld ?_
        rotate_left 1
        ·intro w hSw
         (try dsimp only at hSw)
         (first | (go_simp; done) | (go_simp; with_reducible rfl))
        (try simp only [Act.put, List.setIfInBounds_toArray, List.set_cons_zero, List.set_cons_succ])
        refine held_take (i := 4) (v := ?_) (some 81) rfl rfl (by kernel_rfl) (by kernel_rfl) (by kernel_rfl) (fun _ _ _ h => h) (Or.inl ⟨by rfl, ?_⟩) hHeld ?_
        rotate_left 1
        ·intro w hSw
         (try dsimp only at hSw)
         (first | (go_simp; done) | (go_simp; with_reducible rfl))
        (try simp only [Act.put, List.setIfInBounds_toArray, List.set_cons_zero, List.set_cons_succ])
        refine held_take (i := 5) (v := ?_) (some 82) rfl rfl (by kernel_rfl) (by kernel_rfl) (by kernel_rfl) (fun _ _ _ h => h) (Or.inl ⟨by rfl, ?_⟩) hHeld ?_
        rotate_left 1
        ·intro w hSw
         (try dsimp only at hSw)
         (first | (go_simp; done) | (go_simp; with_reducible rfl))
        (try simp only [Act.put, List.setIfInBounds_toArray, List.set_cons_zero, List.set_cons_succ])
        refine held_take (i := 6) (v := ?_) (some 83) rfl rfl (by kernel_rfl) (by kernel_rfl) (by kernel_rfl) (fun _ _ _ h => h) (Or.inl ⟨by rfl, ?_⟩) hHeld ?_
        rotate_left 1
        ·intro w hSw
         (try dsimp only at hSw)
         (first | (go_simp; done) | (go_simp; with_reducible rfl))
        (try simp only [Act.put, List.setIfInBounds_toArray, List.set_cons_zero, List.set_cons_succ])
        refine held_take (i := 8) (v := ?_) (some 85) rfl rfl (by kernel_rfl) (by kernel_rfl) (by kernel_rfl) (fun _ _ _ h => h) (Or.inl ⟨by rfl, ?_⟩) hHeld ?_
        rotate_left 1
        ·intro w hSw
         (try dsimp only at hSw)
         (first | (go_simp; done) | (go_simp; with_reducible rfl))
        (try simp only [Act.put, List.setIfInBounds_toArray, List.set_cons_zero, List.set_cons_succ])
        refine held_call (i := 7) rfl (by kernel_rfl) (by rfl) (fun K hK => ?_)
        clear hHeld
        simp only [List.getElem_toArray, List.getElem_cons_succ, List.getElem_cons_zero]
        go_simp
        refine ((HL0.out _ HE.out.bel HE.out.o.2.2.2.2.2).1).mono ?_
        rintro e w3 ⟨kb, rfl, hk, hb⟩
        replace HE := Lib.hid (Env.ret HE.out hk hb)
        clear hk hb
        (try (go_wp2_with fail))
        refine hK.out _ _ (by first | with_reducible exact ⟨Blk.cb HE.out.o.2.2.1, Env.c1 HE.out⟩ | with_reducible exact ⟨Blk.cb HE.out.drew.o.2.2.1, Env.c1 HE.out.drew⟩) (fun hHeld => ?_)
        clear hK K
        (try simp only [Act.put, List.setIfInBounds_toArray, List.set_cons_zero, List.set_cons_succ])
        refine held_call (i := 9) rfl (by kernel_rfl) (by rfl) (fun K hK => ?_)
        clear hHeld
        simp only [List.getElem_toArray, List.getElem_cons_succ, List.getElem_cons_zero]
        go_simp
        refine (rcmp_any _ kb kc Q0 C 10000000 (by decide) (by decide) (RatN.rat HE.out.n.1 HZ0.out) (RatN.rat HE.out.n.2.1 HZC.out)).mono ?_
        rintro e w3 ⟨rfl, hb⟩
        replace HE := Lib.hid (Env.call HE.out hb)
        clear hb
        (try (go_wp2_with fail))
        refine hK.out _ _ (by first | with_reducible exact ⟨Blk.cb HE.out.o.2.2.1, Env.c1 HE.out⟩ | with_reducible exact ⟨Blk.cb HE.out.drew.o.2.2.1, Env.c1 HE.out.drew⟩) (fun hHeld => ?_)
        clear hK K
        (try simp only [Act.put, List.setIfInBounds_toArray, List.set_cons_zero, List.set_cons_succ])
        have hq9 := HQ0.out
        refine held_take (i := 10) (v := ?_) (some 87) rfl rfl (by kernel_rfl) (by kernel_rfl) (by kernel_rfl) (fun _ _ _ h => h) (Or.inl ⟨by rfl, ?_⟩) hHeld ?_
        rotate_left 1
        ·intro w hSw
         (try dsimp only at hSw)
         (first | (go_simp; done) | (go_simp; with_reducible rfl))
        (try simp only [Act.put, List.setIfInBounds_toArray, List.set_cons_zero, List.set_cons_succ])
        clear hq9
        refine held_take (i := 11) (v := ?_) (some 88) rfl rfl (by kernel_rfl) (by kernel_rfl) (by kernel_rfl) (fun _ _ _ h => h) (Or.inl ⟨by rfl, ?_⟩) hHeld ?_
        rotate_left 1
        ·intro w hSw
         (try dsimp only at hSw)
         (first | (go_simp; done) | (go_simp; with_reducible rfl))
        (try simp only [Act.put, List.setIfInBounds_toArray, List.set_cons_zero, List.set_cons_succ])
        refine held_take (i := 12) (v := ?_) (some 89) rfl rfl (by kernel_rfl) (by kernel_rfl) (by kernel_rfl) (fun _ _ _ h => h) (Or.inl ⟨by rfl, ?_⟩) hHeld ?_
        rotate_left 1
        ·intro w hSw
         (try dsimp only at hSw)
         (first | (go_simp; done) | (go_simp; with_reducible rfl))
        (try simp only [Act.put, List.setIfInBounds_toArray, List.set_cons_zero, List.set_cons_succ])
        refine held_take (i := 13) (v := ?_) (some 90) rfl rfl (by kernel_rfl) (by kernel_rfl) (by kernel_rfl) (fun _ _ _ h => h) (Or.inl ⟨by rfl, ?_⟩) hHeld ?_
        rotate_left 1
        ·intro w hSw
         (try dsimp only at hSw)
         (first | (go_simp; done) | (go_simp; with_reducible rfl))
        (try simp only [Act.put, List.setIfInBounds_toArray, List.set_cons_zero, List.set_cons_succ])
        refine held_take (i := 14) (v := ?_) (some 91) rfl rfl (by kernel_rfl) (by kernel_rfl) (by kernel_rfl) (fun _ _ _ h => h) (Or.inl ⟨by rfl, ?_⟩) hHeld ?_
        rotate_left 1
        ·intro w hSw
         (try dsimp only at hSw)
         (first | (go_simp; done) | (go_simp; with_reducible rfl))
        (try simp only [Act.put, List.setIfInBounds_toArray, List.set_cons_zero, List.set_cons_succ])
        refine held_call (i := 15) rfl (by kernel_rfl) (by rfl) (fun K hK => ?_)
        clear hHeld
        simp only [List.getElem_toArray, List.getElem_cons_succ, List.getElem_cons_zero]
        go_simp
        refine ((HL0.out _ HE.out.bel HE.out.o.2.2.2.2.2).2.1).mono ?_
        rintro e w3 ⟨rfl, hb⟩
        replace HE := Lib.hid (Env.call HE.out hb)
        clear hb
        (try (go_wp2_with fail))
        refine hK.out _ _ (by first | with_reducible exact ⟨Blk.cb HE.out.o.2.2.1, Env.c1 HE.out⟩ | with_reducible exact ⟨Blk.cb HE.out.drew.o.2.2.1, Env.c1 HE.out.drew⟩) (fun hHeld => ?_)
        clear hK K
        (try simp only [Act.put, List.setIfInBounds_toArray, List.set_cons_zero, List.set_cons_succ])
        refine held_take (i := 16) (v := ?_) (some 93) rfl rfl (by kernel_rfl) (by kernel_rfl) (by kernel_rfl) (fun _ _ _ h => h) (Or.inl ⟨by rfl, ?_⟩) hHeld ?_
        rotate_left 1
        ·intro w hSw
         (try dsimp only at hSw)
         (first | (go_simp; done) | (go_simp; with_reducible rfl))
        (try simp only [Act.put, List.setIfInBounds_toArray, List.set_cons_zero, List.set_cons_succ])
        clear hHeld
        refine wpAnyH_done (by kernel_rfl) ?_ _
        refine NoPanic.normal ?_
        go_upto_region 19 with fail
        refine wp_region_noPanic ?_
        refine wp_region_held_drew (S := (fun W => CB gf #[.int .i64 f.M, .slice f.Ac f.cols.length f.cc, .slice f.Al f.lo.length f.cl, .slice f.Ah f.hi.length f.ch, .slice f.Ak f.cost.length f.ck, .slice f.Ab f.b.length f.cb] W ∧ CB gc #[.bool kc.num.neg, .slice kc.num.A kc.num.k kc.num.c, .bool kc.den.neg, .slice kc.den.A kc.den.k kc.den.c] W)) (by kernel_rfl) (by first | with_reducible exact ⟨Blk.cb HE.out.o.2.2.1, Env.c1 HE.out⟩ | with_reducible exact ⟨Blk.cb HE.out.drew.o.2.2.1, Env.c1 HE.out.drew⟩) (fun hHeld => ?_)
        replace HE := Lib.hid HE.out.drew
        refine held_take (i := 0) (v := ?_) (some 94) rfl rfl (by kernel_rfl) (by kernel_rfl) (by kernel_rfl) (fun _ _ _ h => h) (Or.inl ⟨by rfl, ?_⟩) hHeld ?_
        rotate_left 1
        ·intro w hSw
         (try dsimp only at hSw)
         (first | (go_simp; done) | (go_simp; with_reducible rfl))
        (try simp only [Act.put, List.setIfInBounds_toArray, List.set_cons_zero, List.set_cons_succ])
        refine held_take (i := 1) (v := ?_) (some 95) rfl rfl (by kernel_rfl) (by kernel_rfl) (by kernel_rfl) (fun _ _ _ h => h) (Or.inl ⟨by rfl, ?_⟩) hHeld ?_
        rotate_left 1
        ·intro w hSw
         (try dsimp only at hSw)
         (first | (go_simp; done) | (go_simp; with_reducible rfl))
        (try simp only [Act.put, List.setIfInBounds_toArray, List.set_cons_zero, List.set_cons_succ])
        refine held_take (i := 2) (v := ?_) (some 96) rfl rfl (by kernel_rfl) (by kernel_rfl) (by kernel_rfl) (fun _ _ _ h => h) (Or.inl ⟨by rfl, ?_⟩) hHeld ?_
        rotate_left 1
        ·intro w hSw
         (try dsimp only at hSw)
         (first | (go_simp; done) | (go_simp; with_reducible rfl))
        (try simp only [Act.put, List.setIfInBounds_toArray, List.set_cons_zero, List.set_cons_succ])
        refine held_take (i := 4) (v := ?_) (some 98) rfl rfl (by kernel_rfl) (by kernel_rfl) (by kernel_rfl) (fun _ _ _ h => h) (Or.inl ⟨by rfl, ?_⟩) hHeld ?_
        rotate_left 1
        ·intro w hSw
         (try dsimp only at hSw)
         (first | (go_simp; done) | (go_simp; with_reducible rfl))
        (try simp only [Act.put, List.setIfInBounds_toArray, List.set_cons_zero, List.set_cons_succ])
        refine held_take (i := 5) (v := ?_) (some 99) rfl rfl (by kernel_rfl) (by kernel_rfl) (by kernel_rfl) (fun _ _ _ h => h) (Or.inl ⟨by rfl, ?_⟩) hHeld ?_
        rotate_left 1
        ·intro w hSw
         (try dsimp only at hSw)
         (first | (go_simp; done) | (go_simp; with_reducible rfl))
        (try simp only [Act.put, List.setIfInBounds_toArray, List.set_cons_zero, List.set_cons_succ])
        refine held_take (i := 7) (v := ?_) (some 101) rfl rfl (by kernel_rfl) (by kernel_rfl) (by kernel_rfl) (fun _ _ _ h => h) (Or.inl ⟨by rfl, ?_⟩) hHeld ?_
        rotate_left 1
        ·intro w hSw
         (try dsimp only at hSw)
         (first | (go_simp; done) | (go_simp; with_reducible rfl))
        (try simp only [Act.put, List.setIfInBounds_toArray, List.set_cons_zero, List.set_cons_succ])
        refine held_call (i := 3) rfl (by kernel_rfl) (by rfl) (fun K hK => ?_)
        clear hHeld
        simp only [List.getElem_toArray, List.getElem_cons_succ, List.getElem_cons_zero]
        go_simp
        refine ((HL0.out _ HE.out.bel HE.out.o.2.2.2.2.2).2.2).mono ?_
        rintro e w3 ⟨rfl, hb⟩
        replace HE := Lib.hid (Env.call HE.out hb)
        clear hb
        (try (go_wp2_with fail))
        refine hK.out _ _ (by first | with_reducible exact ⟨Blk.cb HE.out.o.2.2.1, Env.c1 HE.out⟩ | with_reducible exact ⟨Blk.cb HE.out.drew.o.2.2.1, Env.c1 HE.out.drew⟩) (fun hHeld => ?_)
        clear hK K
        (try simp only [Act.put, List.setIfInBounds_toArray, List.set_cons_zero, List.set_cons_succ])
        refine held_call (i := 6) rfl (by kernel_rfl) (by rfl) (fun K hK => ?_)
        clear hHeld
        simp only [List.getElem_toArray, List.getElem_cons_succ, List.getElem_cons_zero]
        go_simp
        refine ((HL0.out _ HE.out.bel HE.out.o.2.2.2.2.2).1).mono ?_
        rintro e w3 ⟨kd, rfl, hk, hb⟩
        replace HE := Lib.hid (Env.ret HE.out hk hb)
        clear hk hb
        (try (go_wp2_with fail))
        refine hK.out _ _ (by first | with_reducible exact ⟨Blk.cb HE.out.o.2.2.1, Env.c1 HE.out⟩ | with_reducible exact ⟨Blk.cb HE.out.drew.o.2.2.1, Env.c1 HE.out.drew⟩) (fun hHeld => ?_)
        clear hK K
        (try simp only [Act.put, List.setIfInBounds_toArray, List.set_cons_zero, List.set_cons_succ])
        refine held_call (i := 8) rfl (by kernel_rfl) (by rfl) (fun K hK => ?_)
        clear hHeld
        simp only [List.getElem_toArray, List.getElem_cons_succ, List.getElem_cons_zero]
        go_simp
        refine (rsame_any _ kd kc Q0 C 10000000 (by decide) (by decide) (RatN.rat HE.out.n.1 HZ0.out) (RatN.rat HE.out.n.2.2.1 HZC.out)).mono ?_
        rintro e w3 ⟨rfl, hb⟩
        replace HE := Lib.hid (Env.call HE.out hb)
        clear hb
        (try (go_wp2_with fail))
        refine hK.out _ _ (by first | with_reducible exact ⟨Blk.cb HE.out.o.2.2.1, Env.c1 HE.out⟩ | with_reducible exact ⟨Blk.cb HE.out.drew.o.2.2.1, Env.c1 HE.out.drew⟩) (fun hHeld => ?_)
        clear hK K
        (try simp only [Act.put, List.setIfInBounds_toArray, List.set_cons_zero, List.set_cons_succ])
        refine held_take (i := 9) (v := ?_) (some 103) rfl rfl (by kernel_rfl) (by kernel_rfl) (by kernel_rfl) (fun _ _ _ h => h) (Or.inl ⟨by rfl, ?_⟩) hHeld ?_
        rotate_left 1
        ·intro w hSw
         (try dsimp only at hSw)
         (first | (go_simp; done) | (go_simp; with_reducible rfl))
        (try simp only [Act.put, List.setIfInBounds_toArray, List.set_cons_zero, List.set_cons_succ])
        clear hHeld
        refine wpAnyH_done (by kernel_rfl) ?_ _
        refine NoPanic.normal ?_
        go_wp2_with fail
        go_roundw
        case rel => exact ⟨0 + 1, by go_num, by omega, Lib.hid (HE.out.imp (fun _ h => h) (fun _ h => h.2.2))⟩
        case measure => (simp [intOf] <;> omega)
       ·go_upto_region 17 with fail
        refine wp_region_noPanic ?_
        refine wp_region_held_drew (S := (fun W => CB gf #[.int .i64 f.M, .slice f.Ac f.cols.length f.cc, .slice f.Al f.lo.length f.cl, .slice f.Ah f.hi.length f.ch, .slice f.Ak f.cost.length f.ck, .slice f.Ab f.b.length f.cb] W ∧ CB gc #[.bool kc.num.neg, .slice kc.num.A kc.num.k kc.num.c, .bool kc.den.neg, .slice kc.den.A kc.den.k kc.den.c] W)) (by kernel_rfl) (by first | with_reducible exact ⟨Blk.cb HE.out.o.2.2.1, Env.c1 HE.out⟩ | with_reducible exact ⟨Blk.cb HE.out.drew.o.2.2.1, Env.c1 HE.out.drew⟩) (fun hHeld => ?_)
        replace HE := Lib.hid HE.out.drew
        refine held_take (i := 0) (v := ?_) (some 77) rfl rfl (by kernel_rfl) (by kernel_rfl) (by kernel_rfl) (fun _ _ _ h => h) (Or.inl ⟨by rfl, ?_⟩) hHeld ?_
        rotate_left 1
        ·intro w hSw
         (try dsimp only at hSw)
         (first | (go_simp; done) | (go_simp; with_reducible rfl))
        (try simp only [Act.put, List.setIfInBounds_toArray, List.set_cons_zero, List.set_cons_succ])
        refine held_take (i := 1) (v := ?_) (some 78) rfl rfl (by kernel_rfl) (by kernel_rfl) (by kernel_rfl) (fun _ _ _ h => h) (Or.inl ⟨by rfl, ?_⟩) hHeld ?_
        rotate_left 1
        ·intro w hSw
         (try dsimp only at hSw)
         (first | (go_simp; done) | (go_simp; with_reducible rfl))
        (try simp only [Act.put, List.setIfInBounds_toArray, List.set_cons_zero, List.set_cons_succ])
        refine held_call (i := 2) rfl (by kernel_rfl) (by rfl) (fun K hK => ?_)
        clear hHeld
        simp only [List.getElem_toArray, List.getElem_cons_succ, List.getElem_cons_zero]
        go_simp
        refine (HFE.out _ HE.out.bel HE.out.o.2.2.2.2.2).mono ?_
        rintro e w3 ⟨rfl, hb⟩
        replace HE := Lib.hid (Env.call HE.out hb)
        clear hb
        (try (go_wp2_with fail))
        refine hK.out _ _ (by first | with_reducible exact ⟨Blk.cb HE.out.o.2.2.1, Env.c1 HE.out⟩ | with_reducible exact ⟨Blk.cb HE.out.drew.o.2.2.1, Env.c1 HE.out.drew⟩) (fun hHeld => ?_)
        clear hK K
        (try simp only [Act.put, List.setIfInBounds_toArray, List.set_cons_zero, List.set_cons_succ])
        refine held_take (i := 3) (v := ?_) (some 80) rfl rfl (by kernel_rfl) (by kernel_rfl) (by kernel_rfl) (fun _ _ _ h => h) (Or.inl ⟨by rfl, ?_⟩) hHeld ?_
        rotate_left 1
        ·intro w hSw
         (try dsimp only at hSw)
         (first | (go_simp; done) | (go_simp; with_reducible rfl))
        (try simp only [Act.put, List.setIfInBounds_toArray, List.set_cons_zero, List.set_cons_succ])
        refine held_take (i := 4) (v := ?_) (some 81) rfl rfl (by kernel_rfl) (by kernel_rfl) (by kernel_rfl) (fun _ _ _ h => h) (Or.inl ⟨by rfl, ?_⟩) hHeld ?_
        rotate_left 1
        ·intro w hSw
         (try dsimp only at hSw)
         (first | (go_simp; done) | (go_simp; with_reducible rfl))
        (try simp only [Act.put, List.setIfInBounds_toArray, List.set_cons_zero, List.set_cons_succ])
        refine held_take (i := 5) (v := ?_) (some 82) rfl rfl (by kernel_rfl) (by kernel_rfl) (by kernel_rfl) (fun _ _ _ h => h) (Or.inl ⟨by rfl, ?_⟩) hHeld ?_
        rotate_left 1
        ·intro w hSw
         (try dsimp only at hSw)
         (first | (go_simp; done) | (go_simp; with_reducible rfl))
        (try simp only [Act.put, List.setIfInBounds_toArray, List.set_cons_zero, List.set_cons_succ])
        refine held_take (i := 6) (v := ?_) (some 83) rfl rfl (by kernel_rfl) (by kernel_rfl) (by kernel_rfl) (fun _ _ _ h => h) (Or.inl ⟨by rfl, ?_⟩) hHeld ?_
        rotate_left 1
        ·intro w hSw
         (try dsimp only at hSw)
         (first | (go_simp; done) | (go_simp; with_reducible rfl))
        (try simp only [Act.put, List.setIfInBounds_toArray, List.set_cons_zero, List.set_cons_succ])
        refine held_take (i := 8) (v := ?_) (some 85) rfl rfl (by kernel_rfl) (by kernel_rfl) (by kernel_rfl) (fun _ _ _ h => h) (Or.inl ⟨by rfl, ?_⟩) hHeld ?_
        rotate_left 1
        ·intro w hSw
         (try dsimp only at hSw)
         (first | (go_simp; done) | (go_simp; with_reducible rfl))
        (try simp only [Act.put, List.setIfInBounds_toArray, List.set_cons_zero, List.set_cons_succ])
        refine held_call (i := 7) rfl (by kernel_rfl) (by rfl) (fun K hK => ?_)
        clear hHeld
        simp only [List.getElem_toArray, List.getElem_cons_succ, List.getElem_cons_zero]
        go_simp
        refine ((HL1.out _ HE.out.bel HE.out.o.2.2.2.2.2).1).mono ?_
        rintro e w3 ⟨kb, rfl, hk, hb⟩
        replace HE := Lib.hid (Env.ret HE.out hk hb)
        clear hk hb
        (try (go_wp2_with fail))
        refine hK.out _ _ (by first | with_reducible exact ⟨Blk.cb HE.out.o.2.2.1, Env.c1 HE.out⟩ | with_reducible exact ⟨Blk.cb HE.out.drew.o.2.2.1, Env.c1 HE.out.drew⟩) (fun hHeld => ?_)
        clear hK K
        (try simp only [Act.put, List.setIfInBounds_toArray, List.set_cons_zero, List.set_cons_succ])
        refine held_call (i := 9) rfl (by kernel_rfl) (by rfl) (fun K hK => ?_)
        clear hHeld
        simp only [List.getElem_toArray, List.getElem_cons_succ, List.getElem_cons_zero]
        go_simp
        refine (rcmp_any _ kb kc Q1 C 10000000 (by decide) (by decide) (RatN.rat HE.out.n.1 HZ1.out) (RatN.rat HE.out.n.2.1 HZC.out)).mono ?_
        rintro e w3 ⟨rfl, hb⟩
        replace HE := Lib.hid (Env.call HE.out hb)
        clear hb
        (try (go_wp2_with fail))
        refine hK.out _ _ (by first | with_reducible exact ⟨Blk.cb HE.out.o.2.2.1, Env.c1 HE.out⟩ | with_reducible exact ⟨Blk.cb HE.out.drew.o.2.2.1, Env.c1 HE.out.drew⟩) (fun hHeld => ?_)
        clear hK K
        (try simp only [Act.put, List.setIfInBounds_toArray, List.set_cons_zero, List.set_cons_succ])
        have hq9 := HQ1.out
        refine held_take (i := 10) (v := ?_) (some 87) rfl rfl (by kernel_rfl) (by kernel_rfl) (by kernel_rfl) (fun _ _ _ h => h) (Or.inl ⟨by rfl, ?_⟩) hHeld ?_
        rotate_left 1
        ·intro w hSw
         (try dsimp only at hSw)
         (first | (go_simp; done) | (go_simp; with_reducible rfl))
        (try simp only [Act.put, List.setIfInBounds_toArray, List.set_cons_zero, List.set_cons_succ])
        clear hq9
        refine held_take (i := 11) (v := ?_) (some 88) rfl rfl (by kernel_rfl) (by kernel_rfl) (by kernel_rfl) (fun _ _ _ h => h) (Or.inl ⟨by rfl, ?_⟩) hHeld ?_
        rotate_left 1
        ·intro w hSw
         (try dsimp only at hSw)
         (first | (go_simp; done) | (go_simp; with_reducible rfl))
        (try simp only [Act.put, List.setIfInBounds_toArray, List.set_cons_zero, List.set_cons_succ])
        refine held_take (i := 12) (v := ?_) (some 89) rfl rfl (by kernel_rfl) (by kernel_rfl) (by kernel_rfl) (fun _ _ _ h => h) (Or.inl ⟨by rfl, ?_⟩) hHeld ?_
        rotate_left 1
        ·intro w hSw
         (try dsimp only at hSw)
         (first | (go_simp; done) | (go_simp; with_reducible rfl))
        (try simp only [Act.put, List.setIfInBounds_toArray, List.set_cons_zero, List.set_cons_succ])
        refine held_take (i := 13) (v := ?_) (some 90) rfl rfl (by kernel_rfl) (by kernel_rfl) (by kernel_rfl) (fun _ _ _ h => h) (Or.inl ⟨by rfl, ?_⟩) hHeld ?_
        rotate_left 1
        ·intro w hSw
         (try dsimp only at hSw)
         (first | (go_simp; done) | (go_simp; with_reducible rfl))
        (try simp only [Act.put, List.setIfInBounds_toArray, List.set_cons_zero, List.set_cons_succ])
        refine held_take (i := 14) (v := ?_) (some 91) rfl rfl (by kernel_rfl) (by kernel_rfl) (by kernel_rfl) (fun _ _ _ h => h) (Or.inl ⟨by rfl, ?_⟩) hHeld ?_
        rotate_left 1
        ·intro w hSw
         (try dsimp only at hSw)
         (first | (go_simp; done) | (go_simp; with_reducible rfl))
        (try simp only [Act.put, List.setIfInBounds_toArray, List.set_cons_zero, List.set_cons_succ])
        refine held_call (i := 15) rfl (by kernel_rfl) (by rfl) (fun K hK => ?_)
        clear hHeld
        simp only [List.getElem_toArray, List.getElem_cons_succ, List.getElem_cons_zero]
        go_simp
        refine ((HL1.out _ HE.out.bel HE.out.o.2.2.2.2.2).2.1).mono ?_
        rintro e w3 ⟨rfl, hb⟩
        replace HE := Lib.hid (Env.call HE.out hb)
        clear hb
        (try (go_wp2_with fail))
        refine hK.out _ _ (by first | with_reducible exact ⟨Blk.cb HE.out.o.2.2.1, Env.c1 HE.out⟩ | with_reducible exact ⟨Blk.cb HE.out.drew.o.2.2.1, Env.c1 HE.out.drew⟩) (fun hHeld => ?_)
        clear hK K
        (try simp only [Act.put, List.setIfInBounds_toArray, List.set_cons_zero, List.set_cons_succ])
        refine held_take (i := 16) (v := ?_) (some 93) rfl rfl (by kernel_rfl) (by kernel_rfl) (by kernel_rfl) (fun _ _ _ h => h) (Or.inl ⟨by rfl, ?_⟩) hHeld ?_
        rotate_left 1
        ·intro w hSw
         (try dsimp only at hSw)
         (first | (go_simp; done) | (go_simp; with_reducible rfl))
        (try simp only [Act.put, List.setIfInBounds_toArray, List.set_cons_zero, List.set_cons_succ])
        clear hHeld
        refine wpAnyH_done (by kernel_rfl) ?_ _
        refine NoPanic.normal ?_
        go_upto_region 19 with fail
        refine wp_region_noPanic ?_
        refine wp_region_held_drew (S := (fun W => CB gf #[.int .i64 f.M, .slice f.Ac f.cols.length f.cc, .slice f.Al f.lo.length f.cl, .slice f.Ah f.hi.length f.ch, .slice f.Ak f.cost.length f.ck, .slice f.Ab f.b.length f.cb] W ∧ CB gc #[.bool kc.num.neg, .slice kc.num.A kc.num.k kc.num.c, .bool kc.den.neg, .slice kc.den.A kc.den.k kc.den.c] W)) (by kernel_rfl) (by first | with_reducible exact ⟨Blk.cb HE.out.o.2.2.1, Env.c1 HE.out⟩ | with_reducible exact ⟨Blk.cb HE.out.drew.o.2.2.1, Env.c1 HE.out.drew⟩) (fun hHeld => ?_)
        replace HE := Lib.hid HE.out.drew
        refine held_take (i := 0) (v := ?_) (some 94) rfl rfl (by kernel_rfl) (by kernel_rfl) (by kernel_rfl) (fun _ _ _ h => h) (Or.inl ⟨by rfl, ?_⟩) hHeld ?_
        rotate_left 1
        ·intro w hSw
         (try dsimp only at hSw)
         (first | (go_simp; done) | (go_simp; with_reducible rfl))
        (try simp only [Act.put, List.setIfInBounds_toArray, List.set_cons_zero, List.set_cons_succ])
        refine held_take (i := 1) (v := ?_) (some 95) rfl rfl (by kernel_rfl) (by kernel_rfl) (by kernel_rfl) (fun _ _ _ h => h) (Or.inl ⟨by rfl, ?_⟩) hHeld ?_
        rotate_left 1
        ·intro w hSw
         (try dsimp only at hSw)
         (first | (go_simp; done) | (go_simp; with_reducible rfl))
        (try simp only [Act.put, List.setIfInBounds_toArray, List.set_cons_zero, List.set_cons_succ])
        refine held_take (i := 2) (v := ?_) (some 96) rfl rfl (by kernel_rfl) (by kernel_rfl) (by kernel_rfl) (fun _ _ _ h => h) (Or.inl ⟨by rfl, ?_⟩) hHeld ?_
        rotate_left 1
        ·intro w hSw
         (try dsimp only at hSw)
         (first | (go_simp; done) | (go_simp; with_reducible rfl))
        (try simp only [Act.put, List.setIfInBounds_toArray, List.set_cons_zero, List.set_cons_succ])
        refine held_take (i := 4) (v := ?_) (some 98) rfl rfl (by kernel_rfl) (by kernel_rfl) (by kernel_rfl) (fun _ _ _ h => h) (Or.inl ⟨by rfl, ?_⟩) hHeld ?_
        rotate_left 1
        ·intro w hSw
         (try dsimp only at hSw)
         (first | (go_simp; done) | (go_simp; with_reducible rfl))
        (try simp only [Act.put, List.setIfInBounds_toArray, List.set_cons_zero, List.set_cons_succ])
        refine held_take (i := 5) (v := ?_) (some 99) rfl rfl (by kernel_rfl) (by kernel_rfl) (by kernel_rfl) (fun _ _ _ h => h) (Or.inl ⟨by rfl, ?_⟩) hHeld ?_
        rotate_left 1
        ·intro w hSw
         (try dsimp only at hSw)
         (first | (go_simp; done) | (go_simp; with_reducible rfl))
        (try simp only [Act.put, List.setIfInBounds_toArray, List.set_cons_zero, List.set_cons_succ])
        refine held_take (i := 7) (v := ?_) (some 101) rfl rfl (by kernel_rfl) (by kernel_rfl) (by kernel_rfl) (fun _ _ _ h => h) (Or.inl ⟨by rfl, ?_⟩) hHeld ?_
        rotate_left 1
        ·intro w hSw
         (try dsimp only at hSw)
         (first | (go_simp; done) | (go_simp; with_reducible rfl))
        (try simp only [Act.put, List.setIfInBounds_toArray, List.set_cons_zero, List.set_cons_succ])
        refine held_call (i := 3) rfl (by kernel_rfl) (by rfl) (fun K hK => ?_)
        clear hHeld
        simp only [List.getElem_toArray, List.getElem_cons_succ, List.getElem_cons_zero]
        go_simp
        refine ((HL1.out _ HE.out.bel HE.out.o.2.2.2.2.2).2.2).mono ?_
        rintro e w3 ⟨rfl, hb⟩
        replace HE := Lib.hid (Env.call HE.out hb)
        clear hb
        (try (go_wp2_with fail))
        refine hK.out _ _ (by first | with_reducible exact ⟨Blk.cb HE.out.o.2.2.1, Env.c1 HE.out⟩ | with_reducible exact ⟨Blk.cb HE.out.drew.o.2.2.1, Env.c1 HE.out.drew⟩) (fun hHeld => ?_)
        clear hK K
        (try simp only [Act.put, List.setIfInBounds_toArray, List.set_cons_zero, List.set_cons_succ])
        refine held_call (i := 6) rfl (by kernel_rfl) (by rfl) (fun K hK => ?_)
        clear hHeld
        simp only [List.getElem_toArray, List.getElem_cons_succ, List.getElem_cons_zero]
        go_simp
        refine ((HL1.out _ HE.out.bel HE.out.o.2.2.2.2.2).1).mono ?_
        rintro e w3 ⟨kd, rfl, hk, hb⟩
        replace HE := Lib.hid (Env.ret HE.out hk hb)
        clear hk hb
        (try (go_wp2_with fail))
        refine hK.out _ _ (by first | with_reducible exact ⟨Blk.cb HE.out.o.2.2.1, Env.c1 HE.out⟩ | with_reducible exact ⟨Blk.cb HE.out.drew.o.2.2.1, Env.c1 HE.out.drew⟩) (fun hHeld => ?_)
        clear hK K
        (try simp only [Act.put, List.setIfInBounds_toArray, List.set_cons_zero, List.set_cons_succ])
        refine held_call (i := 8) rfl (by kernel_rfl) (by rfl) (fun K hK => ?_)
        clear hHeld
        simp only [List.getElem_toArray, List.getElem_cons_succ, List.getElem_cons_zero]
        go_simp
        refine (rsame_any _ kd kc Q1 C 10000000 (by decide) (by decide) (RatN.rat HE.out.n.1 HZ1.out) (RatN.rat HE.out.n.2.2.1 HZC.out)).mono ?_
        rintro e w3 ⟨rfl, hb⟩
        replace HE := Lib.hid (Env.call HE.out hb)
        clear hb
        (try (go_wp2_with fail))
        refine hK.out _ _ (by first | with_reducible exact ⟨Blk.cb HE.out.o.2.2.1, Env.c1 HE.out⟩ | with_reducible exact ⟨Blk.cb HE.out.drew.o.2.2.1, Env.c1 HE.out.drew⟩) (fun hHeld => ?_)
        clear hK K
        (try simp only [Act.put, List.setIfInBounds_toArray, List.set_cons_zero, List.set_cons_succ])
        refine held_take (i := 9) (v := ?_) (some 103) rfl rfl (by kernel_rfl) (by kernel_rfl) (by kernel_rfl) (fun _ _ _ h => h) (Or.inl ⟨by rfl, ?_⟩) hHeld ?_
        rotate_left 1
        ·intro w hSw
         (try dsimp only at hSw)
         (first | (go_simp; done) | (go_simp; with_reducible rfl))
        (try simp only [Act.put, List.setIfInBounds_toArray, List.set_cons_zero, List.set_cons_succ])
        clear hHeld
        refine wpAnyH_done (by kernel_rfl) ?_ _
        refine NoPanic.normal ?_
        go_wp2_with fail
        go_roundw
        case rel => exact ⟨1 + 1, by go_num, by omega, Lib.hid (HE.out.imp (fun _ h => h) (fun _ h => h.2.2))⟩
        case measure => (simp [intOf] <;> omega)
      ·obtain rfl : i = 2 := by omega
       go_wp2_with fail
       refine (awake_any _ HE.out.o.2.2.2.2.2).mono ?_
       rintro e w9 ⟨rfl, hb⟩
       replace HE := Lib.hid (Env.call HE.out hb)
       clear hb
       go_wp2_with fail
       exact bodyPost_ret (v := .bool true) (by simp [results, Tryz.results4, go_sem]) rfl ⟨rfl, Below.after HBl.out HE.out.bel⟩
end Go.Proofs.YtbnleajchmnbdaaGreatDoor
