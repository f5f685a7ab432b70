/-
 The walk of PointSolves. What the row of PointSolves wants (as those of ProofHolds): the one table out of the row's list, the world of the witness, the last step; programs, points and prices as arguments. PointSolves returns true, whatever the input; no conditions: the row and its card.
-/
import Derived.Test.YtfdmajmhmligpaaGreatDoorJI
import Derived.Test.YtfdmajmhmligpaaGreatDoorCards
import Derived.Test.YtfdmajmhmligpaaGreatDoorTie
import Derived.Deep.Slices
import Derived.Lib.SmallJoins
import Derived.WalkKit
import Derived.ProofKit
import Derived.OpenShut
import Derived.Deep.DeepHandedRow
import Derived.Lib.LaidTab
import Derived.Stop.LaidErr
import Derived.Carry
import Derived.ChangeMaps5
namespace Go.Proofs.YtfdmajmhmligpaaGreatDoor
set_option maxHeartbeats 20000000
open Go.RowKit

theorem Env.al2z {w W : World} {bs : List Bo} {old new : World → Prop} (h : Env w bs old new W) (t1 t2 : TypeId) (c1 c2 : Array Value) : ∃ W' g, (W.alloc (.cells c1 t1)).alloc (.cells c2 t2) = W' ∧ W.heap.size = g ∧ Hid (Env w (⟨g + 1, t2, c2⟩ :: ⟨g, t1, c1⟩ :: bs) old new W') :=
 ⟨_, _, rfl, rfl, znd ((h.new_ rfl t1 c1).new_ (by simp) t2 c2)⟩
theorem kx1 (j : Nat) (h : j ≤ 12) : 1 + j * (2 * 1000000000 + 2) ≤ 49000000000 := by omega
theorem kx2 (j : Nat) (h : j ≤ 12) : 1 + j * (1000000000 + 6) ≤ 400000000000 := by omega
theorem kx3 (j : Nat) (h : j ≤ 12) : 1 + j * (10000000000 + 1000000000 + 2) ≤ 200000000000 := by omega
theorem kx7 (j : Nat) (h : j ≤ 12) : 1 + j * (10000000000 + 1000000000 + 2) ≤ 400000000000 := by omega
theorem kx4 (j : Nat) (h : j ≤ 12) : 1 + j * (2 * 1000000000 + 2) ≤ 25000000000 := by omega
theorem kx5 (i : Nat) (h : i ≤ 5) : 200000000000 + i * (1000000000 + 6) ≤ 400000000000 := by omega
theorem kx6 (l q : Nat) (h : l ≤ 5) (hq : q ≤ 25000000000) : 1 + l * (q + 1) ≤ 400000000000 := by
 have h8 : l * (q + 1) ≤ 5 * (25000000000 + 1) := Nat.mul_le_mul h (by omega)
 omega
theorem sz_x {xs : List (RV × Rat)} {n j : Nat} (h : ∀ p ∈ xs, Sz p.2 n) (hj : j < xs.length) : Sz (xs[j]).2 n := h _ (List.getElem_mem hj)
theorem zhK {P : Program} {fn : FuncId} {args : Array Value} {F : Int → Rat} {N L : Nat} {w : World} {Q : Ending → World → Prop} (h : Calls P fn args w (RetC F N L w)) (hq : ∀ (w' : World) (v : VeV), Rests w' (w.heap.size ≤ ·) (veF F N L v) → Below w.heap.size w w' → Q (.returned (.slice v.A v.ts.length v.c)) w') : Calls P fn args w Q :=
 h.mono fun e w' hr => by
  obtain ⟨v, rfl, h1, h2⟩ := RetC.v hr
  exact hq w' v h1 h2
set_option maxRecDepth 100000 in
theorem zdF (w : World) (N : Nat) (hN : N ≤ 10000000) (h1N : 1 ≤ N) (p : PrV) (hp : PrD N p w) (hts : ∀ r ∈ p.rows, r.ts.length ≤ 1000000) (hck : p.cost.length ≤ 1000000) (SA : Option Addr) (sc : Nat) (st : List Int) (hs : LsR 1 stc (fun _ _ => True) SA st w) (hT : Tz w) :
 Calls Tryz.prog 3 #[.agg #[.slice p.Av p.vars.length p.cv, .slice p.Ar p.rows.length p.cr, .slice p.Ak p.cost.length p.ck], .slice SA st.length sc] w fun e w' => e = .returned (.bool true) ∧ Below w.heap.size w w' := by
 have HD := znd hp
 have hszr := zal
 have szs := zcf
 have hszc := zaw
 have hadd := zaa
 have slS := hs.sl
 obtain ⟨W0, hW0⟩ : ∃ W0, W0 = (w.alloc (.cells #[.slice p.Av p.vars.length p.cv, .slice p.Ar p.rows.length p.cr, .slice p.Ak p.cost.length p.ck] 27)) := ⟨_, rfl⟩
 have HE := znd (Env.lay1 (Env.start ((hp.old).and (((hs.old zdk)).and (hT.old)))) hW0)
 subst hW0
 have c := Env.c1 HE.out
 clear hp hs hT
 go_enter Tryz.func3, Tryz.ntmps3
 go_wp2_with fail
 refine (zjC _ N hN h1N p HE.out.o.1 hts hck HE.out.o.2.2).mono ?_
 rintro e w1 ⟨hres, hb⟩
 rcases hres with ⟨k, hk, rfl⟩ | ⟨f, rfl, hR, hk⟩
 ·have hk0 : (k != 0) = true := by simpa using hk
  replace HE := znd (Env.call HE.out hb)
  replace c := Env.c1 HE.out
  clear hb hk
  go_upto_region 2 with fail
  obtain ⟨W2, gf, hW2, hgf, HE⟩ := Env.al HE.out 32 #[.int .i64 0, .slice none 0 0, .slice none 0 0, .slice none 0 0, .slice none 0 0, .slice none 0 0]
  rw [hW2, hgf]
  clear hW2 hgf
  replace c := Env.c2 HE.out
  go_wp2_with fail
  refine (zd7 _ HE.out.o.2.2).mono ?_
  rintro e w9 ⟨rfl, hb⟩
  replace HE := znd (Env.call HE.out hb)
  clear hb
  go_wp2_with fail
  exact bodyPost_ret (v := .bool true) (by simp [results, Tryz.results3, go_sem]) rfl ⟨rfl, HE.out.bel⟩
 ·have HR := znd ((PRight.same HD.out HE.out.bel).1 hR)
  replace HE := znd (Env.ret HE.out hk hb)
  replace c := Env.c1 HE.out
  clear hb hk hR
  go_upto_region 2 with fail
  obtain ⟨W2, gf, hW2, hgf, HE⟩ := Env.al HE.out 32 #[.int .i64 f.M, .slice f.Ac f.cols.length f.cc, .slice f.Al f.lo.length f.cl, .slice f.Ah f.hi.length f.ch, .slice f.Ak f.cost.length f.ck, .slice f.Ab f.b.length f.cb]
  rw [hW2, hgf]
  clear hW2 hgf
  replace c := Env.c2 HE.out
  go_wp2_with fail
  refine (ziC _ f HE.out.n.1.1.foA).mono ?_
  rintro e w4 ⟨⟨B, rfl, hB⟩, hb⟩
  replace HE := znd (Env.call HE.out hb)
  have HBg := znd hB
  clear hb hB
  replace c := Env.c2 HE.out
  cases B
  rotate_left 1
  ·go_wp2_with fail
   refine (zd7 _ HE.out.o.2.2).mono ?_
   rintro e w9 ⟨rfl, hb⟩
   replace HE := znd (Env.call HE.out hb)
   clear hb
   go_wp2_with fail
   exact bodyPost_ret (v := .bool true) (by simp [results, Tryz.results3, go_sem]) rfl ⟨rfl, HE.out.bel⟩
  have HNG := znd (HBg.out rfl)
  have HS := znd HNG.out.small
  have HSL := znd HE.out.n.1.2.slack
  obtain ⟨a, ha⟩ : ∃ a, a = p.vars.length := ⟨_, rfl⟩
  rw [← ha] at HSL
  clear ha HBg c
  have HE2 := znd (show Env w [] (fun V => PrD N p V ∧ LsR 1 stc (fun _ _ => True) SA st V ∧ Tz V) (fun V => Blk V gf 32 #[.int .i64 f.M, .slice f.Ac f.cols.length f.cc, .slice f.Al f.lo.length f.cl, .slice f.Ah f.hi.length f.ch, .slice f.Ak f.cost.length f.ck, .slice f.Ab f.b.length f.cb] ∧ FoD 4 f V ∧ FRight f V) _ from ((HE.out.perm (List.Perm.swap _ _ _)).drop.read).imp (fun V h => h) (fun V h => ⟨h.1, h.2.1.1.foA.cut HNG.out, h.2.1.2.fright HR.out⟩))
  clear HE
  have HE := HE2
  clear HE2 HNG
  have hn12 : f.cols.length ≤ 12 := HS.out.cols
  have hm5 : f.b.length ≤ 5 := by have h9 := HS.out.M; rw [← HE.out.n.2.2.b] at h9; omega
  have HZ := znd (zg6 f.b.length (by omega) f.cols.length (by omega))
  have c := Blk.cb HE.out.n.1
  go_wp2_with fail
  refine (zfo _ 4 (by omega) (by omega) f HE.out.n.2.1 HS.out HE.out.n.2.2 a HSL.out HE.out.o.2.2).mono ?_
  rintro e w5 ⟨S, rfl, hk, hb⟩
  replace HE := znd (Env.ret HE.out hk hb)
  clear hk hb
  replace c := Blk.cb HE.out.n.2.1
  go_wp2_with fail
  have h9 := ze7 _ 4 (by omega) (by omega) f HE.out.n.2.2.1 HS.out HE.out.n.2.2.2 zdw HZ.out.1 HZ.out.2.1 S f.cols.length (st0 f a) HE.out.n.1 HE.out.o.2.2
  rw [ziH] at h9
  refine h9.mono ?_
  rintro e w6 ⟨B, rfl, hb, -, h3⟩
  clear h9
  replace HE := znd (Env.call HE.out hb)
  clear hb
  cases B
  ·obtain ⟨y0, d0, h4, h5⟩ := h3 rfl HSL.out.isb
   exact absurd (HSL.out.priced h4) h5
  clear h3
  replace HE := znd (HE.out.imp (fun V h => h) (fun V h => h.2))
  replace c := Blk.cb HE.out.n.1
  go_wp2_with fail
  refine (zdf _ 4 (by omega) (by omega) f HE.out.n.2.1 HS.out HE.out.n.2.2 zdw HZ.out.2.2.1 (by have := HZ.out.2.2.2.1; omega) SA sc st HE.out.o.2.1 HE.out.o.2.2).mono ?_
  rintro e w7 (⟨hB, X, cx, xs, rfl, hv, hxz, hk, hb⟩ | ⟨hB, rfl, hb⟩)
  rotate_left 1
  ·replace HE := znd (Env.call HE.out hb)
   replace c := Blk.cb HE.out.n.1
   clear hb
   go_wp2_with fail
   refine (zcR _ 4 (by omega) (by omega) f HE.out.n.2.1 HS.out HE.out.n.2.2 zdw HZ.out.1 HZ.out.2.1 SA sc st HE.out.o.2.1 HE.out.o.2.2).mono ?_
   rintro e w8 (⟨hB2, -⟩ | ⟨-, rfl, hb⟩)
   ·exact absurd hB2 hB
   replace HE := znd (Env.call HE.out hb)
   clear hb
   go_wp2_with fail
   refine (zd7 _ HE.out.o.2.2).mono ?_
   rintro e w9 ⟨rfl, hb⟩
   replace HE := znd (Env.call HE.out hb)
   clear hb
   go_wp2_with fail
   exact bodyPost_ret (v := .bool true) (by simp [results, Tryz.results3, go_sem]) rfl ⟨rfl, HE.out.bel⟩
  replace HE := znd (Env.ret HE.out hk hb)
  clear hk hb
  replace c := Blk.cb HE.out.n.2.1
  have HB := znd hB
  have HV := znd hv
  have HXZ := znd (show ∀ q ∈ xs, Sz q.2 1000000000 from fun q hq => (hxz q hq).up HZ.out.2.2.2.1)
  clear hB hv hxz
  go_wp2_with fail
  refine (zcR _ 4 (by omega) (by omega) f HE.out.n.2.2.1 HS.out HE.out.n.2.2.2 zdw HZ.out.1 HZ.out.2.1 SA sc st HE.out.o.2.1 HE.out.o.2.2).mono ?_
  rintro e w8 (⟨-, Y, cy, ys, D, ds, rfl, -, hd, hyz, hdz, hk, hb⟩ | ⟨hB2, -⟩)
  rotate_left 1
  ·exact absurd HB.out hB2
  replace HE := znd (Env.ret HE.out hk hb)
  clear hk hb
  have HDU := znd hd
  have HYZ := znd (show ∀ q ∈ ys, Sz q.2 1000000000 from fun q hq => (hyz q hq).up HZ.out.2.1)
  have HDZ := znd (show ∀ q ∈ ds, Sz q.2 10000000000 from fun q hq => (hdz q hq).up HZ.out.2.2.2.2)
  clear hd hyz hdz
  have HFR := znd HE.out.n.2.2.2.2
  have HFR2 := HFR
  clear HFR2
  go_upto_region 13 with fail
  obtain ⟨W9, gc, hW9, hgc, HE⟩ := Env.al2z HE.out 48 48 #[.bool false, .slice none 0 0, .bool false, .slice none 0 0] #[.bool false, .slice none 0 0, .bool false, .slice none 0 0]
  rw [hW9, hgc]
  clear hW9 hgc
  have HE2 := znd (show Env w [⟨gc + 1, 48, #[.bool za9.num.neg, .slice za9.num.A za9.num.k za9.num.c, .bool za9.den.neg, .slice za9.den.A za9.den.k za9.den.c]⟩, ⟨gc, 48, #[.bool za9.num.neg, .slice za9.num.A za9.num.k za9.num.c, .bool za9.den.neg, .slice za9.den.A za9.den.k za9.den.c]⟩] (fun V => Blk V gf 32 #[.int .i64 f.M, .slice f.Ac f.cols.length f.cc, .slice f.Al f.lo.length f.cl, .slice f.Ah f.hi.length f.ch, .slice f.Ak f.cost.length f.ck, .slice f.Ab f.b.length f.cb] ∧ FoD 4 f V ∧ LsR 4 za0 roN X xs V ∧ LsR 4 za0 roN Y ys V ∧ LsR 4 za0 roN D ds V ∧ LsR 1 stc (fun _ _ => True) SA st V ∧ Tz V) (fun V => LsR 5 tecells teN none ([] : List TeV) V ∧ RatN za9 0 V ∧ RatN za9 0 V) _ from HE.out.sink.imp (fun V h => ⟨h.1.2.2.1, h.1.2.2.2.1, h.1.2.1, h.1.1.1, h.1.1.2, h.2.2.1, h.2.2.2⟩) (fun V _ => ⟨LsR.nil_ _, zbX V, zbX V⟩))
  clear HE c
  have HE := HE2
  clear HE2
  have slX := HE.out.o.2.2.1.sl
  rw [HV.out.len] at slX
  have slD := HE.out.o.2.2.2.2.1.sl
  rw [HDU.out.ld] at slD
  have slY := HE.out.o.2.2.2.1.sl
  rw [HDU.out.ly] at slY
  have slc := HE.out.o.2.1.cols.sl
  have slk := HE.out.o.2.1.cost.sl
  have slb := HE.out.o.2.1.b.sl
  have hsl := HB.out.len
  rw [hsl] at slS ⊢
  clear hsl
  go_wp2_with fail
  go_loopw [13, 77] (fun sv jv wr => ∃ (j : Nat) (As : Option Addr) (cs : Nat) (ss : List TeV) (kc kt : RV) (cq tq : Rat), sv = .slice As ss.length cs ∧ jv = .int .i64 (j : Int) ∧ j ≤ f.cols.length ∧ Hid (SumI f xs ds 1000000000 10000000000 j ss cq tq) ∧ Hid (Env w [⟨gc + 1, 48, #[.bool kt.num.neg, .slice kt.num.A kt.num.k kt.num.c, .bool kt.den.neg, .slice kt.den.A kt.den.k kt.den.c]⟩, ⟨gc, 48, #[.bool kc.num.neg, .slice kc.num.A kc.num.k kc.num.c, .bool kc.den.neg, .slice kc.den.A kc.den.k kc.den.c]⟩] (fun V => Blk V gf 32 #[.int .i64 f.M, .slice f.Ac f.cols.length f.cc, .slice f.Al f.lo.length f.cl, .slice f.Ah f.hi.length f.ch, .slice f.Ak f.cost.length f.ck, .slice f.Ab f.b.length f.cb] ∧ FoD 4 f V ∧ LsR 4 za0 roN X xs V ∧ LsR 4 za0 roN Y ys V ∧ LsR 4 za0 roN D ds V ∧ LsR 1 stc (fun _ _ => True) SA st V ∧ Tz V) (fun V => LsR 5 tecells teN As ss V ∧ RatN kc cq V ∧ RatN kt tq V) wr)) (fun _ jv _ => f.cols.length - (intOf jv).toNat)
  case atStart => exact ⟨0, none, 0, [], za9, za9, 0, 0, rfl, rfl, Nat.zero_le _, znd (SumI.start f xs ds _ _), HE⟩
  case round =>
   clear HE
   obtain ⟨j, As, cs, ss, kc, kt, cq, tq, rfl, rfl, hj, HI, HE⟩ := hrel
   by_cases hlt : j < f.cols.length
   ·have hjx : j < xs.length := by rw [HV.out.len]; exact hlt
    have hjd : j < ds.length := by rw [HDU.out.ld]; exact hlt
    have hjk : j < f.cost.length := by rw [HFR.out.cost]; exact hlt
    have hjs : j < st.length := by rw [HB.out.len]; exact hlt
    have HC := znd (show ∀ V, (fun V => Blk V gf 32 #[.int .i64 f.M, .slice f.Ac f.cols.length f.cc, .slice f.Al f.lo.length f.cl, .slice f.Ah f.hi.length f.ch, .slice f.Ak f.cost.length f.ck, .slice f.Ab f.b.length f.cb] ∧ FoD 4 f V ∧ LsR 4 za0 roN X xs V ∧ LsR 4 za0 roN Y ys V ∧ LsR 4 za0 roN D ds V ∧ LsR 1 stc (fun _ _ => True) SA st V ∧ Tz V) V → V.cell? (adr f.Ac j) = some (.slice (f.cols[j]).A (f.cols[j]).ts.length (f.cols[j]).c) ∧ RC X j xs[j] V ∧ RC f.Ak j f.cost[j] V ∧ RC D j ds[j] V ∧ V.cell? (adr SA j) = some (.int .u8 st[j]) from fun V h => ⟨h.2.1.cols.vc j hlt, h.2.2.1.rc j hjx, h.2.1.cost.rc j hjk, h.2.2.2.2.1.rc j hjd, h.2.2.2.2.2.1.c1 j hjs⟩)
    have HRA := znd (show ∀ V, (fun V => Blk V gf 32 #[.int .i64 f.M, .slice f.Ac f.cols.length f.cc, .slice f.Al f.lo.length f.cl, .slice f.Ah f.hi.length f.ch, .slice f.Ak f.cost.length f.ck, .slice f.Ab f.b.length f.cb] ∧ FoD 4 f V ∧ LsR 4 za0 roN X xs V ∧ LsR 4 za0 roN Y ys V ∧ LsR 4 za0 roN D ds V ∧ LsR 1 stc (fun _ _ => True) SA st V ∧ Tz V) V → LsR 5 tecells (teD 1000000000) (f.cols[j]).A (f.cols[j]).ts V ∧ RatD (xs[j]).1 (xs[j]).2 1000000000 V ∧ RatD (f.cost[j]).1 (f.cost[j]).2 1000000000 V ∧ RatD (ds[j]).1 (ds[j]).2 10000000000 V ∧ RatD (xs[j]).1 (xs[j]).2 10000000000 V from fun V h => ⟨LsR.imp (h.2.1.cols.ok _ (List.getElem_mem hlt)) fun _ _ ht => RatD.mono ht (by omega), RatN.rat (h.2.2.1.ok _ (List.getElem_mem hjx)) (HXZ.out _ (List.getElem_mem hjx)), RatD.mono (h.2.1.cost.ok _ (List.getElem_mem hjk)) (by omega), RatN.rat (h.2.2.2.2.1.ok _ (List.getElem_mem hjd)) (HDZ.out _ (List.getElem_mem hjd)), RatN.rat (h.2.2.1.ok _ (List.getElem_mem hjx)) ((HXZ.out _ (List.getElem_mem hjx)).up (by omega))⟩)
    have HNX := znd (show ∀ (M L : Nat) (v : VeV) (G : Int → Rat), VF G M L v → G = (fun q => getQ (ss.map plq) q + (xs[j]).2 * getQ ((f.cols[j]).ts.map plq) q) → M = (1 + j * (2 * 1000000000 + 2)) + (2 * 1000000000 + 1) + 1 → SumI f xs ds 1000000000 10000000000 (j + 1) v.ts (cq + (f.cost[j]).2 * (xs[j]).2) (tq + (ds[j]).2 * (xs[j]).2) from fun M L v G hv hG hM => by
     have h9 := HI.out.next HFR.out hlt hv (by rw [hG, zao hjx]) hM (by rw [zao hjk]; exact RatD.sz (HE.out.o.2.1.cost.ok _ (List.getElem_mem hjk)) (by omega)) (by rw [zao hjx]; exact HXZ.out _ (List.getElem_mem hjx)) (by rw [zao hjd]; exact HDZ.out _ (List.getElem_mem hjd))
     rw [zao hjx, zao hjk, zao hjd] at h9
     exact h9)
    have HDZ0 := znd (show st[j] = 0 → (ds[j]).2.num.sign = 0 from fun h => by
     have h9 := HDU.out.d j hlt
     rw [zao hjd, if_pos (by unfold zcM; rw [List.getElem?_eq_getElem hjs, h]; rfl)] at h9
     rw [h9]; rfl)
    have HZM := znd (show Sz ((f.cost[j]).2 * (xs[j]).2) 400000000000 ∧ Sz ((ds[j]).2 * (xs[j]).2) 400000000000 from ⟨((RatD.sz (HE.out.o.2.1.cost.ok _ (List.getElem_mem hjk)) (by omega)).mul (HXZ.out _ (List.getElem_mem hjx))).up (by omega), ((HDZ.out _ (List.getElem_mem hjd)).mul (HXZ.out _ (List.getElem_mem hjx))).up (by omega)⟩)
    have Hrv := znd (HFR.out.col j hlt).rise
    have Hlv := znd (HS.out.col _ (List.getElem_mem hlt))
    obtain ⟨v, hv⟩ : ∃ v, v = f.cols[j] := ⟨_, rfl⟩
    obtain ⟨x, hx⟩ : ∃ x, x = xs[j] := ⟨_, rfl⟩
    obtain ⟨k, hk⟩ : ∃ k, k = f.cost[j] := ⟨_, rfl⟩
    obtain ⟨d, hd⟩ : ∃ d, d = ds[j] := ⟨_, rfl⟩
    obtain ⟨z, hz⟩ : ∃ z, z = st[j] := ⟨_, rfl⟩
    rw [← hv, ← hx, ← hk, ← hd, ← hz] at HC
    rw [← hv, ← hx, ← hk, ← hd] at HRA
    rw [← hv, ← hx, ← hk, ← hd] at HNX
    rw [← hd, ← hz] at HDZ0
    rw [← hx, ← hk, ← hd] at HZM
    rw [← hv] at Hrv Hlv
    clear hv hx hk hd hz hjx hjd hjs
    have hn1 := kx1 j (by omega)
    have Hcz := znd (HI.out.csz.up (kx2 j (by omega)))
    have Htz := znd (HI.out.tsz.up (kx7 j (by omega)))
    have Hln := znd (HI.out.len HS.out.M)
    go_upto_region 16 with fail
    refine wp_region_noPanic ?_
    refine wp_region_held_drew (S := (fun W => CB gf #[.int .i64 f.M, .slice f.Ac f.cols.length f.cc, .slice f.Al f.lo.length f.cl, .slice f.Ah f.hi.length f.ch, .slice f.Ak f.cost.length f.ck, .slice f.Ab f.b.length f.cb] W ∧ W.cell? (adr f.Ac j) = some (.slice v.A v.ts.length v.c) ∧ RC X j x W)) (by kernel_rfl) (by with_reducible first | exact ⟨Blk.cb HE.out.o.1, (HC.out _ HE.out.o).1, (HC.out _ HE.out.o).2.1⟩ | exact ⟨Blk.cb HE.out.drew.o.1, (HC.out _ HE.out.drew.o).1, (HC.out _ HE.out.drew.o).2.1⟩) (fun hHeld => ?_)
    replace HE := znd HE.out.drew
    refine hT 0 80 hHeld ?_
    refine hT 1 81 hHeld ?_
    refine hT 2 82 hHeld ?_
    refine hT 3 83 hHeld ?_
    refine hT 4 84 hHeld ?_
    refine hT 5 85 hHeld ?_
    refine hT 6 86 hHeld ?_
    refine hT 7 87 hHeld ?_
    refine hT 8 88 hHeld ?_
    refine hT 9 89 hHeld ?_
    refine za8 (i := 10) rfl (by kernel_rfl) (by rfl) (fun K hK => ?_)
    clear hHeld
    simp only [q1, q2, q3]
    go_simp
    refine zhK (zdp _ (1 + j * (2 * 1000000000 + 2)) 1000000000 hn1 (by omega) (by omega) (by omega) As v.A cs v.c ss v.ts x.1 x.2 (LsR.imp HE.out.n.1 fun t ht hn => RatN.rat hn (HI.out.sz t ht)) (HRA.out _ HE.out.o).1 (HRA.out _ HE.out.o).2.1 HI.out.rise Hrv.out (by have := Hln.out; omega) (by have := Hlv.out; omega) HE.out.o.2.2.2.2.2.2) ?_
    intro w3 v2 hk hb
    replace HE := znd (Env.ret HE.out hk hb)
    clear hk hb
    (try (go_wp2_with fail))
    refine hK.out _ _ (by with_reducible first | exact ⟨Blk.cb HE.out.o.1, (HC.out _ HE.out.o).1, (HC.out _ HE.out.o).2.1⟩ | exact ⟨Blk.cb HE.out.drew.o.1, (HC.out _ HE.out.drew.o).1, (HC.out _ HE.out.drew.o).2.1⟩) (fun hHeld => ?_)
    clear hK K
    try simp only [p1, p2, p3, p4]
    refine hT 11 13 hHeld ?_
    clear hHeld
    refine wpAnyH_done (by kernel_rfl) ?_ _
    refine NoPanic.normal ?_
    have HN2 := znd (HNX.out _ _ _ _ HE.out.n.1.1 rfl rfl)
    clear HNX HI
    replace HE := znd (HE.out.imp (fun V h => h) (fun V h => show LsR 5 tecells teN v2.A v2.ts V ∧ RatN kc cq V ∧ RatN kt tq V from ⟨h.1.2, h.2.2.1, h.2.2.2⟩))
    go_upto_region 17 with fail
    refine wp_region_noPanic ?_
    refine zab 12 (fun W => CB gf #[.int .i64 f.M, .slice f.Ac f.cols.length f.cc, .slice f.Al f.lo.length f.cl, .slice f.Ah f.hi.length f.ch, .slice f.Ak f.cost.length f.ck, .slice f.Ab f.b.length f.cb] W ∧ RC f.Ak j k W ∧ RC X j x W ∧ CB gc #[.bool kc.num.neg, .slice kc.num.A kc.num.k kc.num.c, .bool kc.den.neg, .slice kc.den.A kc.den.k kc.den.c] W) (by kernel_rfl) (by with_reducible first | exact ⟨Blk.cb HE.out.o.1, (HC.out _ HE.out.o).2.2.1, (HC.out _ HE.out.o).2.1, (Env.c2 HE.out).2⟩ | exact ⟨Blk.cb HE.out.drew.o.1, (HC.out _ HE.out.drew.o).2.2.1, (HC.out _ HE.out.drew.o).2.1, (Env.c2 HE.out.drew).2⟩) (fun hHeld => ?_)
    replace HE := znd HE.out.drew
    refine gTa 0 91 hHeld ?_
    refine gTa 1 92 hHeld ?_
    refine gTa 2 93 hHeld ?_
    refine gTa 3 94 hHeld ?_
    refine gTa 4 95 hHeld ?_
    refine gTa 5 96 hHeld ?_
    refine gTa 6 97 hHeld ?_
    refine gTa 7 98 hHeld ?_
    refine gTa 8 99 hHeld ?_
    refine gTa 9 100 hHeld ?_
    refine gC 10 rfl (by kernel_rfl) (by rfl) (fun K hK => ?_)
    clear hHeld
    simp only [q1, q2, q3]
    go_simp
    refine (zaN _ k.1 x.1 k.2 x.2 1000000000 (by omega) (by omega) (HRA.out _ HE.out.o).2.2.1 (HRA.out _ HE.out.o).2.1 HE.out.o.2.2.2.2.2.2).mono ?_
    rintro e w3 ⟨km, rfl, hk, hb⟩
    replace HE := znd (Env.ret HE.out hk hb)
    clear hk hb
    (try (go_wp2_with fail))
    refine hK.out _ _ (by with_reducible first | exact ⟨Blk.cb HE.out.o.1, (HC.out _ HE.out.o).2.2.1, (HC.out _ HE.out.o).2.1, (Env.c2 HE.out).2⟩ | exact ⟨Blk.cb HE.out.drew.o.1, (HC.out _ HE.out.drew.o).2.2.1, (HC.out _ HE.out.drew.o).2.1, (Env.c2 HE.out.drew).2⟩) (fun hHeld => ?_)
    clear hK K
    try simp only [p1, p2, p3, p4]
    refine gC 11 rfl (by kernel_rfl) (by rfl) (fun K hK => ?_)
    clear hHeld
    simp only [q1, q2, q3]
    go_simp
    refine (zbL _ kc km cq (k.2 * x.2) 400000000000 (by omega) (by omega) (RatN.rat HE.out.n.2.2.1 Hcz.out) (RatN.rat HE.out.n.1 HZM.out.1) HE.out.o.2.2.2.2.2.2).mono ?_
    rintro e w3 ⟨kc2, rfl, hk, hb⟩
    replace HE := znd (Env.ret HE.out hk hb)
    clear hk hb
    (try (go_wp2_with fail))
    refine hK.out _ _ (by with_reducible first | exact ⟨Blk.cb HE.out.o.1, (HC.out _ HE.out.o).2.2.1, (HC.out _ HE.out.o).2.1, (Env.c2 HE.out).2⟩ | exact ⟨Blk.cb HE.out.drew.o.1, (HC.out _ HE.out.drew.o).2.2.1, (HC.out _ HE.out.drew.o).2.1, (Env.c2 HE.out.drew).2⟩) (fun hHeld => ?_)
    clear hK K
    try simp only [p1, p2, p3, p4]
    have c := Env.c2 HE.out
    refine gL rfl (by kernel_rfl) (by kernel_rfl) (by rfl) (fun K hK => ?_)
    clear hHeld
    simp only [q1, q2, q3]
    go_simp
    (try (go_wp2_with fail))
    refine hK.out _ _ ?_
    clear hK K
    try simp only [p1, p2, p3, p4]
    refine NoPanic.normal ?_
    clear c
    have HE2 := znd (HE.out.put4_1 (.bool kc2.num.neg) (.slice kc2.num.A kc2.num.k kc2.num.c) (.bool kc2.den.neg) (.slice kc2.den.A kc2.den.k kc2.den.c))
    clear HE
    obtain ⟨W5, hW5, HE⟩ := Env.nm HE2.out
    rw [hW5]
    clear hW5 HE2
    replace HE := znd (HE.out.imp (fun V h => h) (fun V h => show LsR 5 tecells teN v2.A v2.ts V ∧ RatN kc2 (cq + k.2 * x.2) V ∧ RatN kt tq V from ⟨h.2.2.1, h.1, h.2.2.2.2⟩))
    have cz := (HC.out _ HE.out.o).2.2.2.2
    have cd := (HC.out _ HE.out.o).2.2.2.1
    by_cases hz0 : z = 0
    case' pos =>
     subst hz0
     have HD0 := znd (HDZ0.out rfl)
     go_wp2_with fail
     refine (zaV _ d.1 d.2 10000000000 (by omega) (HRA.out _ HE.out.o).2.2.2.1).mono ?_
     rintro e w6 ⟨rfl, hb⟩
     rw [HD0.out]
     replace HE := znd (Env.call HE.out hb)
     clear hb cz cd HDZ0 HD0
     go_upto_region 20 with fail
    case' neg =>
     have hzb : (z == 0) = false := by simpa using hz0
     clear hz0
     go_upto_region 20 with fail
     clear cz cd hzb HDZ0
    all_goals
     refine wp_region_noPanic ?_
     refine zab 11 (fun W => RC D j d W ∧ RC X j x W ∧ CB (gc + 1) #[.bool kt.num.neg, .slice kt.num.A kt.num.k kt.num.c, .bool kt.den.neg, .slice kt.den.A kt.den.k kt.den.c] W) (by kernel_rfl) (by with_reducible first | exact ⟨(HC.out _ HE.out.o).2.2.2.1, (HC.out _ HE.out.o).2.1, (Env.c2 HE.out).1⟩ | exact ⟨(HC.out _ HE.out.drew.o).2.2.2.1, (HC.out _ HE.out.drew.o).2.1, (Env.c2 HE.out.drew).1⟩) (fun hHeld => ?_)
     replace HE := znd HE.out.drew
     refine gTa 0 116 hHeld ?_
     refine gTa 1 117 hHeld ?_
     refine gTa 2 118 hHeld ?_
     refine gTa 3 119 hHeld ?_
     refine gTa 4 120 hHeld ?_
     refine gTa 5 121 hHeld ?_
     refine gTa 6 122 hHeld ?_
     refine gTa 7 123 hHeld ?_
     refine gTa 8 124 hHeld ?_
     refine gC 9 rfl (by kernel_rfl) (by rfl) (fun K hK => ?_)
     clear hHeld
     simp only [q1, q2, q3]
     go_simp
     refine (zaN _ d.1 x.1 d.2 x.2 10000000000 (by omega) (by omega) (HRA.out _ HE.out.o).2.2.2.1 (HRA.out _ HE.out.o).2.2.2.2 HE.out.o.2.2.2.2.2.2).mono ?_
     rintro e w3 ⟨km2, rfl, hk, hb⟩
     replace HE := znd (Env.ret HE.out hk hb)
     clear hk hb
     (try (go_wp2_with fail))
     refine hK.out _ _ (by with_reducible first | exact ⟨(HC.out _ HE.out.o).2.2.2.1, (HC.out _ HE.out.o).2.1, (Env.c2 HE.out).1⟩ | exact ⟨(HC.out _ HE.out.drew.o).2.2.2.1, (HC.out _ HE.out.drew.o).2.1, (Env.c2 HE.out.drew).1⟩) (fun hHeld => ?_)
     clear hK K
     try simp only [p1, p2, p3, p4]
     refine gC 10 rfl (by kernel_rfl) (by rfl) (fun K hK => ?_)
     clear hHeld
     simp only [q1, q2, q3]
     go_simp
     refine (zbL _ kt km2 tq (d.2 * x.2) 400000000000 (by omega) (by omega) (RatN.rat HE.out.n.2.2.2 Htz.out) (RatN.rat HE.out.n.1 HZM.out.2) HE.out.o.2.2.2.2.2.2).mono ?_
     rintro e w3 ⟨kt2, rfl, hk, hb⟩
     replace HE := znd (Env.ret HE.out hk hb)
     clear hk hb
     (try (go_wp2_with fail))
     refine hK.out _ _ (by with_reducible first | exact ⟨(HC.out _ HE.out.o).2.2.2.1, (HC.out _ HE.out.o).2.1, (Env.c2 HE.out).1⟩ | exact ⟨(HC.out _ HE.out.drew.o).2.2.2.1, (HC.out _ HE.out.drew.o).2.1, (Env.c2 HE.out.drew).1⟩) (fun hHeld => ?_)
     clear hK K
     try simp only [p1, p2, p3, p4]
     have c := Env.c2 HE.out
     refine gL rfl (by kernel_rfl) (by kernel_rfl) (by rfl) (fun K hK => ?_)
     clear hHeld
     simp only [q1, q2, q3]
     go_simp
     (try (go_wp2_with fail))
     refine hK.out _ _ ?_
     clear hK K
     try simp only [p1, p2, p3, p4]
     refine NoPanic.normal ?_
     clear c
     have HE2 := znd (HE.out.put4 (.bool kt2.num.neg) (.slice kt2.num.A kt2.num.k kt2.num.c) (.bool kt2.den.neg) (.slice kt2.den.A kt2.den.k kt2.den.c))
     clear HE
     obtain ⟨W6, hW6, HE⟩ := Env.nm HE2.out
     rw [hW6]
     clear hW6 HE2
     go_wp2_with fail
     go_roundw
     case rel => exact ⟨j + 1, v2.A, v2.c, v2.ts, kc2, kt2, _, _, rfl, by go_num, by omega, HN2, znd (HE.out.imp (fun V h => h) (fun V h => ⟨h.2.2.1, h.2.2.2.1, h.1⟩))⟩
     case measure => (simp [intOf] <;> omega)
   ·obtain rfl : j = f.cols.length := by omega
    have hnu : ¬ ((f.cols.length : Nat) : Int) < ((f.cols.length : Nat) : Int) := by omega
    have c := Blk.cb HE.out.o.1
    have HCO := znd HI.out.cost
    have HTO := znd HI.out.told
    have HSG := znd HI.out.get
    have HSZ := znd HI.out.sz
    have hl5 := HI.out.len HS.out.M
    have HTZ := znd (HI.out.tsz.up (kx3 f.cols.length (by omega)))
    have HCZ := znd (HI.out.csz.up (kx2 f.cols.length (by omega)))
    have Hrs := znd HI.out.rise
    clear HI
    have hq1 := kx4 f.cols.length (by omega)
    obtain ⟨T0, hT0⟩ : ∃ T0, T0 = tq := ⟨_, rfl⟩
    rw [← hT0] at HTO
    have HT0 := znd hT0
    have HTI := znd (TolI.start f ys 1000000000 HTZ.out)
    rw [← hT0] at HTI HTZ
    rw [← hT0] at HE
    clear hT0 HT0
    go_wp2_with fail
    clear c
    go_loopw [131] (fun iv wx => ∃ (i : Nat) (kt : RV) (tq : Rat), iv = .int .i64 (i : Int) ∧ i ≤ f.b.length ∧ Hid (TolI f ys T0 200000000000 1000000000 i tq) ∧ Hid (Env w [⟨gc + 1, 48, #[.bool kt.num.neg, .slice kt.num.A kt.num.k kt.num.c, .bool kt.den.neg, .slice kt.den.A kt.den.k kt.den.c]⟩, ⟨gc, 48, #[.bool kc.num.neg, .slice kc.num.A kc.num.k kc.num.c, .bool kc.den.neg, .slice kc.den.A kc.den.k kc.den.c]⟩] (fun V => Blk V gf 32 #[.int .i64 f.M, .slice f.Ac f.cols.length f.cc, .slice f.Al f.lo.length f.cl, .slice f.Ah f.hi.length f.ch, .slice f.Ak f.cost.length f.ck, .slice f.Ab f.b.length f.cb] ∧ FoD 4 f V ∧ LsR 4 za0 roN X xs V ∧ LsR 4 za0 roN Y ys V ∧ LsR 4 za0 roN D ds V ∧ LsR 1 stc (fun _ _ => True) SA st V ∧ Tz V) (fun V => LsR 5 tecells teN As ss V ∧ RatN kc cq V ∧ RatN kt tq V) wx)) (fun iv _ => f.b.length - (intOf iv).toNat)
    case atStart => exact ⟨0, kt, T0, rfl, Nat.zero_le _, HTI, HE⟩
    case round =>
     clear HE HTI
     obtain ⟨i, kt, tq, rfl, hi, HI, HE⟩ := hrel
     by_cases hib : i < f.b.length
     ·have hiy : i < ys.length := by rw [HDU.out.ly]; exact hib
      have HC := znd (show ∀ V, (fun V => Blk V gf 32 #[.int .i64 f.M, .slice f.Ac f.cols.length f.cc, .slice f.Al f.lo.length f.cl, .slice f.Ah f.hi.length f.ch, .slice f.Ak f.cost.length f.ck, .slice f.Ab f.b.length f.cb] ∧ FoD 4 f V ∧ LsR 4 za0 roN X xs V ∧ LsR 4 za0 roN Y ys V ∧ LsR 4 za0 roN D ds V ∧ LsR 1 stc (fun _ _ => True) SA st V ∧ Tz V) V → RC Y i ys[i] V ∧ RC f.Ab i f.b[i] V from fun V h => ⟨h.2.2.2.1.rc i hiy, h.2.1.b.rc i hib⟩)
      have HRA := znd (show ∀ V, (fun V => Blk V gf 32 #[.int .i64 f.M, .slice f.Ac f.cols.length f.cc, .slice f.Al f.lo.length f.cl, .slice f.Ah f.hi.length f.ch, .slice f.Ak f.cost.length f.ck, .slice f.Ab f.b.length f.cb] ∧ FoD 4 f V ∧ LsR 4 za0 roN X xs V ∧ LsR 4 za0 roN Y ys V ∧ LsR 4 za0 roN D ds V ∧ LsR 1 stc (fun _ _ => True) SA st V ∧ Tz V) V → RatD (ys[i]).1 (ys[i]).2 1000000000 V ∧ RatD (f.b[i]).1 (f.b[i]).2 1000000000 V from fun V h => ⟨RatN.rat (h.2.2.2.1.ok _ (List.getElem_mem hiy)) (HYZ.out _ (List.getElem_mem hiy)), RatD.mono (h.2.1.b.ok _ (List.getElem_mem hib)) (by omega)⟩)
      have HBZ := znd (show Sz (f.b[i]).2 4 from RatD.sz (HE.out.o.2.1.b.ok _ (List.getElem_mem hib)) (by omega))
      have HNX := znd (show TolI f ys T0 200000000000 1000000000 (i + 1) (tq + (ys[i]).2 * (f.b[i]).2) from by
       have h9 := HI.out.next (by rw [zao hiy]; exact HYZ.out _ (List.getElem_mem hiy)) (by rw [zao hib]; exact HBZ.out)
       rwa [zao hiy, zao hib] at h9)
      have HZM := znd (show Sz ((ys[i]).2 * (f.b[i]).2) 400000000000 from ((HYZ.out _ (List.getElem_mem hiy)).mul HBZ.out).up (by omega))
      have HGQ := znd (show getQ (ss.map plq) (i : Int) = (f.b[i]).2 from by rw [HSG.out, HV.out.eq i hib, zao hib])
      obtain ⟨y, hy⟩ : ∃ y, y = ys[i] := ⟨_, rfl⟩
      obtain ⟨b, hb9⟩ : ∃ b, b = f.b[i] := ⟨_, rfl⟩
      rw [← hy, ← hb9] at HC
      rw [← hy, ← hb9] at HRA
      rw [← hb9] at HBZ HGQ
      rw [← hy, ← hb9] at HNX
      rw [← hy, ← hb9] at HZM
      clear hy hb9 hiy
      have Htz := znd (HI.out.sz.up (kx5 i (by omega)))
      clear HI
      skip
      go_upto_region 25 with fail
      refine wp_region_noPanic ?_
      refine zab 12 (fun W => RC Y i y W ∧ CB gf #[.int .i64 f.M, .slice f.Ac f.cols.length f.cc, .slice f.Al f.lo.length f.cl, .slice f.Ah f.hi.length f.ch, .slice f.Ak f.cost.length f.ck, .slice f.Ab f.b.length f.cb] W ∧ RC f.Ab i b W ∧ CB (gc + 1) #[.bool kt.num.neg, .slice kt.num.A kt.num.k kt.num.c, .bool kt.den.neg, .slice kt.den.A kt.den.k kt.den.c] W) (by kernel_rfl) (by with_reducible first | exact ⟨(HC.out _ HE.out.o).1, Blk.cb HE.out.o.1, (HC.out _ HE.out.o).2, (Env.c2 HE.out).1⟩ | exact ⟨(HC.out _ HE.out.drew.o).1, Blk.cb HE.out.drew.o.1, (HC.out _ HE.out.drew.o).2, (Env.c2 HE.out.drew).1⟩) (fun hHeld => ?_)
      replace HE := znd HE.out.drew
      refine gTa 0 134 hHeld ?_
      refine gTa 1 135 hHeld ?_
      refine gTa 2 136 hHeld ?_
      refine gTa 3 137 hHeld ?_
      refine gTa 4 138 hHeld ?_
      refine gTa 5 139 hHeld ?_
      refine gTa 6 140 hHeld ?_
      refine gTa 7 141 hHeld ?_
      refine gTa 8 142 hHeld ?_
      refine gTa 9 143 hHeld ?_
      refine gC 10 rfl (by kernel_rfl) (by rfl) (fun K hK => ?_)
      clear hHeld
      simp only [q1, q2, q3]
      go_simp
      refine (zaN _ y.1 b.1 y.2 b.2 1000000000 (by omega) (by omega) (HRA.out _ HE.out.o).1 (HRA.out _ HE.out.o).2 HE.out.o.2.2.2.2.2.2).mono ?_
      rintro e w3 ⟨km2, rfl, hk, hb⟩
      replace HE := znd (Env.ret HE.out hk hb)
      clear hk hb
      (try (go_wp2_with fail))
      refine hK.out _ _ (by with_reducible first | exact ⟨(HC.out _ HE.out.o).1, Blk.cb HE.out.o.1, (HC.out _ HE.out.o).2, (Env.c2 HE.out).1⟩ | exact ⟨(HC.out _ HE.out.drew.o).1, Blk.cb HE.out.drew.o.1, (HC.out _ HE.out.drew.o).2, (Env.c2 HE.out.drew).1⟩) (fun hHeld => ?_)
      clear hK K
      try simp only [p1, p2, p3, p4]
      refine gC 11 rfl (by kernel_rfl) (by rfl) (fun K hK => ?_)
      clear hHeld
      simp only [q1, q2, q3]
      go_simp
      refine (zbL _ kt km2 tq (y.2 * b.2) 400000000000 (by omega) (by omega) (RatN.rat HE.out.n.2.2.2 Htz.out) (RatN.rat HE.out.n.1 HZM.out) HE.out.o.2.2.2.2.2.2).mono ?_
      rintro e w3 ⟨kt2, rfl, hk, hb⟩
      replace HE := znd (Env.ret HE.out hk hb)
      clear hk hb
      (try (go_wp2_with fail))
      refine hK.out _ _ (by with_reducible first | exact ⟨(HC.out _ HE.out.o).1, Blk.cb HE.out.o.1, (HC.out _ HE.out.o).2, (Env.c2 HE.out).1⟩ | exact ⟨(HC.out _ HE.out.drew.o).1, Blk.cb HE.out.drew.o.1, (HC.out _ HE.out.drew.o).2, (Env.c2 HE.out.drew).1⟩) (fun hHeld => ?_)
      clear hK K
      try simp only [p1, p2, p3, p4]
      have c := Env.c2 HE.out
      refine gL rfl (by kernel_rfl) (by kernel_rfl) (by rfl) (fun K hK => ?_)
      clear hHeld
      simp only [q1, q2, q3]
      go_simp
      (try (go_wp2_with fail))
      refine hK.out _ _ ?_
      clear hK K
      try simp only [p1, p2, p3, p4]
      refine NoPanic.normal ?_
      clear c
      have HE2 := znd (HE.out.put4 (.bool kt2.num.neg) (.slice kt2.num.A kt2.num.k kt2.num.c) (.bool kt2.den.neg) (.slice kt2.den.A kt2.den.k kt2.den.c))
      clear HE
      obtain ⟨W6, hW6, HE⟩ := Env.nm HE2.out
      rw [hW6]
      clear hW6 HE2
      replace HE := znd (HE.out.imp (fun V h => h) (fun V h => show LsR 5 tecells teN As ss V ∧ RatN kc cq V ∧ RatN kt2 (tq + y.2 * b.2) V from ⟨h.2.2.1, h.2.2.2.1, h.1⟩))
      go_upto_region 26 with fail
      refine wp_region_noPanic ?_
      refine wp_region_held_drew (S := (fun W => CB gf #[.int .i64 f.M, .slice f.Ac f.cols.length f.cc, .slice f.Al f.lo.length f.cl, .slice f.Ah f.hi.length f.ch, .slice f.Ak f.cost.length f.ck, .slice f.Ab f.b.length f.cb] W ∧ RC f.Ab i b W)) (by kernel_rfl) (by with_reducible first | exact ⟨Blk.cb HE.out.o.1, (HC.out _ HE.out.o).2⟩ | exact ⟨Blk.cb HE.out.drew.o.1, (HC.out _ HE.out.drew.o).2⟩) (fun hHeld => ?_)
      replace HE := znd HE.out.drew
      refine hT 0 146 hHeld ?_
      refine hT 1 147 hHeld ?_
      refine hT 3 149 hHeld ?_
      refine hT 4 150 hHeld ?_
      refine hT 5 151 hHeld ?_
      refine hT 6 152 hHeld ?_
      refine hT 7 153 hHeld ?_
      refine za8 (i := 2) rfl (by kernel_rfl) (by rfl) (fun K hK => ?_)
      clear hHeld
      simp only [q1, q2, q3]
      go_simp
      refine (zdz _ (1 + f.cols.length * (2 * 1000000000 + 2)) 400000000000 (by omega) (by omega) As cs ss (LsR.imp HE.out.n.1 fun t ht hn => RatN.rat hn (HSZ.out t ht)) (by omega) (kx6 _ _ hl5 hq1) (i : Int) HE.out.o.2.2.2.2.2.2).mono ?_
      rintro e w3 ⟨kg, rfl, hk, hb⟩
      rw [HGQ.out] at hk
      replace HE := znd (Env.ret HE.out hk hb)
      clear hk hb
      (try (go_wp2_with fail))
      refine hK.out _ _ (by with_reducible first | exact ⟨Blk.cb HE.out.o.1, (HC.out _ HE.out.o).2⟩ | exact ⟨Blk.cb HE.out.drew.o.1, (HC.out _ HE.out.drew.o).2⟩) (fun hHeld => ?_)
      clear hK K
      try simp only [p1, p2, p3, p4]
      refine za8 (i := 8) rfl (by kernel_rfl) (by rfl) (fun K hK => ?_)
      clear hHeld
      simp only [q1, q2, q3]
      go_simp
      refine (zco _ kg b.1 b.2 b.2 1000000000 (by omega) (by omega) (RatN.rat HE.out.n.1 (HBZ.out.up (by omega))) (HRA.out _ HE.out.o).2).mono ?_
      rintro e w3 ⟨rfl, hb⟩
      rw [decide_eq_true rfl]
      replace HE := znd (Env.call HE.out hb)
      clear hb
      (try (go_wp2_with fail))
      refine hK.out _ _ (by with_reducible first | exact ⟨Blk.cb HE.out.o.1, (HC.out _ HE.out.o).2⟩ | exact ⟨Blk.cb HE.out.drew.o.1, (HC.out _ HE.out.drew.o).2⟩) (fun hHeld => ?_)
      clear hK K
      try simp only [p1, p2, p3, p4]
      refine hT 9 155 hHeld ?_
      clear hHeld
      refine wpAnyH_done (by kernel_rfl) ?_ _
      refine NoPanic.normal ?_
      go_wp2_with fail
      go_roundw
      case rel => exact ⟨i + 1, kt2, _, by go_num, by omega, HNX, znd (HE.out.imp (fun V h => h) (fun V h => h.2))⟩
      case measure => (simp [intOf] <;> omega)
     ·obtain rfl : i = f.b.length := by omega
      have hnu2 : ¬ ((f.b.length : Nat) : Int) < ((f.b.length : Nat) : Int) := by omega
      have c := Env.c2 HE.out
      have HQE := znd (show cq = tq from by rw [HCO.out, HI.out.told, HTO.out]; exact zgb HB.out HV.out HDU.out)
      have Htz := znd (HI.out.sz.up (kx5 f.b.length (by omega)))
      go_wp2_with fail
      refine (zco _ kc kt cq tq 400000000000 (by omega) (by omega) (RatN.rat HE.out.n.2.1 HCZ.out) (RatN.rat HE.out.n.2.2 Htz.out)).mono ?_
      rintro e w3 ⟨rfl, hb⟩
      rw [decide_eq_true HQE.out]
      replace HE := znd (Env.call HE.out hb)
      clear hb c
      go_wp2_with fail
      refine (zd7 _ HE.out.o.2.2.2.2.2.2).mono ?_
      rintro e w9 ⟨rfl, hb⟩
      replace HE := znd (Env.call HE.out hb)
      clear hb
      go_wp2_with fail
      exact bodyPost_ret (v := .bool true) (by simp [results, Tryz.results3, go_sem]) rfl ⟨rfl, HE.out.bel⟩
open Go.ChangeShapes Go.WideShapes Go.ChangeAt Go.RowKit Go.Deep

theorem own : ownKnob Tryz.prog.godebug = none := by kernel_rfl
def zif : List (String × DataW Unit) := [("math/bits.deBruijn64tab", Rows.laid_math_bits_deBruijn64tab)]

def zmQ (cs : Array Value) : Obj → Obj
 | .cells _ t frozen => .cells cs t frozen
 | o => o
noncomputable def zdC (os : Os) : World :=
 { World.holding Tryz.prog os ⟨#[], #[], []⟩ with heap := (World.holding Tryz.prog os ⟨#[], #[], []⟩).heap.modify 2 (zmQ #[.int .u8 0, .int .u8 1, .int .u8 56, .int .u8 2, .int .u8 57, .int .u8 49, .int .u8 28, .int .u8 3, .int .u8 61, .int .u8 58, .int .u8 42, .int .u8 50, .int .u8 38, .int .u8 29, .int .u8 17, .int .u8 4, .int .u8 62, .int .u8 47, .int .u8 59, .int .u8 36, .int .u8 45, .int .u8 43, .int .u8 51, .int .u8 22, .int .u8 53, .int .u8 39, .int .u8 33, .int .u8 30, .int .u8 24, .int .u8 18, .int .u8 12, .int .u8 5, .int .u8 63, .int .u8 55, .int .u8 48, .int .u8 27, .int .u8 60, .int .u8 41, .int .u8 37, .int .u8 16, .int .u8 46, .int .u8 35, .int .u8 44, .int .u8 21, .int .u8 52, .int .u8 32, .int .u8 23, .int .u8 11, .int .u8 54, .int .u8 26, .int .u8 40, .int .u8 15, .int .u8 34, .int .u8 20, .int .u8 31, .int .u8 10, .int .u8 25, .int .u8 14, .int .u8 19, .int .u8 9, .int .u8 13, .int .u8 8, .int .u8 7, .int .u8 6]) }

theorem zix {H : Type} {enc : TypeId × Value → H} {f : Func} {s : ChangeSpec} {W W' : World} {args : Array Value} {ds : List (DataW H)} {before : List MemPlace}
 (hW : DataW.Whole enc Tryz.prog f.params.toList s.vars false W args.toList ds [] before) (hv : s.vars = []) (hr : f.resultTypes = #[4])
 (hfn : s.fn H (ds ++ []) = { results := [.lit (.bool true)], args := ds }) (hb : Below W.heap.size W W')
 (hargs : DataW.TrodAll enc Tryz.prog W' 0 (fun b => decide (b < W.heap.size)) true f.params.toList args.toList ds before) :
 s.post enc Tryz.prog f false true false false W args (.bool true) W' := by
 refine ⟨ds, [], before, [], before, [], hW, ?_, ?_, ?_, ?_, fun h => by cases h⟩
 ·rw [hfn, hr]
  exact trodAll_cons_mk (shut_bool Tryz.underlying4 _) trodAll_mk0
 ·rw [hfn]; exact hargs
 ·rw [hfn, hv]; exact rfl
 ·exact World.keptBut_mono (fun p hp => ⟨hp, .inr (.inl hp)⟩) (hb.frame (· ∈ before))

theorem gTz : Tryz.prog.globalNamed "math/bits.deBruijn64tab" = some 2 := by kernel_rfl
theorem zlD : (Tryz.prog.globals[(2 : Nat)]?).map (·.type) = some 184 := by kernel_rfl
theorem zm6 : Tryz.prog.cellsOf 184 = 64 := by kernel_rfl
theorem zlb : Tryz.prog.cellsOf 5 = 1 := by kernel_rfl
theorem zn9 {W : World} (h : laidMetH Tryz.prog zif W) : Tz W := by
 have h1 := Lib.tabIs_of_head (rest := []) (zs := Lib.deBruijn64tab.map fun n : Nat => (n : Int)) gTz zlD Tryz.underlying184 Tryz.underlying5 zlb zm6 (show laidMet Tryz.prog zif W from h)
 unfold Lib.TabIs World.var? at h1
 simp only [gTz, Option.bind_some] at h1
 intro j hj
 cases hh : W.heap[(2 : Nat)]? with
 | none => rw [hh] at h1; simp at h1
 | some o =>
  rw [hh] at h1
  cases o with
  | cells cs t fr =>
   have e : cs = ((Lib.deBruijn64tab.map fun n : Nat => (n : Int)).map fun z => Value.int .u8 z).toArray := by simpa using h1
   rw [Joins.cell_of_block hh, e]
   simp [List.getD, hj]
  | _ => simp at h1
theorem ziF : laidOutB Tryz.prog = true := by kernel_rfl
theorem zgt : Tryz.prog.cellsOf 138 = 1 := by kernel_rfl
theorem zgA : Tryz.prog.cellsOf 46 = 2 := by kernel_rfl
def zlk : Value → Nat
 | .int _ z => z.toNat
 | _ => 0
theorem zeV {w : World} {a : Addr} {v : Value} (h : w.cell? a = some v) : a.spot = none := by
 unfold World.cell? at h
 split at h
 ·split at h
  ·cases h
  ·rename_i h2; simpa using h2
 ·cases h
theorem zip {H : Type} {enc : TypeId × Value → H} {W : World} {b : Nat} {sp : Nat → Bool} {hd : Bool} {n : Nat} {v : Value} {y : DataW H × List MemPlace} (h : DataW.trod enc Tryz.prog W b sp hd n 44 [v] = some y) :
 ∃ A c l, v = .slice A (List.length l) c ∧ l.length ≤ c ∧ c ≤ maxLen ∧ Rd W .u64 A l ∧ ∀ x ∈ l, x < B64 := by
 rcases open_slice1 Tryz.underlying44 zgt h with ⟨h1, -⟩ | ⟨a, len, cap, m, k, V, D, Pl, h1, -, hl, hm, hmm, -, hx⟩
 ·exact ⟨none, 0, [], by simpa using h1, by simp, by simp, Rd.nil_ _ _, by simp⟩
 ·have hlm : len ≤ m := by rw [hmm]; split <;> omega
  have hV : ∀ i, i < len → ∃ z : Nat, V i = .int .u64 (z : Int) ∧ z < B64 := fun i hi => by
   obtain ⟨z, h2, -, hw⟩ := DataW.trod_int Tryz.underlying138 (hx i (by omega)).2
   have hz := bounds_u64 hw
   refine ⟨z.toNat, ?_, by simp only [B64]; omega⟩
   have : V i = .int .u64 z := by simpa using h2
   rw [this, Int.toNat_of_nonneg hz.1]
  refine ⟨some a, cap, (List.range len).map fun i => zlk (V i), by simpa using h1, by simpa using hl, hm, ⟨?_, ?_⟩, ?_⟩
  ·intro h0
   have h0' : 0 < len := by simpa using h0
   have := zeV (hx 0 (by omega)).1
   obtain ⟨ab, ao, asp⟩ := a
   have e : asp = none := by simpa [Addr.add] using this
   exact ⟨ab, ao, by rw [e]⟩
  ·intro i hi
   have hi' : i < len := by simpa using hi
   obtain ⟨z, hz, -⟩ := hV i hi'
   have hc := (hx i (by omega)).1
   have hs := zeV (hx 0 (by omega)).1
   obtain ⟨ab, ao, asp⟩ := a
   have e : asp = none := by simpa [Addr.add] using hs
   subst e
   rw [zaf] at hc
   rw [za6, hc, hz]
   simp [nth, List.getD, hi', hz, zlk]
  ·intro x hx'
   obtain ⟨i, hi, rfl⟩ := List.mem_map.1 hx'
   obtain ⟨z, hz, hlt⟩ := hV i (by simpa using hi)
   rw [hz]
   simpa [zlk] using hlt
theorem zcT : Tryz.prog.cellsOf 48 = 4 := by kernel_rfl
theorem zfe : Tryz.prog.cellsOf 4 = 1 := by kernel_rfl
theorem zet : Tryz.prog.cellsOf 44 = 1 := by kernel_rfl
theorem zi2 {H : Type} {enc : TypeId × Value → H} {W : World} {b : Nat} {sp : Nat → Bool} {hd : Bool} {n : Nat} {v0 v1 : Value} {y : DataW H × List MemPlace} (h : DataW.trod enc Tryz.prog W b sp hd n 46 [v0, v1] = some y) :
 ∃ i : IV, v0 = .bool i.neg ∧ v1 = .slice i.A i.k i.c ∧ ∃ z, IntD i z i.k W := by
 obtain ⟨y0, y1, m, -, -, h0, h1⟩ := trod_struct2 Tryz.underlying46 h
 have k0 : DataW.trod enc Tryz.prog W b sp hd m 4 [v0] = some y0 := by simpa [zfe] using h0
 have k1 : DataW.trod enc Tryz.prog W b sp hd m 44 [v1] = some y1 := by simpa [zet] using h1
 obtain ⟨neg, h2, -⟩ := DataW.trod_bool Tryz.underlying4 k0
 obtain ⟨A, c, l, rfl, h3, h4, h5, h6⟩ := zip k1
 obtain rfl : v0 = .bool neg := by simpa using h2
 exact ⟨⟨neg, A, l.length, c⟩, rfl, rfl, _, ⟨⟨l, rfl, h5, h6, rfl⟩, h3, Nat.le_refl _⟩⟩
theorem zn4 {α : Type} {l : List α} (h : l.length = 4) : ∃ a b c d, l = [a, b, c, d] := by
 match l, h with
 | [a, b, c, d], _ => exact ⟨a, b, c, d, rfl⟩
theorem zmW {α : Type} {l : List α} (h : l.length = 5) : ∃ a b c d e, l = [a, b, c, d, e] := by
 match l, h with
 | [a, b, c, d, e], _ => exact ⟨a, b, c, d, e, rfl⟩
theorem list1 {α : Type} {l : List α} (h : l.length = 1) : ∃ a, l = [a] := by
 match l, h with
 | [a], _ => exact ⟨a, rfl⟩
theorem zgF {H : Type} (d : DataW H) : 1 ≤ Rows.uptoBulk d := by
 cases d with
 | lit l => cases l <;> simp [Rows.uptoBulk]
 | nil => simp [Rows.uptoBulk]
 | ptr d => simp [Rows.uptoBulk]
 | slice elems spare => simp [Rows.uptoBulk]
 | agg parts => simp [Rows.uptoBulk]
 | iface t d => simp [Rows.uptoBulk]
 | map entries => simp [Rows.uptoBulk]
 | held h => simp [Rows.uptoBulk]
theorem zdQ {H : Type} {d : DataW H} {l : List (DataW H)} (h : d ∈ l) : Rows.uptoBulk d ≤ Rows.uptoBulkAll l := by
 induction l with
 | nil => cases h
 | cons x r ih =>
  simp only [Rows.uptoBulkAll]
  rcases List.mem_cons.1 h with rfl | e
  ·omega
  ·have := ih e; omega
theorem zjV {H : Type} (l : List (DataW H)) : l.length ≤ Rows.uptoBulkAll l := by
 induction l with
 | nil => simp [Rows.uptoBulkAll]
 | cons x r ih => have := zgF x; simp only [Rows.uptoBulkAll, List.length_cons]; omega
theorem zbh {H : Type} {d : DataW H} {l : List (DataW H)} (h : d ∈ l) : Rows.uptoBulk d ≤ Rows.uptoBulk (.agg l) := by
 have := zdQ h
 simp only [Rows.uptoBulk]; omega
theorem ziP {H : Type} {d : DataW H} {l r : List (DataW H)} (h : d ∈ l) : Rows.uptoBulk d ≤ Rows.uptoBulk (.slice l r) := by
 have := zdQ h
 simp only [Rows.uptoBulk]; omega
theorem zk9 {H : Type} {l : List (DataW H)} (hk : Rows.uptoSmall H l = true) : Rows.uptoBulkAll l ≤ 1048576 := of_decide_eq_true hk

theorem zjW {H : Type} {m : Nat} {l : List (DataW H)} (h : ∀ d ∈ l, m ≤ Rows.uptoBulk d) : l.length * m ≤ Rows.uptoBulkAll l := by
 induction l with
 | nil => simp
 | cons x r ih =>
  have h1 := ih fun d hd => h d (List.mem_cons_of_mem _ hd)
  have h2 := h x (List.mem_cons_self ..)
  simp only [Rows.uptoBulkAll, List.length_cons, Nat.add_mul]
  omega
theorem zmK {α : Type} {x : Array α} (h : x.size = 3) : ∃ a b c, x = #[a, b, c] := by
 obtain ⟨l⟩ := x
 match l, h with
 | [a, b, c], _ => exact ⟨a, b, c, rfl⟩
theorem array2 {α : Type} {x : Array α} (h : x.size = 2) : ∃ a b, x = #[a, b] := by
 obtain ⟨l⟩ := x
 match l, h with
 | [a, b], _ => exact ⟨a, b, rfl⟩
theorem zn6 {α : Type} {l : List α} (h : l.length = 9) : ∃ a b c d e f g i j, l = [a, b, c, d, e, f, g, i, j] := by
 match l, h with
 | [a, b, c, d, e, f, g, i, j], _ => exact ⟨a, b, c, d, e, f, g, i, j, rfl⟩
theorem zn0 {α : Type} {l : List α} (h : l.length = 6) : ∃ a b c d e f, l = [a, b, c, d, e, f] := by
 match l, h with
 | [a, b, c, d, e, f], _ => exact ⟨a, b, c, d, e, f, rfl⟩
theorem okWide_array {P : Program} {w : World} {r : Reach} {base n : Nat} {t e : TypeId} {v : Value} (ht : P.underlying t = some (.array n e)) (h : Value.okWide P w r base t v) : ∃ cs, v = .agg cs ∧ cs.size = P.cellsOf t := by
 simp only [Value.okWide, ht] at h
 obtain ⟨cs, h1, h2, _⟩ := h
 exact ⟨cs, h1, h2⟩
instance : Inhabited TeV := ⟨⟨0, za9, 0⟩⟩
section
variable {H : Type} {enc : TypeId × Value → H} {w : World} {b : Nat} {sp : Nat → Bool} {hd : Bool}
theorem ziO {α : Type} [Inhabited α] {t e : TypeId} {k : Nat} {cells : α → Array Value} {φ : α → Prop} (ht : Tryz.prog.underlying t = some (.slice e)) (hc : Tryz.prog.cellsOf e = k) (hk : 0 < k)
 (hq : ∀ n cs y, cs.length = k → DataW.trod enc Tryz.prog w b sp hd n e cs = some y → ∃ x, cs = (cells x).toList ∧ φ x) {v : Value} {n : Nat} {y : DataW H × List MemPlace} (h : DataW.trod enc Tryz.prog w b sp hd n t [v] = some y) :
 ∃ A c l, v = .slice A (List.length l) c ∧ l.length ≤ c ∧ El w k A (l.map cells) ∧ ∀ x ∈ l, φ x := by
 subst hc
 rcases open_slice ht h with ⟨h1, -⟩ | ⟨a, len, cap, m, n, D, Pl, h1, -, hl, hm, hmm, hy, hx⟩
 ·exact ⟨none, 0, [], by simpa using h1, by simp, El.nil_ _ _ _, by simp⟩
 ·have hlm : len ≤ m := by rw [hmm]; split <;> omega
  obtain ⟨f, hf⟩ := choose_lt (n := len) (p := fun i x => w.cells? b (a.add (i * Tryz.prog.cellsOf e)) (Tryz.prog.cellsOf e) = some (cells x).toList ∧ φ x) fun i hi => by
   obtain ⟨cs, h2, h3⟩ := hx i (by omega)
   obtain ⟨x, rfl, h4⟩ := hq _ _ _ (World.cells?_some h2).2.1 h3
   exact ⟨x, h2, h4⟩
  have hce : ∀ i, i < len → (cells (f i)).size = Tryz.prog.cellsOf e ∧ ∀ j, j < Tryz.prog.cellsOf e → w.cell? ((a.add (i * Tryz.prog.cellsOf e)).add j) = (cells (f i))[j]? := fun i hi => by
   obtain ⟨-, h2, h3⟩ := World.cells?_some (hf i hi).1
   exact ⟨by simpa using h2, fun j hj => by simpa using h3 j hj⟩
  have hsp : 0 < len → a.spot = none := fun h0 => by
   obtain ⟨h2, h3⟩ := hce 0 h0
   have h4 := h3 0 hk
   have h5 : 0 < (cells (f 0)).size := by omega
   rw [Array.getElem?_eq_getElem h5] at h4
   have := zeV h4
   simpa [Addr.add] using this
  refine ⟨some a, cap, (List.range len).map f, by simpa using h1, by simpa using hl, ⟨?_, ?_, ?_⟩, ?_⟩
  ·intro h0
   have h0' : 0 < len := by simpa using h0
   obtain ⟨ab, ao, asp⟩ := a
   have : asp = none := hsp h0'
   exact ⟨ab, ao, by rw [this]⟩
  ·intro i hi
   have hi' : i < len := by simpa using hi
   simpa using (hce i hi').1
  ·intro i hi j hj
   have hi' : i < len := by simpa using hi
   have hc := (hce i hi').2 j hj
   have hs := hsp (by omega)
   obtain ⟨ab, ao, asp⟩ := a
   have e : asp = none := hs
   subst e
   rw [zaf, zaf, Nat.add_assoc] at hc
   rw [za6, hc]
   simp
  ·intro x hx'
   obtain ⟨i, hi, rfl⟩ := List.mem_map.1 hx'
   have hi' : i < len := by simpa using hi
   exact (hf i hi').2
theorem zde {α : Type} [Inhabited α] {t e : TypeId} {k : Nat} {cells : α → Array Value} {φ : α → Prop} (ht : Tryz.prog.underlying t = some (.slice e)) (hc : Tryz.prog.cellsOf e = k) (hk : 0 < k)
 {m0 : Nat} (hq : ∀ n cs y, cs.length = k → DataW.trod enc Tryz.prog w b sp hd n e cs = some y → Rows.uptoBulk y.1 ≤ 1048576 → m0 ≤ Rows.uptoBulk y.1 ∧ ∃ x, cs = (cells x).toList ∧ φ x) {v : Value} {n : Nat} {y : DataW H × List MemPlace} (h : DataW.trod enc Tryz.prog w b sp hd n t [v] = some y) (hB : Rows.uptoBulk y.1 ≤ 1048576) :
 ∃ A c l, v = .slice A (List.length l) c ∧ l.length ≤ c ∧ El w k A (l.map cells) ∧ (∀ x ∈ l, φ x) ∧ l.length * m0 ≤ 1048576 := by
 subst hc
 rcases open_slice ht h with ⟨h1, -⟩ | ⟨a, len, cap, m, n, D, Pl, h1, -, hl, hm, hmm, hy, hx⟩
 ·exact ⟨none, 0, [], by simpa using h1, by simp, El.nil_ _ _ _, by simp, by simp⟩
 ·have hlm : len ≤ m := by rw [hmm]; split <;> omega
  have hbk : ∀ i, i < len → Rows.uptoBulk (D i) ≤ Rows.uptoBulk y.1 := fun i hi => by
   rw [hy]
   exact ziP (List.mem_map.2 ⟨i, by simpa using hi, rfl⟩)
  have hm0 : ∀ i, i < len → m0 ≤ Rows.uptoBulk (D i) := fun i hi => by
   obtain ⟨cs, h2, h3⟩ := hx i (by omega)
   exact (hq _ _ _ (World.cells?_some h2).2.1 h3 (Nat.le_trans (hbk i hi) hB)).1
  obtain ⟨f, hf⟩ := choose_lt (n := len) (p := fun i x => w.cells? b (a.add (i * Tryz.prog.cellsOf e)) (Tryz.prog.cellsOf e) = some (cells x).toList ∧ φ x) fun i hi => by
   obtain ⟨cs, h2, h3⟩ := hx i (by omega)
   obtain ⟨-, x, rfl, h4⟩ := hq _ _ _ (World.cells?_some h2).2.1 h3 (Nat.le_trans (hbk i hi) hB)
   exact ⟨x, h2, h4⟩
  have hce : ∀ i, i < len → (cells (f i)).size = Tryz.prog.cellsOf e ∧ ∀ j, j < Tryz.prog.cellsOf e → w.cell? ((a.add (i * Tryz.prog.cellsOf e)).add j) = (cells (f i))[j]? := fun i hi => by
   obtain ⟨-, h2, h3⟩ := World.cells?_some (hf i hi).1
   exact ⟨by simpa using h2, fun j hj => by simpa using h3 j hj⟩
  have hsp : 0 < len → a.spot = none := fun h0 => by
   obtain ⟨h2, h3⟩ := hce 0 h0
   have h4 := h3 0 hk
   have h5 : 0 < (cells (f 0)).size := by omega
   rw [Array.getElem?_eq_getElem h5] at h4
   have := zeV h4
   simpa [Addr.add] using this
  refine ⟨some a, cap, (List.range len).map f, by simpa using h1, by simpa using hl, ⟨?_, ?_, ?_⟩, ?_, ?_⟩
  ·intro h0
   have h0' : 0 < len := by simpa using h0
   obtain ⟨ab, ao, asp⟩ := a
   have : asp = none := hsp h0'
   exact ⟨ab, ao, by rw [this]⟩
  ·intro i hi
   have hi' : i < len := by simpa using hi
   simpa using (hce i hi').1
  ·intro i hi j hj
   have hi' : i < len := by simpa using hi
   have hc := (hce i hi').2 j hj
   have hs := hsp (by omega)
   obtain ⟨ab, ao, asp⟩ := a
   have e : asp = none := hs
   subst e
   rw [zaf, zaf, Nat.add_assoc] at hc
   rw [za6, hc]
   simp
  ·intro x hx'
   obtain ⟨i, hi, rfl⟩ := List.mem_map.1 hx'
   have hi' : i < len := by simpa using hi
   exact (hf i hi').2
  ·have h9 := zjW (m := m0) (l := (List.range len).map D) (fun d hd => by
    obtain ⟨i, hi, rfl⟩ := List.mem_map.1 hd
    exact hm0 i (by simpa using hi))
   rw [hy] at hB
   simp only [Rows.uptoBulk] at hB
   simp at h9 ⊢
   omega
theorem zfl : Tryz.prog.cellsOf 65 = 5 := by kernel_rfl
theorem zjQ : Tryz.prog.cellsOf 3 = 1 := by kernel_rfl
theorem zgD : Tryz.prog.cellsOf 25 = 1 := by kernel_rfl
theorem zgR : Tryz.prog.cellsOf 62 = 9 := by kernel_rfl
theorem zgp : Tryz.prog.cellsOf 68 = 6 := by kernel_rfl
theorem zhY : Tryz.prog.cellsOf 66 = 1 := by kernel_rfl
theorem ziI : Tryz.prog.cellsOf 22 = 1 := by kernel_rfl
theorem ziL : Tryz.prog.cellsOf 23 = 1 := by kernel_rfl
theorem zir : Tryz.prog.cellsOf 27 = 3 := by kernel_rfl
theorem znl {n : Nat} {cs : List Value} {y : DataW H × List MemPlace} (h : DataW.trod enc Tryz.prog w b sp hd n 48 cs = some y) : ∃ p : RV × Rat, cs = (za0 p).toList ∧ okR p w := by
 obtain ⟨y0, y1, m, -, hl, h0, h1⟩ := trod_struct2 Tryz.underlying48 h
 rw [zcT] at hl
 obtain ⟨c0, c1, c2, c3, rfl⟩ := zn4 hl
 have k0 : DataW.trod enc Tryz.prog w b sp hd m 46 [c0, c1] = some y0 := by simpa [zgA] using h0
 have k1 : DataW.trod enc Tryz.prog w b sp hd m 46 [c2, c3] = some y1 := by simpa [zgA] using h1
 obtain ⟨i, rfl, rfl, x, hx⟩ := zi2 k0
 obtain ⟨j, rfl, rfl, y', hy⟩ := zi2 k1
 exact ⟨(⟨i, j⟩, if j.k = 0 then Rat.divInt x 1 else Rat.divInt x y'), rfl, x, y', hx.mono (Nat.le_add_right _ _), hy.mono (Nat.le_add_left _ _), rfl⟩
theorem rats_el {n : Nat} {v : Value} {y : DataW H × List MemPlace} (h : DataW.trod enc Tryz.prog w b sp hd n 30 [v] = some y) : ∃ A c l, v = .slice A (List.length l) c ∧ l.length ≤ c ∧ LsR 4 za0 okR A l w := by
 obtain ⟨A, c, l, h1, h2, h3, h4⟩ := ziO (cells := za0) (φ := fun p => okR p w) Tryz.underlying30 zcT (by decide) (fun n cs y _ h => znl h) h
 exact ⟨A, c, l, h1, h2, h3, h4⟩
theorem zhn {n : Nat} {A : Option Addr} {k c : Nat} {y : DataW H × List MemPlace} (h : DataW.trod enc Tryz.prog w b sp hd n 44 [.slice A k c] = some y) : k ≤ Rows.uptoBulk y.1 := by
 rcases open_slice1 Tryz.underlying44 zgt h with ⟨h1, -⟩ | ⟨a, len, cap, m, n, V, D, Pl, h1, -, hl, hm, hmm, hy, hx⟩
 ·have : k = 0 := by simpa using (by simpa using h1 : A = none ∧ k = 0 ∧ c = 0).2.1
  omega
 ·have e : A = some a ∧ k = len ∧ c = cap := by simpa using h1
  rw [hy, e.2.1]
  simp only [Rows.uptoBulk]
  have := zjV ((List.range len).map D)
  simp at this ⊢
  omega
theorem zdZ {n : Nat} {v0 v1 : Value} {y : DataW H × List MemPlace} (h : DataW.trod enc Tryz.prog w b sp hd n 46 [v0, v1] = some y) :
 ∃ i : IV, v0 = .bool i.neg ∧ v1 = .slice i.A i.k i.c ∧ (∃ z, IntD i z i.k w) ∧ i.k ≤ Rows.uptoBulk y.1 := by
 obtain ⟨i, rfl, rfl, hz⟩ := zi2 h
 obtain ⟨y0, y1, m, hy, -, h0, h1⟩ := trod_struct2 Tryz.underlying46 h
 have k1 : DataW.trod enc Tryz.prog w b sp hd m 44 [.slice i.A i.k i.c] = some y1 := by simpa [zet] using h1
 refine ⟨i, rfl, rfl, hz, Nat.le_trans (zhn k1) ?_⟩
 rw [hy]
 exact zbh (by simp)
theorem zdv {n : Nat} {cs : List Value} {y : DataW H × List MemPlace} (h : DataW.trod enc Tryz.prog w b sp hd n 48 cs = some y) (hB : Rows.uptoBulk y.1 ≤ 1048576) : ∃ p : RV × Rat, cs = (za0 p).toList ∧ RatD p.1 p.2 1048576 w := by
 obtain ⟨y0, y1, m, hy, hl, h0, h1⟩ := trod_struct2 Tryz.underlying48 h
 rw [zcT] at hl
 obtain ⟨c0, c1, c2, c3, rfl⟩ := zn4 hl
 have k0 : DataW.trod enc Tryz.prog w b sp hd m 46 [c0, c1] = some y0 := by simpa [zgA] using h0
 have k1 : DataW.trod enc Tryz.prog w b sp hd m 46 [c2, c3] = some y1 := by simpa [zgA] using h1
 obtain ⟨i, rfl, rfl, ⟨x, hx⟩, b0⟩ := zdZ k0
 obtain ⟨j, rfl, rfl, ⟨y', hy'⟩, b1⟩ := zdZ k1
 have a0 : Rows.uptoBulk y0.1 ≤ 1048576 := Nat.le_trans (by rw [hy]; exact zbh (by simp)) hB
 have a1 : Rows.uptoBulk y1.1 ≤ 1048576 := Nat.le_trans (by rw [hy]; exact zbh (by simp)) hB
 exact ⟨(⟨i, j⟩, if j.k = 0 then Rat.divInt x 1 else Rat.divInt x y'), rfl, x, y', hx.mono (Nat.le_trans b0 a0), hy'.mono (Nat.le_trans b1 a1), rfl⟩
theorem zi4 {n : Nat} {cs : List Value} {y : DataW H × List MemPlace} (h : DataW.trod enc Tryz.prog w b sp hd n 65 cs = some y) (hB : Rows.uptoBulk y.1 ≤ 1048576) : 2 ≤ Rows.uptoBulk y.1 ∧ ∃ t : TeV, cs = (tecells t).toList ∧ teD 1048576 t w := by
 obtain ⟨y0, y1, m, hy, hl, h0, h1⟩ := trod_struct2 Tryz.underlying65 h
 rw [zfl] at hl
 obtain ⟨c0, c1, c2, c3, c4, rfl⟩ := zmW hl
 have k0 : DataW.trod enc Tryz.prog w b sp hd m 3 [c0] = some y0 := by simpa [zjQ] using h0
 have k1 : DataW.trod enc Tryz.prog w b sp hd m 48 [c1, c2, c3, c4] = some y1 := by simpa [zcT] using h1
 obtain ⟨z, e0, -, -⟩ := DataW.trod_int Tryz.underlying3 k0
 obtain ⟨p, e, hp⟩ := zdv k1 (Nat.le_trans (by rw [hy]; exact zbh (by simp)) hB)
 obtain rfl : c0 = .int .i64 z := by simpa using e0
 refine ⟨?_, ⟨z, p.1, p.2⟩, by rw [e]; rfl, hp⟩
 rw [hy]
 have := zgF y0.1
 simp only [Rows.uptoBulk, Rows.uptoBulkAll]
 omega
theorem zf0 {n : Nat} {v : Value} {y : DataW H × List MemPlace} (h : DataW.trod enc Tryz.prog w b sp hd n 25 [v] = some y) (hB : Rows.uptoBulk y.1 ≤ 1048576) : ∃ A c l, v = .slice A (List.length l) c ∧ LsR 5 tecells (teD 1048576) A l w ∧ l.length ≤ 1000000 := by
 obtain ⟨A, c, l, h1, -, h3, h4, h5⟩ := zde (cells := tecells) (φ := fun t => teD 1048576 t w) Tryz.underlying25 zfl (by decide) (fun n cs y _ h hB => zi4 h hB) h hB
 exact ⟨A, c, l, h1, ⟨h3, h4⟩, by omega⟩
theorem var_oneN {n : Nat} {cs : List Value} {y : DataW H × List MemPlace} (h : DataW.trod enc Tryz.prog w b sp hd n 62 cs = some y) (hB : Rows.uptoBulk y.1 ≤ 1048576) : ∃ v : VaV, cs = (zap v).toList ∧ vaD 1048576 v w := by
 obtain ⟨y0, y1, y2, m, hy, hl, h0, h1, h2⟩ := trod_struct3 Tryz.underlying62 h
 rw [zgR] at hl
 obtain ⟨c0, c1, c2, c3, c4, c5, c6, c7, c8, rfl⟩ := zn6 hl
 have k0 : DataW.trod enc Tryz.prog w b sp hd m 48 [c0, c1, c2, c3] = some y0 := by simpa [zcT] using h0
 have k1 : DataW.trod enc Tryz.prog w b sp hd m 48 [c4, c5, c6, c7] = some y1 := by simpa [zcT] using h1
 have k2 : DataW.trod enc Tryz.prog w b sp hd m 4 [c8] = some y2 := by simpa [zfe] using h2
 obtain ⟨p, e, hp⟩ := zdv k0 (Nat.le_trans (by rw [hy]; exact zbh (by simp)) hB)
 obtain ⟨q, e', hq⟩ := zdv k1 (Nat.le_trans (by rw [hy]; exact zbh (by simp)) hB)
 obtain ⟨B, h3, -⟩ := DataW.trod_bool Tryz.underlying4 k2
 obtain rfl : c8 = .bool B := by simpa using h3
 unfold za0 at e e'
 simp only [List.cons.injEq, and_true] at e e'
 obtain ⟨rfl, rfl, rfl, rfl⟩ := e
 obtain ⟨rfl, rfl, rfl, rfl⟩ := e'
 exact ⟨⟨p, q, B⟩, rfl, hp, hq⟩
theorem row_oneN {n : Nat} {cs : List Value} {y : DataW H × List MemPlace} (h : DataW.trod enc Tryz.prog w b sp hd n 68 cs = some y) (hB : Rows.uptoBulk y.1 ≤ 1048576) : ∃ r : RoV, cs = (zdK r).toList ∧ rwD 1048576 r w ∧ r.ts.length ≤ 1000000 := by
 obtain ⟨y0, y1, y2, m, hy, hl, h0, h1, h2⟩ := trod_struct3 Tryz.underlying68 h
 rw [zgp] at hl
 obtain ⟨c0, c1, c2, c3, c4, c5, rfl⟩ := zn0 hl
 have k0 : DataW.trod enc Tryz.prog w b sp hd m 25 [c0] = some y0 := by simpa [zgD] using h0
 have k1 : DataW.trod enc Tryz.prog w b sp hd m 66 [c1] = some y1 := by simpa [zhY] using h1
 have k2 : DataW.trod enc Tryz.prog w b sp hd m 48 [c2, c3, c4, c5] = some y2 := by simpa [zcT] using h2
 obtain ⟨A, c, l, rfl, hA, hn⟩ := zf0 k0 (Nat.le_trans (by rw [hy]; exact zbh (by simp)) hB)
 obtain ⟨z, e1, -, -⟩ := DataW.trod_int Tryz.underlying66 k1
 obtain ⟨q, e', hq⟩ := zdv k2 (Nat.le_trans (by rw [hy]; exact zbh (by simp)) hB)
 obtain rfl : c1 = .int .u8 z := by simpa using e1
 unfold za0 at e'
 simp only [List.cons.injEq, and_true] at e'
 obtain ⟨rfl, rfl, rfl, rfl⟩ := e'
 exact ⟨⟨A, c, l, z, q⟩, rfl, ⟨hA, hq⟩, hn⟩
set_option maxRecDepth 100000 in
theorem zkA {b0 : Nat} {rr : Reach} {v : Value} {d : DataW H} {p : List MemPlace} (hv : Value.okWide Tryz.prog w rr b0 27 v) (h : DataW.Trod enc Tryz.prog w b sp hd 27 v d p) (hB : Rows.uptoBulk d ≤ 1048576) :
 ∃ f : PrV, v = .agg #[.slice f.Av f.vars.length f.cv, .slice f.Ar f.rows.length f.cr, .slice f.Ak f.cost.length f.ck] ∧ PrD 1048576 f w ∧ (∀ r ∈ f.rows, r.ts.length ≤ 1000000) ∧ f.cost.length ≤ 1000000 := by
 obtain ⟨cs, rfl, hsz⟩ := okWide_struct Tryz.underlying27 hv
 obtain ⟨c0, c1, c2, rfl⟩ := zmK (hsz.trans zir)
 obtain ⟨fuel, hf⟩ := h
 obtain ⟨y0, y1, y2, n, hy, -, h0, h1, h2⟩ := trod_struct3 Tryz.underlying27 hf
 have k0 : DataW.trod enc Tryz.prog w b sp hd n 22 [c0] = some y0 := by simpa [Value.cells, ziI] using h0
 have k1 : DataW.trod enc Tryz.prog w b sp hd n 23 [c1] = some y1 := by simpa [Value.cells, ziL] using h1
 have k2 : DataW.trod enc Tryz.prog w b sp hd n 25 [c2] = some y2 := by simpa [Value.cells, zgD] using h2
 have hd : d = .agg [y0.1, y1.1, y2.1] := congrArg Prod.fst hy
 obtain ⟨A0, q0, l0, rfl, -, g0, f0, -⟩ := zde (m0 := 0) (cells := zap) (φ := fun v => vaD 1048576 v w) Tryz.underlying22 zgR (by decide) (fun n cs y _ h hB => ⟨Nat.zero_le _, var_oneN h hB⟩) k0 (Nat.le_trans (by rw [hd]; exact zbh (by simp)) hB)
 obtain ⟨A1, q1, l1, rfl, -, g1, f1, -⟩ := zde (m0 := 0) (cells := zdK) (φ := fun r => rwD 1048576 r w ∧ r.ts.length ≤ 1000000) Tryz.underlying23 zgp (by decide) (fun n cs y _ h hB => ⟨Nat.zero_le _, row_oneN h hB⟩) k1 (Nat.le_trans (by rw [hd]; exact zbh (by simp)) hB)
 obtain ⟨A2, q2, l2, rfl, g2, hn2⟩ := zf0 k2 (Nat.le_trans (by rw [hd]; exact zbh (by simp)) hB)
 exact ⟨⟨A0, q0, l0, A1, q1, l1, A2, q2, l2⟩, rfl, ⟨⟨g0, f0⟩, ⟨g1, fun r hr => (f1 r hr).1⟩, g2⟩, fun r hr => (f1 r hr).2, hn2⟩
theorem zge : Tryz.prog.cellsOf 51 = 1 := by kernel_rfl
theorem zmw {n : Nat} {cs : List Value} {y : DataW H × List MemPlace} (hl : cs.length = 1) (h : DataW.trod enc Tryz.prog w b sp hd n 51 cs = some y) : ∃ z : Int, cs = (stc z).toList ∧ True := by
 match cs, hl with
 | [c0], _ =>
  obtain ⟨z, e0, -, -⟩ := DataW.trod_int Tryz.underlying51 h
  obtain rfl : c0 = .int .u8 z := by simpa using e0
  exact ⟨z, rfl, trivial⟩
set_option maxRecDepth 100000 in
theorem zlH {b0 : Nat} {rr : Reach} {v : Value} {d : DataW H} {p : List MemPlace} (hv : Value.okWide Tryz.prog w rr b0 28 v) (h : DataW.Trod enc Tryz.prog w b sp hd 28 v d p) :
 ∃ A c l, v = .slice A (List.length l) c ∧ l.length ≤ c ∧ LsR 1 stc (fun _ _ => True) A l w := by
 obtain ⟨a, len, cap, rfl⟩ := okWide_slice Tryz.underlying28 hv
 obtain ⟨n, hf⟩ := h
 obtain ⟨A, c, l, h1, h2, h3, h4⟩ := ziO (cells := stc) (φ := fun _ => True) Tryz.underlying28 zge (by decide) (fun n cs y hl h => zmw hl h) hf
 exact ⟨A, c, l, h1, h2, h3, fun _ _ => trivial⟩
end
end Go.Proofs.YtfdmajmhmligpaaGreatDoor
namespace Go.Proofs.YtfdmajmhmligpaaGreatDoor.pointSolves
set_option maxHeartbeats 20000000
open Go.ChangeShapes Go.WideShapes Go.ChangeAt Go.RowKit Go.ChangeMaps

set_option maxRecDepth 100000 in
theorem zkh (H : Type) (enc : TypeId × Value → H) (W : World) (base : Nat) (args : Array Value) (ds gs : List (DataW H)) (before : List MemPlace)
 (hval : ∀ (j : Nat) t v, Tryz.f3.params[j]? = some t → args[j]? = some v → Value.okWide Tryz.prog W .any base t v)
 (hW : DataW.Whole enc Tryz.prog Tryz.f3.params.toList Rows.pointSolvesSpec.vars false W args.toList ds gs before) (hL : laidMetH Tryz.prog Rows.pointSolvesUptoRow.laid W) (hk : Rows.uptoSmall H (ds ++ gs) = true) :
 Calls Tryz.prog 3 args W fun e W' => ∃ v, e = .returned v ∧ Rows.pointSolvesSpec.post enc Tryz.prog Tryz.f3 false true false false W args v W' := by
 have hW' := hW
 have hlt := hW.lt
 obtain ⟨p, q, hA, hV, rfl, hfz, hnd⟩ := hW
 obtain ⟨rfl, rfl⟩ := trodVars_none hV
 rw [Tryz.params3] at hA
 obtain ⟨v0, vs0, d0, ds0, p0, q0, hargs, rfl, rfl, h0, t0⟩ := trodAll_cons hA
 obtain ⟨v1, vs1, d1, ds1, p1, q1, rfl, rfl, rfl, h1, t1⟩ := trodAll_cons t0
 obtain ⟨rfl, rfl, rfl⟩ := trodAll_nil t1
 obtain rfl : args = #[v0, v1] := by cases args; simp_all
 have hbk := zk9 (by simpa only [List.append_nil] using hk)
 obtain ⟨f0, rfl, x0, ht0, hk0⟩ := zkA (hval 0 _ v0 (by rw [Tryz.params3]; rfl) rfl) h0 (Nat.le_trans (zdQ (by simp)) hbk)
 obtain ⟨A1, c1, l1, rfl, -, hr1⟩ := zlH (hval 1 _ v1 (by rw [Tryz.params3]; rfl) rfl) h1
 refine (zdF W 1048576 (by decide) (by decide) f0 x0 ht0 hk0 A1 c1 l1 hr1 (zn9 hL)).mono fun e W' ⟨he, hb⟩ => ?_
 subst he
 exact ⟨_, rfl, zix hW' rfl rfl rfl hb (by rw [Tryz.params3]; simpa only [List.append_nil] using trodAll_cons_mk (Below.trod ziF (by kernel_rfl) (of_decide_eq_true (by kernel_rfl)) h0 hb (fun x hx => hlt x (by simp [hx]))) (trodAll_cons_mk (Below.trod ziF (by kernel_rfl) (of_decide_eq_true (by kernel_rfl)) h1 hb (fun x hx => hlt x (by simp [hx]))) (trodAll_mk0)))⟩

theorem zjt (os : Os) : laidMet Tryz.prog Rows.pointSolvesUptoRow.laid ((zdC os).forCall (fun _ _ => 0) ⟨#[], #[.agg #[.slice none 0 0, .slice none 0 0, .slice none 0 0], .slice none 0 0], []⟩).memory :=
 laidMet_of_run' 8 (by kernel_rfl) (by kernel_rfl)
theorem reads (os : Os) {H : Type} (enc : TypeId × Value → H) : ∃ places, DataW.whole enc Tryz.prog ((zdC os).forCall (fun _ _ => 0) ⟨#[], #[.agg #[.slice none 0 0, .slice none 0 0, .slice none 0 0], .slice none 0 0], []⟩).memory Tryz.f3.params.toList Rows.pointSolvesSpec.vars false (#[.agg #[.slice none 0 0, .slice none 0 0, .slice none 0 0], .slice none 0 0] : Array Value).toList 8 = some ([.agg [.nil, .nil, .nil], .nil], [], places) :=
 ⟨[], by kernel_rfl⟩

set_option maxRecDepth 100000 in
theorem zmz (os : Os) (started : os.Started) (H : Type) (enc : TypeId × Value → H) (F : Stop.Interp) :
 ReturnsInHanded {} Tryz.checked os 3 .any ((Rows.OpenSpec.upto Rows.pointSolvesSpec).preRow enc Tryz.prog Tryz.f3 Rows.pointSolvesUptoRow.domain false Rows.pointSolvesUptoRow.laid) (((Rows.OpenSpec.upto Rows.pointSolvesSpec).at F).post enc Tryz.prog Tryz.f3 false true false false) := by
 obtain ⟨places, hx⟩ := reads os enc
 refine returnsInHanded_of_row (C := Tryz.checked) (s := Rows.OpenSpec.upto Rows.pointSolvesSpec) own started (by kernel_rfl) Tryz.func3
  (witness_row_at (enc := enc) (C := Tryz.checked) false (zdC os) #[.agg #[.slice none 0 0, .slice none 0 0, .slice none 0 0], .slice none 0 0] rfl (by kernel_rfl) (by kernel_rfl) (by kernel_rfl)
   (OpenSpec.preRow_of_cond 8 hx (by kernel_rfl) (fun k hk => by cases hk; kernel_rfl) (by kernel_rfl) (zjt os))) ?_
 intro W base args ds gs before hval hW _ hcond _ hL _ _
 exact zkh H enc W base args ds gs before hval hW hL (hcond _ rfl)

theorem zmr {a b : Bool} (h : a = true) (h' : b = true) : (a && b) = true := by rw [h, h']; rfl
theorem zkU : joinedFacts Tryz.pinned.checked.prog 3 Tryz.f3 (Rows.OpenSpec.upto Rows.pointSolvesSpec).bare Rows.pointSolvesUptoRow = true := by
 unfold joinedFacts
 repeat' (with_reducible refine zmr ?_ ?_)
 all_goals (as_aux_lemma => kernel_rfl)
theorem said : Rows.PointSolvesUptoSaid :=
 OpenClaim.holds_of_cond 3 Tryz.f3 rfl rfl rfl rfl rfl rfl rfl ⟨rfl, rfl, rfl, rfl, rfl⟩ rfl rfl rfl rfl rfl (by kernel_rfl) Tryz.func3 zkU
  (of_decide_eq_true (by kernel_rfl)) (by unfold Func.isWrapper; first | (rw [if_pos (by decide +kernel)]; kernel_rfl) | (rw [if_neg (by decide +kernel)]; exact ⟨rfl, rfl⟩))
  (fun os started H enc _ F => by rw [OpenClaim.pre_eq_preRow]; exact zmz os started H enc F)

theorem plain (f : FuncId) (fn : Func) (hf : Tryz.pinned.checked.prog.funcNamed "tripwire/tripwirelaw16.PointSolves" = some f) (hfn : Tryz.pinned.checked.prog.funcs[f]? = some fn) :
 false = Tryz.pinned.checked.prog.looks [] ∧ ∀ (j : Nat) t, fn.params[j]? = some t → Tryz.pinned.checked.prog.wantsStandIn t = false := by
 obtain rfl : f = 3 := Option.some.inj ((show Tryz.prog.funcNamed "tripwire/tripwirelaw16.PointSolves" = some 3 by kernel_rfl).symm.trans hf) |>.symm
 obtain rfl : fn = Tryz.f3 := (Option.some.inj (Tryz.func3.symm.trans hfn)).symm
 refine ⟨by kernel_rfl, fun j t ht => ?_⟩
 rw [Tryz.params3] at ht
 match j, ht with
 | 0, ht => have e := Option.some.inj ht; rw [← e]; exact (show Tryz.prog.wantsStandIn 27 = false by kernel_rfl)
 | 1, ht => have e := Option.some.inj ht; rw [← e]; exact (show Tryz.prog.wantsStandIn 28 = false by kernel_rfl)
 | n + 2, ht => simp at ht

theorem card : Rows.PointSolvesUptoCardSaid :=
 Claim7.holds_tied_plain_at .later [] _ _ _ _ said (fun _ h => by cases h) (by kernel_rfl) (fun _ h => by cases h) pointSolvesUpto_row_tie rfl ⟨rfl, rfl⟩ (by kernel_rfl) rfl plain (by kernel_rfl)
end Go.Proofs.YtfdmajmhmligpaaGreatDoor.pointSolves
#print axioms Go.Proofs.YtfdmajmhmligpaaGreatDoor.pointSolves.card
