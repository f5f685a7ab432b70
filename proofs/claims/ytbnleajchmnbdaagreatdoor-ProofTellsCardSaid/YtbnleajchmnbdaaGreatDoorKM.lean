/-
 tripwireref17: Bound, Refutes, Best; proof.Best. tripwireref17.Best, proof.Best. The plain law of ProofTells: both sides are the same sums.
-/
import Derived.Test.YtbnleajchmnbdaaGreatDoorKJ
import Derived.Test.YtbnleajchmnbdaaGreatDoorKI
namespace Go.Proofs.YtbnleajchmnbdaaGreatDoor
set_option maxHeartbeats 8000000
open Go.RowKit

theorem oper_make {P : Program} {a : Act} {w w' : World} {K : Act → World → Prop} {Q : Exit → Act → World → Prop} {o : Oper} (l c : Operand) (t : TypeId) (hop : o.op = Op.makeSlice t l c) {vl vc v : Value} (hl : a.eval l = vl) (hc : a.eval c = vc) (hrun : (Instr.makeSlice t vl vc).run P w = .ok v w') (h : K (a.put o.dst v) w') : Oper.wp P o a w K Q := by
 subst hl; subst hc
 unfold Oper.wp
 simp [execOp, hop, hrun, Result.andThen]
 exact h
theorem make_rats (w : World) (L : Nat) (hL : L ≤ 1000) : (Instr.makeSlice 23 (.int .i64 (L : Int)) (.int .i64 (L : Int))).run Tryz.prog w = .ok (.slice (some ⟨w.heap.size, 0, none⟩) L L) (w.alloc (.cells (madeCells ratZ.cells (L * 4)) 33)) := by
 obtain ⟨i0, hi0, hz0, hz1, hz2⟩ := info_parts info_rat
 have h := run_makeSlice (P := Tryz.prog) w 23 33 i0 ratZ under_rats hi0 hz0 .i64 .i64 (L : Int) (L : Int) (by omega) (by omega) (by rw [hz1, Int.toNat_natCast]; omega) (by rw [hz2]; omega) (by omega)
 rw [Int.toNat_natCast, hz1] at h
 exact h
theorem made_rat (L k j : Nat) (hk : k < L) (hj : j < 4) : (madeCells ratZ.cells (L * 4))[k * 4 + j]? = (rtcells (zeroR, (0 : Rat)))[j]? := by
 have h1 : k * 4 + j < L * 4 := by omega
 have e : (madeCells ratZ.cells (L * 4))[k * 4 + j]? = some (ratZ.cells[(k * 4 + j) % ratZ.cells.size]!) := by
  simp [madeCells, h1]
 rw [e, show (k * 4 + j) % ratZ.cells.size = j from by rw [show ratZ.cells.size = 4 from rfl]; omega]
 match j, hj with
 | 0, _ => rfl
 | 1, _ => rfl
 | 2, _ => rfl
 | 3, _ => rfl
theorem made_zeros {g L n : Nat} {W : World} {t : TypeId} (h : Blk W g t (madeCells ratZ.cells (L * 4))) : LsR 4 rtcells (roD n) (some ⟨g, 0, none⟩) (List.replicate L (zeroR, (0 : Rat))) W := by
 refine ⟨⟨Sl.some_ _ _ _, fun i hi => ?_, fun i hi j hj => ?_⟩, fun p hp => ?_⟩
 ·rw [List.getElem_map]; rfl
 ·rw [List.length_map, List.length_replicate] at hi
  rw [adr_some, Nat.zero_add, List.getElem_map, List.getElem_replicate, ← made_rat L i j hi hj]
  exact h.cell _
 ·rw [List.eq_of_mem_replicate hp]
  exact RatD.zero_ _ _
theorem bndR_fit {n N : Nat} {f : FoV} {w : World} {Ac Ay : Option Addr} {cs ys : List (RV × Rat)} (h1n : 1 ≤ n) (hbe : 1 + 20 * (2 * n + 2) + 12 * (n + 20 * (2 * n + 2) + n + 2) ≤ N) (h : FoD n f w) (hs : FSmall f) (hR : FRight f w) (hc : LsR 4 rtcells (roD n) Ac cs w) (hcl : cs.length = f.cols.length) (hy : LsR 4 rtcells (roD n) Ay ys w) :
 Sz (bndR f (redL f cs ys (min ys.length f.b.length)) (sumYB ys f (min ys.length f.b.length)) f.cols.length) N := by
 have hc12 := hs.cols
 have hb20 := hs.b
 obtain ⟨K, hK⟩ : ∃ K, K = min ys.length f.b.length := ⟨_, rfl⟩
 rw [← hK]
 have hsy : ∀ i, i < K → Sz (ys[i]!).2 n := fun i hi => by
  rw [getElem!_pos ys i (by omega)]
  exact RatD.sz (hy.ok _ (List.getElem_mem _)) h1n
 have hsb : ∀ i, i < K → Sz (f.b[i]!).2 n := fun i hi => by
  rw [getElem!_pos f.b i (by omega)]
  exact RatD.sz (h.b.ok _ (List.getElem_mem _)) h1n
 have hmul := Nat.mul_le_mul_right (2 * n + 2) (show K ≤ 20 by omega)
 have hS : Sz (sumYB ys f K) (1 + 20 * (2 * n + 2)) := (sumYB_sz hsy hsb K (Nat.le_refl _)).up (by omega)
 have hD : ∀ j, j < f.cols.length → Sz (redL f cs ys K j) (n + 20 * (2 * n + 2)) := fun j hj => by
  refine (redS_sz ?_ hsy (fun a => ?_) K (Nat.le_refl _)).up (by omega)
  ·rw [getElem!_pos cs j (by omega)]
   exact RatD.sz (hc.ok _ (List.getElem_mem _)) h1n
  ·rw [getElem!_pos f.cols j hj]
   exact getQ_sz (hR.col j hj).rise h1n (fun u hu => RatD.sz ((h.cols.ok _ (List.getElem_mem hj)).ok u hu) h1n) a
 refine (bndR_sz hS hD (n := n) (J := f.cols.length) (fun j hj => ?_) f.cols.length (Nat.le_refl _)).up ?_
 ·rw [getElem!_pos f.lo j (by rw [hR.lo]; exact hj), getElem!_pos f.hi j (by rw [hR.hi]; exact hj)]
  exact ⟨RatD.sz (h.lo.ok _ (List.getElem_mem _)) h1n, RatD.sz (h.hi.ok _ (List.getElem_mem _)) h1n⟩
 ·have := Nat.mul_le_mul_right (n + 20 * (2 * n + 2) + n + 2) hc12
  omega
set_option maxRecDepth 100000 in
theorem rBound_yes (w : World) (n N : Nat) (hN : N ≤ 3000) (h1n : 1 ≤ n) (hbd : n + 20 * (2 * n + 2) ≤ N) (hbe : 1 + 20 * (2 * n + 2) + 12 * (n + 20 * (2 * n + 2) + n + 2) ≤ N) (f : FoV) (h : FoD n f w) (hs : FSmall f) (Ay : Option Addr) (cy : Nat) (ys : List (RV × Rat)) (hy : LsR 4 rtcells (roD n) Ay ys w) (hyl : ys.length ≤ 30) (hR : FRight f w) :
 Calls Tryz.prog 9 #[fA f, .slice Ay ys.length cy] w (RetR (bndR f (redL f f.cost ys (min ys.length f.b.length)) (sumYB ys f (min ys.length f.b.length)) f.cols.length) w) := by
 have Hs := Lib.hid hs
 have HR := Lib.hid hR
 have Hf := Lib.hid h
 obtain ⟨Q, hQ⟩ : ∃ Q, (bndR f (redL f f.cost ys (min ys.length f.b.length)) (sumYB ys f (min ys.length f.b.length)) f.cols.length) = Q := ⟨_, rfl⟩
 have HQ := Lib.hid hQ
 rw [hQ]
 have HE := Lib.hid (lyFZ f ((h.old).and ((hy.old roD_old))))
 have c := Env.c2 HE.out
 have dd := Env.d2 HE.out
 clear h hs hR hy hQ
 unfold fA
 go_enter Tryz.func9, Tryz.ntmps9
 go_wp2_with fail
 refine (rright_any _ n N hN h1n (by omega) (by omega) f HE.out.o.1 Hs.out).mono ?_
 rintro e w1 ⟨⟨z, rfl, hz⟩, hb⟩
 have hR1 := FRight.same Hf.out HE.out.bel
 replace HE := Lib.hid (Env.call HE.out hb)
 replace c := Env.c2 HE.out
 clear hb
 obtain ⟨rfl, -⟩ : z = 0 ∧ True := by
  rcases hz with ⟨h9, -⟩ | ⟨-, h9⟩
  ·exact ⟨h9, trivial⟩
  ·exact absurd (hR1.2 HR.out) h9
 clear hz hR1
 go_wp2_with fail
 refine (rbound_any _ n N hN h1n hbd hbe f HE.out.o.1 Hs.out ((FRight.same Hf.out HE.out.bel).2 HR.out) f.Ak Ay f.ck cy f.cost ys HE.out.o.1.cost HR.out.cost HE.out.o.2 hyl).mono ?_
 rintro e w2 ⟨k, rfl, hk, hb⟩
 rw [HQ.out] at hk
 replace HE := Lib.hid (Env.ret HE.out hk hb)
 replace c := Env.c2 HE.out
 clear hk hb
 go_wp2_with fail
 exact bodyPost_ret (v := .agg #[.bool k.num.neg, .slice k.num.A k.num.k k.num.c, .bool k.den.neg, .slice k.den.A k.den.k k.den.c]) (by simp [results, Tryz.results9, go_sem, Env.c2 (HE.out.put4 (.bool k.num.neg) (.slice k.num.A k.num.k k.num.c) (.bool k.den.neg) (.slice k.den.A k.den.k k.den.c))]) rfl ((HE.out.put4 _ _ _ _).retR' rfl fun _ h => h.1)
set_option maxRecDepth 100000 in
theorem rBound_no (w : World) (n N : Nat) (hN : N ≤ 3000) (h1n : 1 ≤ n) (hbd : n + 20 * (2 * n + 2) ≤ N) (_hbe : 1 + 20 * (2 * n + 2) + 12 * (n + 20 * (2 * n + 2) + n + 2) ≤ N) (f : FoV) (h : FoD n f w) (hs : FSmall f) (Ay : Option Addr) (cy : Nat) (ys : List (RV × Rat)) (hy : LsR 4 rtcells (roD n) Ay ys w) (_hyl : ys.length ≤ 30) (hR : ¬ FRight f w) :
 Calls Tryz.prog 9 #[fA f, .slice Ay ys.length cy] w (RetR 0 w) := by
 have Hs := Lib.hid hs
 have HR := Lib.hid hR
 have Hf := Lib.hid h
 have HE := Lib.hid (lyFZ f ((h.old).and ((hy.old roD_old))))
 have c := Env.c2 HE.out
 have dd := Env.d2 HE.out
 clear h hs hR hy
 unfold fA
 go_enter Tryz.func9, Tryz.ntmps9
 go_wp2_with fail
 refine (rright_any _ n N hN h1n (by omega) (by omega) f HE.out.o.1 Hs.out).mono ?_
 rintro e w1 ⟨⟨z, rfl, hz⟩, hb⟩
 have hR1 := FRight.same Hf.out HE.out.bel
 replace HE := Lib.hid (Env.call HE.out hb)
 replace c := Env.c2 HE.out
 clear hb
 obtain ⟨rfl, -⟩ : z = 101 ∧ True := by
  rcases hz with ⟨-, h9⟩ | ⟨h9, -⟩
  ·exact absurd (hR1.1 h9) HR.out
  ·exact ⟨h9, trivial⟩
 clear hz hR1
 go_wp2_with fail
 exact bodyPost_ret (v := .agg #[.bool false, .slice none 0 0, .bool false, .slice none 0 0]) (by simp [results, Tryz.results9, go_sem, Env.c2 (HE.out.put4 (.bool false) (.slice none 0 0) (.bool false) (.slice none 0 0))]) rfl ((HE.out.put4 _ _ _ _).retR' (r := zeroR) rfl fun V _ => zeroRN V)
set_option maxRecDepth 100000 in
theorem rrefutes_yes (w : World) (n N : Nat) (hN : N ≤ 3000) (h1n : 1 ≤ n) (hbd : n + 20 * (2 * n + 2) ≤ N) (hbe : 1 + 20 * (2 * n + 2) + 12 * (n + 20 * (2 * n + 2) + n + 2) ≤ N) (f : FoV) (h : FoD n f w) (hs : FSmall f) (Ay : Option Addr) (cy : Nat) (ys : List (RV × Rat)) (hy : LsR 4 rtcells (roD n) Ay ys w) (hyl : ys.length ≤ 30) (hR : FRight f w) :
 Calls Tryz.prog 11 #[fA f, .slice Ay ys.length cy] w fun e w' => BoolRes (FRight f w ∧ 0 < (bndR f (redL f (List.replicate f.cols.length (zeroR, (0 : Rat))) ys (min ys.length f.b.length)) (sumYB ys f (min ys.length f.b.length)) f.cols.length).num.sign) e ∧ Below w.heap.size w w' := by
 have Hs := Lib.hid hs
 have HR := Lib.hid hR
 have Hf := Lib.hid h
 have hc12 := hs.cols
 have hsz := fun (V : World) (h' : FoD n f V) (hr' : FRight f V) (hy' : LsR 4 rtcells (roD n) Ay ys V) (A : Option Addr) (hc : LsR 4 rtcells (roD n) A (List.replicate f.cols.length (zeroR, (0 : Rat))) V) => bndR_fit (N := N) h1n hbe h' hs hr' hc (by simp) hy'
 obtain ⟨Q, hQ⟩ : ∃ Q, (bndR f (redL f (List.replicate f.cols.length (zeroR, (0 : Rat))) ys (min ys.length f.b.length)) (sumYB ys f (min ys.length f.b.length)) f.cols.length) = Q := ⟨_, rfl⟩
 have HQ := Lib.hid hQ
 rw [hQ] at hsz
 rw [hQ]
 have Hsz := Lib.hid hsz
 obtain ⟨B, hB⟩ : ∃ B : Bool, decide (0 < Q.num.sign) = B := ⟨_, rfl⟩
 have HBo := Lib.hid hB
 have HE := Lib.hid (lyF f ((h.old).and ((hy.old roD_old))))
 have c := Env.c1 HE.out
 clear h hs hR hy hQ hsz hB
 unfold fA
 go_enter Tryz.func11, Tryz.ntmps11
 go_wp2_with fail
 go_upto_region 1 with fail
 refine wp_region_noPanic ?_
 refine wp_region_held_drew (S := (fun W => CB (w.heap.size) #[.int .i64 f.M, .slice f.Ac f.cols.length f.cc, .slice f.Al f.lo.length f.cl, .slice f.Ah f.hi.length f.ch, .slice f.Ak f.cost.length f.ck, .slice f.Ab f.b.length f.cb] W)) (by kernel_rfl) (by with_reducible first | exact Env.c1 HE.out | exact Env.c1 HE.out.drew | exact (Env.c2 HE.out).2) (fun hHeld => ?_)
 replace HE := Lib.hid HE.out.drew
 refine hT 0 5 hHeld ?_
 refine held_call (i := 1) rfl (by kernel_rfl) (by rfl) (fun K hK => ?_)
 clear hHeld
 simp only [q1, q2, q3]
 go_simp
 refine (rright_any _ n N hN h1n (by omega) (by omega) f HE.out.o.1 Hs.out).mono ?_
 rintro e w1 ⟨⟨z, rfl, hz⟩, hb⟩
 have hR1 := FRight.same Hf.out HE.out.bel
 replace HE := Lib.hid (Env.call HE.out hb)
 clear hb
 obtain ⟨rfl, -⟩ : z = 0 ∧ True := by
  rcases hz with ⟨h9, -⟩ | ⟨-, h9⟩
  ·exact ⟨h9, trivial⟩
  ·exact absurd (hR1.2 HR.out) h9
 clear hz hR1
 (try (go_wp2_with fail))
 refine hK.out _ _ (by with_reducible first | exact Env.c1 HE.out | exact Env.c1 HE.out.drew | exact (Env.c2 HE.out).2) (fun hHeld => ?_)
 clear hK K
 try simp only [p1, p2, p3, p4]
 refine hT 2 7 hHeld ?_
 refine hT 3 8 hHeld ?_
 refine hT 4 9 hHeld ?_
 refine hT 5 10 hHeld ?_
 refine hT 6 11 hHeld ?_
 refine hT 7 12 hHeld ?_
 refine hT 9 14 hHeld ?_
 refine held_call (i := 8) rfl (by kernel_rfl) (by rfl) (fun K hK => ?_)
 clear hHeld
 simp only [q1, q2, q3]
 refine oper_make (.tmp 12) (.tmp 12) 23 rfl (vl := .int .i64 (f.cols.length : Int)) (vc := .int .i64 (f.cols.length : Int)) rfl rfl (make_rats _ f.cols.length (by omega)) ?_
 obtain ⟨W7, gm, hW7, hgm, HE⟩ := Env.al HE.out 33 (madeCells ratZ.cells (f.cols.length * 4))
 rw [hW7, hgm]
 clear hW7 hgm
 (try (go_wp2_with fail))
 refine hK.out _ _ (by with_reducible first | exact Env.c1 HE.out | exact Env.c1 HE.out.drew | exact (Env.c2 HE.out).2) (fun hHeld => ?_)
 clear hK K
 try simp only [p1, p2, p3, p4]
 refine held_call (i := 10) rfl (by kernel_rfl) (by rfl) (fun K hK => ?_)
 clear hHeld
 simp only [q1, q2, q3]
 go_simp
 have Hz := Lib.hid (made_zeros (n := n) (HE.out.bx ⟨gm, 33, madeCells ratZ.cells (f.cols.length * 4)⟩ (by simp)))
 refine (show Calls Tryz.prog 29 #[.agg #[.int .i64 f.M, .slice f.Ac f.cols.length f.cc, .slice f.Al f.lo.length f.cl, .slice f.Ah f.hi.length f.ch, .slice f.Ak f.cost.length f.ck, .slice f.Ab f.b.length f.cb], .slice (some ⟨gm, 0, none⟩) f.cols.length f.cols.length, .slice Ay ys.length cy] _ _ from by
  have h9 := rbound_any _ n N hN h1n hbd hbe f HE.out.o.1 Hs.out ((FRight.same Hf.out HE.out.bel).2 HR.out) (some ⟨gm, 0, none⟩) Ay f.cols.length cy (List.replicate f.cols.length (zeroR, (0 : Rat))) ys Hz.out (by simp) HE.out.o.2 hyl
  rw [List.length_replicate] at h9
  exact h9).mono ?_
 rintro e w3 ⟨k, rfl, hk, hb⟩
 rw [HQ.out] at hk
 have HszQ := Lib.hid (Hsz.out _ HE.out.o.1 ((FRight.same Hf.out HE.out.bel).2 HR.out) HE.out.o.2 _ Hz.out)
 replace HE := Lib.hid (Env.ret HE.out hk hb)
 clear hk hb
 (try (go_wp2_with fail))
 refine hK.out _ _ (by with_reducible first | exact Env.c1 HE.out | exact Env.c1 HE.out.drew | exact (Env.c2 HE.out).2) (fun hHeld => ?_)
 clear hK K
 try simp only [p1, p2, p3, p4]
 refine held_call (i := 11) rfl (by kernel_rfl) (by rfl) (fun K hK => ?_)
 clear hHeld
 simp only [q1, q2, q3]
 go_simp
 refine (refsign4_any _ k Q N (by omega) (by omega) (RatN.rat HE.out.n.1 HszQ.out)).mono ?_
 rintro e w4 ⟨rfl, hb⟩
 replace HE := Lib.hid (Env.call HE.out hb)
 clear hb
 (try (go_wp2_with fail))
 refine hK.out _ _ (by with_reducible first | exact Env.c1 HE.out | exact Env.c1 HE.out.drew | exact (Env.c2 HE.out).2) (fun hHeld => ?_)
 clear hK K
 try simp only [p1, p2, p3, p4]
 refine hT 12 17 hHeld ?_
 refine hT 13 18 hHeld ?_
 refine hT 14 4 hHeld ?_
 refine wpAnyH_done (by kernel_rfl) ?_ _
 refine NoPanic.normal ?_
 go_wp2_with fail
 exact bodyPost_ret (v := .bool B) (by simp [results, Tryz.results11, go_sem, ← HBo.out]) rfl ⟨boolRes_mk B ⟨fun h9 => ⟨HR.out, by have h8 := HBo.out; rw [h9] at h8; exact of_decide_eq_true h8⟩, fun h9 => by rw [← HBo.out]; exact decide_eq_true h9.2⟩, by first | exact HE.out.bel | exact HE.out.drew.bel⟩
set_option maxRecDepth 100000 in
theorem rrefutes_no (w : World) (n N : Nat) (hN : N ≤ 3000) (h1n : 1 ≤ n) (hbd : n + 20 * (2 * n + 2) ≤ N) (_hbe : 1 + 20 * (2 * n + 2) + 12 * (n + 20 * (2 * n + 2) + n + 2) ≤ N) (f : FoV) (h : FoD n f w) (hs : FSmall f) (Ay : Option Addr) (cy : Nat) (ys : List (RV × Rat)) (hy : LsR 4 rtcells (roD n) Ay ys w) (_hyl : ys.length ≤ 30) (hR : ¬ FRight f w) :
 Calls Tryz.prog 11 #[fA f, .slice Ay ys.length cy] w fun e w' => BoolRes (FRight f w ∧ 0 < (bndR f (redL f (List.replicate f.cols.length (zeroR, (0 : Rat))) ys (min ys.length f.b.length)) (sumYB ys f (min ys.length f.b.length)) f.cols.length).num.sign) e ∧ Below w.heap.size w w' := by
 have Hs := Lib.hid hs
 have HR := Lib.hid hR
 have Hf := Lib.hid h
 have hc12 := hs.cols
 have HE := Lib.hid (lyF f ((h.old).and ((hy.old roD_old))))
 have c := Env.c1 HE.out
 clear h hs hR hy
 unfold fA
 go_enter Tryz.func11, Tryz.ntmps11
 go_wp2_with fail
 go_upto_region 1 with fail
 refine wp_region_noPanic ?_
 refine wp_region_held_drew (S := (fun W => CB (w.heap.size) #[.int .i64 f.M, .slice f.Ac f.cols.length f.cc, .slice f.Al f.lo.length f.cl, .slice f.Ah f.hi.length f.ch, .slice f.Ak f.cost.length f.ck, .slice f.Ab f.b.length f.cb] W)) (by kernel_rfl) (by with_reducible first | exact Env.c1 HE.out | exact Env.c1 HE.out.drew | exact (Env.c2 HE.out).2) (fun hHeld => ?_)
 replace HE := Lib.hid HE.out.drew
 refine hT 0 5 hHeld ?_
 refine held_call (i := 1) rfl (by kernel_rfl) (by rfl) (fun K hK => ?_)
 clear hHeld
 simp only [q1, q2, q3]
 go_simp
 refine (rright_any _ n N hN h1n (by omega) (by omega) f HE.out.o.1 Hs.out).mono ?_
 rintro e w1 ⟨⟨z, rfl, hz⟩, hb⟩
 have hR1 := FRight.same Hf.out HE.out.bel
 replace HE := Lib.hid (Env.call HE.out hb)
 clear hb
 obtain ⟨rfl, -⟩ : z = 101 ∧ True := by
  rcases hz with ⟨-, h9⟩ | ⟨h9, -⟩
  ·exact absurd (hR1.1 h9) HR.out
  ·exact ⟨h9, trivial⟩
 clear hz hR1
 (try (go_wp2_with fail))
 refine hK.out _ _ (by with_reducible first | exact Env.c1 HE.out | exact Env.c1 HE.out.drew | exact (Env.c2 HE.out).2) (fun hHeld => ?_)
 clear hK K
 try simp only [p1, p2, p3, p4]
 refine hT 2 7 hHeld ?_
 refine hT 3 8 hHeld ?_
 refine held_lz [4, 5, 6, 7, 9, 8, 10, 11, 12, 13] 1 #[true, true, true, true, true, true, true, true, true, true, true, true, true, true, false] (fun a0 => ((((((((((a0.put (some 9) undef).put (some 10) undef).put (some 11) undef).put (some 12) undef).put (some 14) undef).put (some 13) undef).put (some 15) undef).put (some 16) undef).put (some 17) undef).put (some 18) (.bool false))) rfl (by kernel_rfl) (by kernel_rfl) (fun _ _ _ _ _ h => h) hHeld ?_
 try simp only [p1, p2, p3, p4]
 refine hT 14 4 hHeld ?_
 refine wpAnyH_done (by kernel_rfl) ?_ _
 refine NoPanic.normal ?_
 go_wp2_with fail
 exact bodyPost_ret (v := .bool false) (by simp [results, Tryz.results11, go_sem]) rfl ⟨boolRes_mk false ⟨fun h9 => absurd h9 (by decide), fun h9 => absurd h9.1 HR.out⟩, by first | exact HE.out.bel | exact HE.out.drew.bel⟩
theorem rrefutes_any (w : World) (n N : Nat) (hN : N ≤ 3000) (h1n : 1 ≤ n) (hbd : n + 20 * (2 * n + 2) ≤ N) (hbe : 1 + 20 * (2 * n + 2) + 12 * (n + 20 * (2 * n + 2) + n + 2) ≤ N) (f : FoV) (h : FoD n f w) (hs : FSmall f) (Ay : Option Addr) (cy : Nat) (ys : List (RV × Rat)) (hy : LsR 4 rtcells (roD n) Ay ys w) (hyl : ys.length ≤ 30) :
 Calls Tryz.prog 11 #[fA f, .slice Ay ys.length cy] w fun e w' => BoolRes (FRight f w ∧ 0 < (bndR f (redL f (List.replicate f.cols.length (zeroR, (0 : Rat))) ys (min ys.length f.b.length)) (sumYB ys f (min ys.length f.b.length)) f.cols.length).num.sign) e ∧ Below w.heap.size w w' := by
 by_cases hR : FRight f w
 ·exact rrefutes_yes w n N hN h1n hbd hbe f h hs Ay cy ys hy hyl hR
 ·exact rrefutes_no w n N hN h1n hbd hbe f h hs Ay cy ys hy hyl hR

theorem FeasP.same {n : Nat} {f : FoV} {xs : List (RV × Rat)} {w W : World} (h : FoD n f w) (hb : Below w.heap.size w W) : FeasP f xs W ↔ FeasP f xs w := by
 constructor
 ·rintro ⟨h1, h2, h3, h4, h5⟩
  exact ⟨(FRight.same h hb).1 h1, h2, h3, h4, h5⟩
 ·rintro ⟨h1, h2, h3, h4, h5⟩
  exact ⟨(FRight.same h hb).2 h1, h2, h3, h4, h5⟩
def sumXC (xs : List (RV × Rat)) (f : FoV) : Nat → Rat
 | 0 => 0
 | j + 1 => sumXC xs f j + (xs[j]!).2 * (f.cost[j]!).2
theorem sumXC_sz {xs : List (RV × Rat)} {f : FoV} {n K : Nat} (hx : ∀ i, i < K → Sz (xs[i]!).2 n) (hc : ∀ i, i < K → Sz (f.cost[i]!).2 n) : ∀ i, i ≤ K → Sz (sumXC xs f i) (1 + i * (2 * n + 2))
 | 0, _ => sz_zero.up (by omega)
 | i + 1, h => by
  refine (Sz.add (sumXC_sz hx hc i (by omega)) (Sz.mul (hx i (by omega)) (hc i (by omega)))).up ?_
  rw [Nat.add_mul]; omega
set_option maxRecDepth 100000 in
theorem rbest_any (w : World) (n N : Nat) (hN : N ≤ 3000) (h1n : 1 ≤ n) (hbd : n + 20 * (2 * n + 2) ≤ N) (hbe : 1 + 20 * (2 * n + 2) + 12 * (n + 20 * (2 * n + 2) + n + 2) ≤ N) (f : FoV) (h : FoD n f w) (hs : FSmall f) (Ax : Option Addr) (cx : Nat) (xs : List (RV × Rat)) (hx : LsR 4 rtcells (roD n) Ax xs w) (Ay : Option Addr) (cy : Nat) (ys : List (RV × Rat)) (hy : LsR 4 rtcells (roD n) Ay ys w) (hyl : ys.length ≤ 30) :
 Calls Tryz.prog 13 #[fA f, .slice Ax xs.length cx, .slice Ay ys.length cy] w fun e w' => BoolRes (FeasP f xs w ∧ sumXC xs f f.cols.length = (bndR f (redL f f.cost ys (min ys.length f.b.length)) (sumYB ys f (min ys.length f.b.length)) f.cols.length)) e ∧ Below w.heap.size w w' := by
 have Hs := Lib.hid hs
 have Hf := Lib.hid h
 have hnN : n ≤ N := by omega
 have hc12 := hs.cols
 have slx := hx.sl
 have slk := h.cost.sl
 have hszr := size_rats
 have hadd := adr_add
 have Hsx := Lib.hid (show ∀ p ∈ xs, Sz p.2 n from fun p hp => RatD.sz (hx.ok p hp) h1n)
 have Hsk := Lib.hid (show ∀ p ∈ f.cost, Sz p.2 n from fun p hp => RatD.sz (h.cost.ok p hp) h1n)
 have Hfit := Lib.hid (fun (hR : FRight f w) => bndR_fit (N := N) h1n hbe h hs hR h.cost hR.cost hy)
 obtain ⟨Q, hQ⟩ : ∃ Q, (bndR f (redL f f.cost ys (min ys.length f.b.length)) (sumYB ys f (min ys.length f.b.length)) f.cols.length) = Q := ⟨_, rfl⟩
 have HQ := Lib.hid hQ
 rw [hQ] at Hfit
 rw [hQ]
 clear hQ
 have HE := Lib.hid (lyF f ((h.old).and (((hx.old roD_old)).and ((hy.old roD_old)))))
 have c := Env.c1 HE.out
 clear h hs hx hy
 unfold fA
 go_enter Tryz.func13, Tryz.ntmps13
 go_wp2_with fail
 refine (rfeas_any _ n N hN h1n hbd f HE.out.o.1 Hs.out Ax cx xs HE.out.o.2.1).mono ?_
 rintro e w1 ⟨⟨B0, rfl, hB0⟩, hb⟩
 have HF := Lib.hid (hB0.trans (FeasP.same Hf.out HE.out.bel))
 replace HE := Lib.hid (Env.call HE.out hb)
 clear hb hB0 c
 have c := Env.c1 HE.out
 cases B0
 ·go_wp2_with fail
  exact bodyPost_ret (v := .bool false) (by simp [results, Tryz.results13, go_sem]) rfl ⟨boolRes_mk false ⟨fun h9 => absurd h9 (by decide), fun h9 => absurd (HF.out.2 h9.1) (by simp)⟩, HE.out.bel⟩
 ·have HFe := Lib.hid (HF.out.1 rfl)
  have HR := Lib.hid HFe.out.right
  have hxl : xs.length = f.cols.length := HFe.out.len
  have Hxl := Lib.hid hxl
  have hx12 : xs.length ≤ 12 := by omega
  have Hsm0 := Lib.hid (show ∀ j, j ≤ f.cols.length → Sz (sumXC xs f j) N from fun j hj => by
   refine (sumXC_sz (n := n) (K := f.cols.length) (fun i hi => ?_) (fun i hi => ?_) j hj).up (by have := Nat.mul_le_mul_right (2 * n + 2) (show j ≤ 12 by omega); omega)
   ·rw [getElem!_pos xs i (by omega)]; exact Hsx.out _ (List.getElem_mem _)
   ·rw [getElem!_pos f.cost i (by rw [HR.out.cost]; exact hi)]; exact Hsk.out _ (List.getElem_mem _))
  clear hxl
  go_upto_region 4 with fail
  obtain ⟨W2, gs, hW2, hgs, HE⟩ := Env.al HE.out 33 #[.bool false, .slice none 0 0, .bool false, .slice none 0 0]
  rw [hW2, hgs]
  clear hW2 hgs c
  go_wp2_with fail
  go_loopw [8] (fun jv wr => ∃ (j : Nat) (k : RV), jv = .int .i64 (j : Int) ∧ j ≤ xs.length ∧ Hid (Env w [⟨gs, 33, #[.bool k.num.neg, .slice k.num.A k.num.k k.num.c, .bool k.den.neg, .slice k.den.A k.den.k k.den.c]⟩, ⟨w.heap.size, 25, #[.int .i64 f.M, .slice f.Ac f.cols.length f.cc, .slice f.Al f.lo.length f.cl, .slice f.Ah f.hi.length f.ch, .slice f.Ak f.cost.length f.ck, .slice f.Ab f.b.length f.cb]⟩] (fun V => FoD n f V ∧ LsR 4 rtcells (roD n) Ax xs V ∧ LsR 4 rtcells (roD n) Ay ys V) (fun V => RatN k (sumXC xs f j) V) wr)) (fun jv _ => xs.length - (intOf jv).toNat)
  case atStart => exact ⟨0, zeroR, rfl, Nat.zero_le _, Lib.hid (HE.out.imp (fun _ h => h) (fun V _ => zeroRN V))⟩
  case round =>
   clear HE
   obtain ⟨j, k, rfl, hj, HE⟩ := hrel
   have c := Env.c2 HE.out
   by_cases hlt : j < xs.length
   ·have hjk : j < f.cost.length := by rw [HR.out.cost, ← Hxl.out]; exact hlt
    have hj1 : (j : Int) < (xs.length : Int) := by omega
    have hj2 : (j : Int) < (f.cost.length : Int) := by omega
    have Hsq := Lib.hid (Hsm0.out j (by rw [← Hxl.out]; omega))
    have HNx := Lib.hid (show sumXC xs f (j + 1) = sumXC xs f j + xs[j].2 * f.cost[j].2 from by rw [← getElem!_pos xs j hlt, ← getElem!_pos f.cost j hjk]; rfl)
    have HPC := Lib.hid (fun (V : World) (h : LsR 4 rtcells (roD n) Ax xs V) => h.rc j hlt)
    have HRC := Lib.hid (fun (V : World) (h : FoD n f V) => h.cost.rc j hjk)
    obtain ⟨p, hp⟩ : ∃ p, p = xs[j] := ⟨_, rfl⟩
    obtain ⟨r, hr⟩ : ∃ p, p = f.cost[j] := ⟨_, rfl⟩
    have Hmp := Lib.hid (show p ∈ xs by rw [hp]; exact List.getElem_mem hlt)
    have Hmr := Lib.hid (show r ∈ f.cost by rw [hr]; exact List.getElem_mem hjk)
    rw [← hp] at HNx HPC
    rw [← hr] at HNx HRC
    clear hp hr
    obtain ⟨q, hq⟩ : ∃ q, q = sumXC xs f j := ⟨_, rfl⟩
    rw [← hq] at HNx Hsq HE
    clear hq
    have HPE := Lib.hid (show ∀ V, (fun V => FoD n f V ∧ LsR 4 rtcells (roD n) Ax xs V ∧ LsR 4 rtcells (roD n) Ay ys V) V → RatD p.1 p.2 n V from fun V h => h.2.1.ok p Hmp.out)
    have HRE := Lib.hid (show ∀ V, (fun V => FoD n f V ∧ LsR 4 rtcells (roD n) Ax xs V ∧ LsR 4 rtcells (roD n) Ay ys V) V → RatD r.1 r.2 n V from fun V h => h.1.cost.ok r Hmr.out)
    have Hsm := Lib.hid (show Sz (p.2 * r.2) N from (Sz.mul (Hsx.out p Hmp.out) (Hsk.out r Hmr.out)).up (by omega))
    have HC := Lib.hid (fun (V : World) {nw : World → Prop} (h : Env w [⟨gs, 33, #[.bool k.num.neg, .slice k.num.A k.num.k k.num.c, .bool k.den.neg, .slice k.den.A k.den.k k.den.c]⟩, ⟨w.heap.size, 25, #[.int .i64 f.M, .slice f.Ac f.cols.length f.cc, .slice f.Al f.lo.length f.cl, .slice f.Ah f.hi.length f.ch, .slice f.Ak f.cost.length f.ck, .slice f.Ab f.b.length f.cb]⟩] (fun V => FoD n f V ∧ LsR 4 rtcells (roD n) Ax xs V ∧ LsR 4 rtcells (roD n) Ay ys V) nw V) => And.intro (Env.c2 h).2 (And.intro (HPC.out V h.o.2.1) (And.intro (HRC.out V h.o.1) (Env.c2 h).1)))
    go_upto_region 7 with fail
    clear c
    refine wp_region_noPanic ?_
    refine wp_region_G 12 (fun W => CB (w.heap.size) #[.int .i64 f.M, .slice f.Ac f.cols.length f.cc, .slice f.Al f.lo.length f.cl, .slice f.Ah f.hi.length f.ch, .slice f.Ak f.cost.length f.ck, .slice f.Ab f.b.length f.cb] W ∧ RC Ax j p W ∧ RC f.Ak j r W ∧ CB gs #[.bool k.num.neg, .slice k.num.A k.num.k k.num.c, .bool k.den.neg, .slice k.den.A k.den.k k.den.c] W) (by kernel_rfl) (by with_reducible first | exact HC.out _ HE.out | exact HC.out _ HE.out.drew) (fun hHeld => ?_)
    replace HE := Lib.hid HE.out.drew
    refine gTa 0 20 hHeld ?_
    refine gTa 1 21 hHeld ?_
    refine gTa 2 22 hHeld ?_
    refine gTa 3 23 hHeld ?_
    refine gTa 4 24 hHeld ?_
    refine gTa 5 25 hHeld ?_
    refine gTa 6 26 hHeld ?_
    refine gTa 7 27 hHeld ?_
    refine gTa 8 28 hHeld ?_
    refine gTa 9 29 hHeld ?_
    refine gC 10 rfl (by kernel_rfl) (by rfl) (fun K hK => ?_)
    clear hHeld
    simp only [q1, q2, q3]
    go_simp
    refine (refmul4_any _ p.1 r.1 p.2 r.2 n (by omega) h1n (HPE.out _ HE.out.o) (HRE.out _ HE.out.o)).mono ?_
    rintro e w3 ⟨km, rfl, hk, hb⟩
    replace HE := Lib.hid (Env.ret HE.out hk hb)
    clear hk hb
    (try (go_wp2_with fail))
    refine hK.out _ _ (by with_reducible first | exact HC.out _ HE.out | exact HC.out _ HE.out.drew) (fun hHeld => ?_)
    clear hK K
    try simp only [p1, p2, p3, p4]
    refine gC 11 rfl (by kernel_rfl) (by rfl) (fun K hK => ?_)
    clear hHeld
    simp only [q1, q2, q3]
    go_simp
    refine (refadd4_any _ k km q (p.2 * r.2) N hN (by omega) (RatN.rat HE.out.n.2 Hsq.out) (RatN.rat HE.out.n.1 Hsm.out)).mono ?_
    rintro e w3 ⟨k2, rfl, hk, hb⟩
    replace HE := Lib.hid (Env.ret HE.out hk hb)
    clear hk hb
    (try (go_wp2_with fail))
    refine hK.out _ _ (by with_reducible first | exact HC.out _ HE.out | exact HC.out _ HE.out.drew) (fun hHeld => ?_)
    clear hK K
    try simp only [p1, p2, p3, p4]
    have c := Env.c2 HE.out
    refine gL rfl (by kernel_rfl) (by kernel_rfl) (by rfl) (fun K hK => ?_)
    clear hHeld
    simp only [q1, q2, q3]
    go_simp
    (try (go_wp2_with fail))
    refine hK.out _ _ ?_
    clear hK K
    try simp only [p1, p2, p3, p4]
    refine NoPanic.normal ?_
    clear c
    go_wp2_with fail
    go_roundw
    case rel => exact ⟨j + 1, k2, by go_num, by omega, Lib.hid (by rw [HNx.out]; exact (HE.out.put4 _ _ _ _).imp (fun _ h => h) (fun _ h => h.1))⟩
    case measure => (simp [intOf] <;> omega)
   ·obtain rfl : j = xs.length := by omega
    have hnx : ¬ (xs.length : Int) < (xs.length : Int) := by omega
    have Hsq := Lib.hid (Hsm0.out f.cols.length (Nat.le_refl _))
    replace HE := Lib.hid (show Env w [⟨gs, 33, #[.bool k.num.neg, .slice k.num.A k.num.k k.num.c, .bool k.den.neg, .slice k.den.A k.den.k k.den.c]⟩, ⟨w.heap.size, 25, #[.int .i64 f.M, .slice f.Ac f.cols.length f.cc, .slice f.Al f.lo.length f.cl, .slice f.Ah f.hi.length f.ch, .slice f.Ak f.cost.length f.ck, .slice f.Ab f.b.length f.cb]⟩] (fun V => FoD n f V ∧ LsR 4 rtcells (roD n) Ax xs V ∧ LsR 4 rtcells (roD n) Ay ys V) (fun V => RatN k (sumXC xs f f.cols.length) V) _ from by have h := HE.out; rw [Hxl.out] at h; exact h)
    obtain ⟨q, hq⟩ : ∃ q, sumXC xs f f.cols.length = q := ⟨_, rfl⟩
    have Hq := Lib.hid hq
    rw [hq] at HE Hsq
    clear hq
    obtain ⟨B, hB⟩ : ∃ B : Bool, decide (q = Q) = B := ⟨_, rfl⟩
    have HB := Lib.hid hB
    clear hB
    go_upto_region 8 with fail
    go_region_held3 (fun W => CB gs #[.bool k.num.neg, .slice k.num.A k.num.k k.num.c, .bool k.den.neg, .slice k.den.A k.den.k k.den.c] W ∧ CB (w.heap.size) #[.int .i64 f.M, .slice f.Ac f.cols.length f.cc, .slice f.Al f.lo.length f.cl, .slice f.Ah f.hi.length f.ch, .slice f.Ak f.cost.length f.ck, .slice f.Ab f.b.length f.cb] W) (first | with_reducible exact c | with_reducible exact Env.c2 HE.out.drew | ((repeat' apply And.intro) <;> go_keep))
     (first
      | (go_at_call 9; go_must (refine (rBound_yes _ n N hN h1n hbd hbe f (by with_reducible first | exact HE.out.o.1 | exact HE.out.drew.o.1) Hs.out Ay cy ys (by with_reducible first | exact HE.out.o.2.2 | exact HE.out.drew.o.2.2) hyl ((FRight.same Hf.out (by with_reducible first | exact HE.out.bel | exact HE.out.drew.bel)).2 HR.out)).mono ?_; rintro e w3 ⟨kb, rfl, hk, hb⟩; rw [HQ.out] at hk; replace HE := Lib.hid (Env.ret (by with_reducible first | exact HE.out | exact HE.out.drew) hk hb); replace c := Env.c2 HE.out; clear hk hb))
      | (go_at_call 36; go_must (refine (refsame4_any _ k kb q Q N hN (by omega) (RatN.rat (show RatN k q _ from (by with_reducible first | exact HE.out.n | exact HE.out.n.2 | exact HE.out.drew.n | exact HE.out.drew.n.2)) Hsq.out) (RatN.rat (show RatN kb Q _ from (by with_reducible first | exact HE.out.n.1 | exact HE.out.drew.n.1)) (Hfit.out HR.out))).mono ?_; rintro e w4 ⟨rfl, hb⟩; rw [HB.out]; replace HE := Lib.hid (Env.call (by with_reducible first | exact HE.out | exact HE.out.drew) hb); replace c := Env.c2 HE.out; clear hb)))
    all_goals
     go_wp2_with fail
     first
      | exact bodyPost_ret (v := .bool B) (by simp [results, Tryz.results13, go_sem]) rfl ⟨boolRes_mk B ⟨fun h9 => ⟨HFe.out, by have h8 := HB.out; rw [h9] at h8; rw [Hq.out]; exact of_decide_eq_true h8⟩, fun h9 => by rw [← HB.out]; exact decide_eq_true (by rw [← Hq.out]; exact h9.2)⟩, HE.out.bel⟩
      | exact bodyPost_ret (v := .bool B) (by simp [results, Tryz.results13, go_sem]) rfl ⟨boolRes_mk B ⟨fun h9 => ⟨HFe.out, by have h8 := HB.out; rw [h9] at h8; rw [Hq.out]; exact of_decide_eq_true h8⟩, fun h9 => by rw [← HB.out]; exact decide_eq_true (by rw [← Hq.out]; exact h9.2)⟩, HE.out.drew.bel⟩
set_option maxRecDepth 100000 in
theorem best_any (w : World) (n : Nat) (hn : n ≤ 1000) (h1n : 1 ≤ n) (f : FoV) (h : FoD n f w) (hs : FSmall f) (Ax : Option Addr) (cx : Nat) (xs : List (RV × Rat)) (hx : LsR 4 rtcells (roD n) Ax xs w) (Ay : Option Addr) (cy : Nat) (ys : List (RV × Rat)) (hy : LsR 4 rtcells (roD n) Ay ys w) (hyl : ys.length ≤ 30) (hyc : ys.length ≤ cy) (hT : Tz w) :
 Calls Tryz.prog 12 #[fA f, .slice Ax xs.length cx, .slice Ay ys.length cy] w fun e w' => BoolRes (FeasP f xs w ∧ dotQ (vecL f.cost) (vecL xs) = (bndQ f (vecL (ys.take (min ys.length f.b.length))) (dotQ (vecL (ys.take (min ys.length f.b.length))) (vecL f.b)) (fun i => (f.cost[i]!).2) f.cols.length)) e ∧ Below w.heap.size w w' := by
 have Hs := Lib.hid hs
 have Hf := Lib.hid h
 have hc12 := hs.cols
 have Hsx := Lib.hid (show ∀ p ∈ xs, Sz p.2 n from fun p hp => RatD.sz (hx.ok p hp) h1n)
 have Hsk := Lib.hid (show ∀ p ∈ f.cost, Sz p.2 n from fun p hp => RatD.sz (h.cost.ok p hp) h1n)
 have Hfit := Lib.hid (fun (hR : FRight f w) => bnd_sz h1n h hs hR hy (K := min ys.length f.b.length) (by have := hs.b; omega) (cq := fun i => (f.cost[i]!).2) (fun i hi => by rw [getElem!_pos f.cost i (by rw [hR.cost]; exact hi)]; exact Hsk.out _ (List.getElem_mem _)))
 obtain ⟨Q, hQ⟩ : ∃ Q, (bndQ f (vecL (ys.take (min ys.length f.b.length))) (dotQ (vecL (ys.take (min ys.length f.b.length))) (vecL f.b)) (fun i => (f.cost[i]!).2) f.cols.length) = Q := ⟨_, rfl⟩
 have HQ := Lib.hid hQ
 rw [hQ] at Hfit
 rw [hQ]
 clear hQ
 obtain ⟨D, hD⟩ : ∃ D, dotQ (vecL f.cost) (vecL xs) = D := ⟨_, rfl⟩
 have HD := Lib.hid hD
 have HsD := Lib.hid (show Sz D (bndT n) by
  obtain ⟨ps, hps⟩ : ∃ ps : List TeV, ps.map plq = vecL f.cost := ⟨(ofT f.cost).filter nzT, filter_plq _⟩
  obtain ⟨qs, hqs⟩ : ∃ qs : List TeV, qs.map plq = vecL xs := ⟨(ofT xs).filter nzT, filter_plq _⟩
  rw [← hD, ← hps, ← hqs]
  refine (dotQ_sz (vecL_of hqs) h1n (vecL_sz hqs Hsx.out) ps (vecL_sz hps Hsk.out)).up ?_
  have h1 := vecL_len hps
  have h2 := hs.cost
  have h3 := Nat.mul_le_mul_right (2 * n + 2) (show ps.length ≤ 20 by omega)
  unfold bndT; omega)
 rw [hD]
 clear hD
 obtain ⟨B, hB⟩ : ∃ B : Bool, decide (D = Q) = B := ⟨_, rfl⟩
 have HB := Lib.hid hB
 clear hB
 have HE := Lib.hid (lyF f ((h.old).and (((hx.old roD_old)).and (((hy.old roD_old)).and (hT.old)))))
 have c := Env.c1 HE.out
 clear h hs hx hy hT
 unfold fA
 go_enter Tryz.func12, Tryz.ntmps12
 go_wp2_with fail
 refine (feas_any _ n (by omega) h1n f HE.out.o.1 Hs.out Ax cx xs HE.out.o.2.1 HE.out.o.2.2.2).mono ?_
 rintro e w1 ⟨⟨B0, rfl, hB0⟩, hb⟩
 have HF := Lib.hid (hB0.trans (FeasP.same Hf.out HE.out.bel))
 replace HE := Lib.hid (Env.call HE.out hb)
 clear hb hB0 c
 have c := Env.c1 HE.out
 cases B0
 ·go_wp2_with fail
  exact bodyPost_ret (v := .bool false) (by simp [results, Tryz.results12, go_sem]) rfl ⟨boolRes_mk false ⟨fun h9 => absurd h9 (by decide), fun h9 => absurd (HF.out.2 h9.1) (by simp)⟩, HE.out.bel⟩
 ·have HFe := Lib.hid (HF.out.1 rfl)
  have HR := Lib.hid HFe.out.right
  have Hxl := Lib.hid (show xs.length = f.cols.length from HFe.out.len)
  go_upto_region 3 with fail
  go_region_held3 (fun W => CB (w.heap.size) #[.int .i64 f.M, .slice f.Ac f.cols.length f.cc, .slice f.Al f.lo.length f.cl, .slice f.Ah f.hi.length f.ch, .slice f.Ak f.cost.length f.ck, .slice f.Ab f.b.length f.cb] W) (first | with_reducible exact c | with_reducible exact Env.c1 HE.out.drew | ((repeat' apply And.intro) <;> go_keep))
   (first
    | (go_at_call_of 18 (#[.slice f.Ak f.cost.length f.ck] : Array Value); go_must (refine (of_any _ n (by omega) h1n f.Ak f.ck f.cost (by with_reducible first | exact HE.out.o.1.cost | exact HE.out.drew.o.1.cost) Hs.out.cost (by with_reducible first | exact HE.out.o.2.2.2 | exact HE.out.drew.o.2.2.2)).mono ?_; rintro e w2 ⟨Aq, cq, qs, rfl, hcq, hqs, hk, hb⟩; replace HE := Lib.hid (Env.ret (by with_reducible first | exact HE.out | exact HE.out.drew) hk hb); replace c := Env.c1 HE.out; have Hq := Lib.hid (show qs.map plq = vecL f.cost from hqs); clear hk hb hqs hcq))
    | (go_at_call_of 18 (#[.slice Ax xs.length cx] : Array Value); go_must (refine (of_any _ n (by omega) h1n Ax cx xs (by with_reducible first | exact HE.out.o.2.1 | exact HE.out.drew.o.2.1) (by rw [Hxl.out]; omega) (by with_reducible first | exact HE.out.o.2.2.2 | exact HE.out.drew.o.2.2.2)).mono ?_; rintro e w2 ⟨At, ct, ts, rfl, hcq, hqs, hk, hb⟩; replace HE := Lib.hid (Env.ret (by with_reducible first | exact HE.out | exact HE.out.drew) hk hb); replace c := Env.c1 HE.out; have Ht := Lib.hid (show ts.map plq = vecL xs from hqs); clear hk hb hqs hcq))
    | (go_at_call 17; go_must (refine (dot_rise _ n (by omega) h1n Aq At cq ct qs ts ((show ∀ V, LsR 5 tecells teN Aq qs V → LsR 5 tecells (teD n) Aq qs V from fun V h => h.imp fun t ht hn => RatN.rat hn (vecL_sz Hq.out Hsk.out t ht)) _ (by with_reducible first | exact HE.out.n.1 | exact HE.out.n.2.1 | exact HE.out.n.2.2.1 | exact HE.out.n.2.2.2.1 | exact HE.out.drew.n.1 | exact HE.out.drew.n.2.1 | exact HE.out.drew.n.2.2.1 | exact HE.out.drew.n.2.2.2.1)) ((show ∀ V, LsR 5 tecells teN At ts V → LsR 5 tecells (teD n) At ts V from fun V h => h.imp fun t ht hn => RatN.rat hn (vecL_sz Ht.out Hsx.out t ht)) _ (by with_reducible first | exact HE.out.n.1 | exact HE.out.n.2.1 | exact HE.out.n.2.2.1 | exact HE.out.n.2.2.2.1 | exact HE.out.drew.n.1 | exact HE.out.drew.n.2.1 | exact HE.out.drew.n.2.2.1 | exact HE.out.drew.n.2.2.2.1)) (vecL_of Hq.out) (vecL_of Ht.out) (by have := vecL_len Hq.out; have := Hs.out.cost; omega) (by have := vecL_len Ht.out; rw [Hxl.out] at this; omega) (by with_reducible first | exact HE.out.o.2.2.2 | exact HE.out.drew.o.2.2.2)).mono ?_; rintro e w4 ⟨kd, rfl, hk, hb⟩; rw [Hq.out, Ht.out, HD.out] at hk; replace HE := Lib.hid (Env.ret (by with_reducible first | exact HE.out | exact HE.out.drew) hk hb); replace c := Env.c1 HE.out; clear hk hb))
    | (go_at_call 8; go_must (refine (Bound_yes _ n (by omega) h1n f (by with_reducible first | exact HE.out.o.1 | exact HE.out.drew.o.1) Hs.out Ay cy ys (by with_reducible first | exact HE.out.o.2.2.1 | exact HE.out.drew.o.2.2.1) hyl hyc (by with_reducible first | exact HE.out.o.2.2.2 | exact HE.out.drew.o.2.2.2) ((FRight.same Hf.out (by with_reducible first | exact HE.out.bel | exact HE.out.drew.bel)).2 HR.out)).mono ?_; rintro e w3 ⟨kb, rfl, hk, hb⟩; rw [HQ.out] at hk; replace HE := Lib.hid (Env.ret (by with_reducible first | exact HE.out | exact HE.out.drew) hk hb); replace c := Env.c1 HE.out; clear hk hb))
    | (go_at_call 7; go_must (refine (rsame_any _ kd kb D Q (bndT n) (by have := bndT_le (n := n) (by omega); omega) (bndT_one n) (RatN.rat (show RatN kd D _ from (by with_reducible first | exact HE.out.n.1 | exact HE.out.n.2.1 | exact HE.out.n.2.2.1 | exact HE.out.n.2.2.2.1 | exact HE.out.drew.n.1 | exact HE.out.drew.n.2.1 | exact HE.out.drew.n.2.2.1 | exact HE.out.drew.n.2.2.2.1)) HsD.out) (RatN.rat (show RatN kb Q _ from (by with_reducible first | exact HE.out.n.1 | exact HE.out.n.2.1 | exact HE.out.n.2.2.1 | exact HE.out.n.2.2.2.1 | exact HE.out.drew.n.1 | exact HE.out.drew.n.2.1 | exact HE.out.drew.n.2.2.1 | exact HE.out.drew.n.2.2.2.1)) (Hfit.out HR.out))).mono ?_; rintro e w5 ⟨rfl, hb⟩; rw [HB.out]; replace HE := Lib.hid (Env.call (by with_reducible first | exact HE.out | exact HE.out.drew) hb); replace c := Env.c1 HE.out; clear hb)))
  all_goals
   go_wp2_with fail
   first
    | exact bodyPost_ret (v := .bool B) (by simp [results, Tryz.results12, go_sem]) rfl ⟨boolRes_mk B ⟨fun h9 => ⟨HFe.out, by have h8 := HB.out; rw [h9] at h8; exact of_decide_eq_true h8⟩, fun h9 => by rw [← HB.out]; exact decide_eq_true h9.2⟩, HE.out.bel⟩
    | exact bodyPost_ret (v := .bool B) (by simp [results, Tryz.results12, go_sem]) rfl ⟨boolRes_mk B ⟨fun h9 => ⟨HFe.out, by have h8 := HB.out; rw [h9] at h8; exact of_decide_eq_true h8⟩, fun h9 => by rw [← HB.out]; exact decide_eq_true h9.2⟩, HE.out.drew.bel⟩

theorem dotQ_cons (p : Int × Rat) (l Y : List (Int × Rat)) : dotQ (p :: l) Y = p.2 * getQ Y p.1 + dotQ l Y := rfl
theorem dotQ_filter (Y : List (Int × Rat)) : ∀ l : List (Int × Rat), dotQ (l.filter nzP) Y = dotQ l Y
 | [] => rfl
 | p :: l => by
  by_cases h : nzP p = true
  ·rw [List.filter_cons, if_pos h, dotQ_cons, dotQ_cons, dotQ_filter Y l]
  ·have h0 := nzP_zero (p := p) (by simpa using h)
   rw [List.filter_cons, if_neg h, dotQ_cons, dotQ_filter Y l, h0, Rat.zero_mul, Rat.zero_add]
def sumYT (ys : List (RV × Rat)) (Y : List (Int × Rat)) : Nat → Rat
 | 0 => 0
 | k + 1 => sumYT ys Y k + (ys[k]!).2 * getQ Y (k : Int)
theorem dot_take (ys : List (RV × Rat)) (Y : List (Int × Rat)) : ∀ k, k ≤ ys.length → dotQ (((ofT ys).take k).map plq) Y = sumYT ys Y k
 | 0, _ => rfl
 | k + 1, h => by
  have hk : k < (ofT ys).length := by rw [ofT_len]; exact h
  rw [List.take_succ_eq_append_getElem hk, List.map_append, dotQ_app, dot_take ys Y k (by omega), ofT_at ys k h]
  show sumYT ys Y k + dotQ [((k : Int), ys[k].2)] Y = sumYT ys Y k + (ys[k]!).2 * getQ Y (k : Int)
  rw [dotQ_one, getElem!_pos ys k h]
theorem dot_vecL (ys : List (RV × Rat)) (Y : List (Int × Rat)) : dotQ (vecL ys) Y = sumYT ys Y ys.length := by
 unfold vecL
 rw [dotQ_filter, ← dot_take ys Y ys.length (Nat.le_refl _), List.take_of_length_le (by rw [ofT_len]; exact Nat.le_refl _)]
theorem sumYT_take (ys : List (RV × Rat)) (Y : List (Int × Rat)) {K : Nat} (hK : K ≤ ys.length) : ∀ k, k ≤ K → sumYT (ys.take K) Y k = sumYT ys Y k
 | 0, _ => rfl
 | k + 1, h => by
  show sumYT (ys.take K) Y k + ((ys.take K)[k]!).2 * _ = sumYT ys Y k + (ys[k]!).2 * _
  rw [sumYT_take ys Y hK k (by omega), getElem!_pos (ys.take K) k (by simp; omega), getElem!_pos ys k (by omega), List.getElem_take]
theorem dot_vecT (ys : List (RV × Rat)) (Y : List (Int × Rat)) {K : Nat} (hK : K ≤ ys.length) : dotQ (vecL (ys.take K)) Y = sumYT ys Y K := by
 rw [dot_vecL, show (ys.take K).length = K by simp; omega, sumYT_take ys Y hK K (Nat.le_refl _)]
theorem get_vecL (ys : List (RV × Rat)) {i : Nat} (hi : i < ys.length) : getQ (vecL ys) (i : Int) = (ys[i]!).2 := by
 rw [getQ_vecL, getQ_ofT_at ys i hi, getElem!_pos ys i hi]
theorem sumYT_b (ys : List (RV × Rat)) (f : FoV) : ∀ k, k ≤ f.b.length → sumYT ys (vecL f.b) k = sumYB ys f k
 | 0, _ => rfl
 | k + 1, h => by
  show sumYT ys _ k + _ * getQ (vecL f.b) (k : Int) = sumYB ys f k + _ * (f.b[k]!).2
  rw [sumYT_b ys f k (by omega), get_vecL f.b h]
theorem redS_sum (ys : List (RV × Rat)) (T : List (Int × Rat)) (c : Rat) : ∀ k, redS (fun i => (ys[i]!).2) T c k = c - sumYT ys T k
 | 0 => by show c = c - 0; rw [Rat.sub_eq_add_neg, Rat.neg_zero, Rat.add_zero]
 | k + 1 => by
  show redS _ T c k - (ys[k]!).2 * getQ T (k : Int) = c - (sumYT ys T k + (ys[k]!).2 * getQ T (k : Int))
  rw [redS_sum ys T c k, Rat.sub_eq_add_neg, Rat.sub_eq_add_neg, Rat.sub_eq_add_neg, Rat.neg_add, Rat.add_assoc]
theorem lst_end (f : FoV) (c D : Rat) (j : Nat) : lstQ c D (f.lo[j]!).2 (f.hi[j]!).2 = (c - D) * endR f (c - D) j := by
 unfold lstQ endR
 by_cases h : 0 ≤ (c - D).num.sign
 ·rw [if_pos h, if_neg (by omega)]
 ·rw [if_neg h, if_pos (by omega)]
theorem bnd_eq {f : FoV} {cs ys : List (RV × Rat)} {cq : Nat → Rat} (hc : ∀ j, j < f.cols.length → (cs[j]!).2 = cq j) :
 bndQ f (vecL (ys.take (min ys.length f.b.length))) (dotQ (vecL (ys.take (min ys.length f.b.length))) (vecL f.b)) cq f.cols.length = bndR f (redL f cs ys (min ys.length f.b.length)) (sumYB ys f (min ys.length f.b.length)) f.cols.length := by
 obtain ⟨K, hK⟩ : ∃ K, K = min ys.length f.b.length := ⟨_, rfl⟩
 rw [← hK]
 have hKy : K ≤ ys.length := by omega
 have key : ∀ j, j ≤ f.cols.length → bndQ f (vecL (ys.take K)) (dotQ (vecL (ys.take K)) (vecL f.b)) cq j = bndR f (redL f cs ys K) (sumYB ys f K) j := by
  intro j
  induction j with
  | zero =>
   intro _
   show dotQ (vecL (ys.take K)) (vecL f.b) = sumYB ys f K
   rw [dot_vecT ys _ hKy, sumYT_b ys f K (by omega)]
  | succ j ih =>
   intro hj
   show bndQ f _ _ cq j + lstQ (cq j) (dotQ (vecL (ys.take K)) ((f.cols[j]!).ts.map plq)) (f.lo[j]!).2 (f.hi[j]!).2 = bndR f (redL f cs ys K) (sumYB ys f K) j + redL f cs ys K j * endR f (redL f cs ys K j) j
   have e : redL f cs ys K j = cq j - dotQ (vecL (ys.take K)) ((f.cols[j]!).ts.map plq) := by
    unfold redL
    rw [redS_sum, dot_vecT ys _ hKy, hc j (by omega)]
   rw [ih (by omega), e, lst_end]
 exact key _ (Nat.le_refl _)
theorem cost_eq {f : FoV} {xs : List (RV × Rat)} (h1 : f.cost.length = f.cols.length) (h2 : xs.length = f.cols.length) : dotQ (vecL f.cost) (vecL xs) = sumXC xs f f.cols.length := by
 rw [dot_vecL, h1]
 have key : ∀ j, j ≤ f.cols.length → sumYT f.cost (vecL xs) j = sumXC xs f j := by
  intro j
  induction j with
  | zero => intro _; rfl
  | succ j ih =>
   intro hj
   show sumYT f.cost (vecL xs) j + (f.cost[j]!).2 * getQ (vecL xs) (j : Int) = sumXC xs f j + (xs[j]!).2 * (f.cost[j]!).2
   rw [ih (by omega), get_vecL xs (by omega), Rat.mul_comm]
 exact key _ (Nat.le_refl _)
end Go.Proofs.YtbnleajchmnbdaaGreatDoor
