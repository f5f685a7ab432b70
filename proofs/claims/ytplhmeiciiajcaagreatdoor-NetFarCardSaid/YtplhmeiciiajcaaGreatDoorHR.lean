/-
 net.Dist. tripwirelaw13: from, way, NetFar.
-/
import Derived.Test.YtplhmeiciiajcaaGreatDoorHF
namespace Go.Proofs.YtplhmeiciiajcaaGreatDoor
set_option maxHeartbeats 8000000
open Go.RowKit

def stepQ (xs ys : List Rat) (i : Nat) : Rat := rabs ((ys[i]?).getD 0 - (xs[i]?).getD 0)
theorem rabs_sz {a : Rat} {n : Nat} (h : Sz a n) : Sz (rabs a) n := by unfold rabs; split; exact h.neg; exact h
theorem distK_sz {o : Bool} {d : Nat → Rat} {n : Nat} : ∀ k, (∀ i, i < k → Sz (d i) n) → Sz (distK o d k) (1 + k * (n + 1))
 | 0, _ => sz0 (by omega)
 | k + 1, h => by
  have h1 := distK_sz (o := o) k fun i hi => h i (by omega)
  have h2 := h k (by omega)
  rw [distK_1, Nat.add_mul, Nat.one_mul]
  split
  ·exact (Sz.add h1 h2).up (by omega)
  ·exact maxQ_sz9 (h1.up (by omega)) (h2.up (by omega))
set_option maxRecDepth 100000 in
theorem dist_any (w : World) (n N : Nat) (hN : N ≤ 100000) (h1n : 1 ≤ n) (hnN : 1 + 1000 * (2 * n + 2) ≤ N) (A0 A1 A2 Ay : Option Addr) (n0 n1 n2 c0 c1 c2 cy ny : Nat) (lab nm : Int) (xs ys : List (RV × Rat)) (hx : LsR 4 rtcells (roD n) A0 xs w) (hy : LsR 4 rtcells (roD n) Ay ys w) (hn0 : n0 = xs.length) (hny : ny = ys.length) (hb : n0 ≤ 1000) (_hyb : ny ≤ 1000) (hT : Tz w) :
 Calls Tryz.prog 25 #[.agg #[.slice A0 n0 c0, .int .i64 lab, .slice A1 n1 c1, .slice A2 n2 c2, .int .u8 nm], .slice Ay ny cy] w (RetR (distK (decide (nm = 1)) (stepQ (xs.map Prod.snd) (ys.map Prod.snd)) (min n0 ny)) w) := by
 obtain ⟨K, hK⟩ : ∃ K, K = min n0 ny := ⟨_, rfl⟩
 obtain ⟨d, hd⟩ : ∃ d, d = stepQ (xs.map Prod.snd) (ys.map Prod.snd) := ⟨_, rfl⟩
 rw [← hK, ← hd]
 have hK0 : K ≤ n0 := by omega
 have hKy : K ≤ ny := by omega
 have hmin : min (n0 : Int) (ny : Int) = (K : Int) := by omega
 have slx := hx.sl
 have sly := hy.sl
 rw [← hn0] at slx
 rw [← hny] at sly
 have hszr := size_rats
 have hadd := adr_add
 have h1N : 1 ≤ N := by omega
 have hn2 : n ≤ N := by omega
 have Hn0 := Lib.hid hn0
 have Hny := Lib.hid hny
 have HZ := Lib.hid (show ∀ i (hi : i < ys.length) (hj : i < xs.length), d i = rabs ((ys[i]).2 - (xs[i]).2) ∧ Sz ((ys[i]).2 - (xs[i]).2) (2 * n + 1) from fun i hi hj => by
  refine ⟨by rw [hd, stepQ, List.getElem?_map, List.getElem?_map, List.getElem?_eq_getElem hi, List.getElem?_eq_getElem hj]; rfl, ?_⟩
  exact (Sz.sub (RatD.sz (show RatD (ys[i]).1 (ys[i]).2 n w from hy.ok _ (List.getElem_mem hi)) h1n) (RatD.sz (show RatD (xs[i]).1 (xs[i]).2 n w from hx.ok _ (List.getElem_mem hj)) h1n)).up (by omega))
 have HDZ := Lib.hid (show ∀ i, i ≤ K → Sz (distK (decide (nm = 1)) d i) N from fun i hi => by
  have h1 : (1 + i * (2 * n + 2)) ≤ N := by
   have := Nat.mul_le_mul_right (2 * n + 2) (show i ≤ 1000 by omega)
   omega
  refine Sz.up (distK_sz i fun j hj => ?_) h1
  obtain ⟨e1, e2⟩ := HZ.out j (by omega) (by omega)
  rw [e1]
  exact rabs_sz e2)
 obtain ⟨W0, hW0⟩ : ∃ W0, W0 = (((w.alloc (.cells #[.slice A0 n0 c0, .int .i64 lab, .slice A1 n1 c1, .slice A2 n2 c2, .int .u8 nm] 63)).alloc (.cells #[.bool false, .slice none 0 0, .bool false, .slice none 0 0] 30)).alloc (.cells #[.bool false, .slice none 0 0, .bool false, .slice none 0 0] 30)) := ⟨_, rfl⟩
 have HE := Lib.hid (Env.lay3 (Env.start (((hy.old roD_old)).and (((hx.old roD_old)).and (hT.old)))) hW0)
 subst hW0
 have c := Env.c3 HE.out
 have dd := Env.d3 HE.out
 clear hx hy hT hd hK hn0 hny
 go_enter Tryz.func25, Tryz.ntmps25
 go_upto_region 3 with fail
 replace HE := Lib.hid (HE.out.imp (φ := fun V => LsR 4 rtcells (roD n) Ay ys V ∧ LsR 4 rtcells (roD n) A0 xs V ∧ Tz V) (ψ := fun V => RatN zeroR (distK (decide (nm = 1)) d 0) V) (fun _ h => h) (fun V _ => zeroRN V))
 clear c dd
 go_loopw [14] (fun iv wr => ∃ (i : Nat) (k : RV), iv = .int .i64 (i : Int) ∧ i ≤ K ∧ Hid (Env w [⟨w.heap.size + 1 + 1, 30, #[.bool k.num.neg, .slice k.num.A k.num.k k.num.c, .bool k.den.neg, .slice k.den.A k.den.k k.den.c]⟩, ⟨w.heap.size + 1, 30, #[.bool false, .slice none 0 0, .bool false, .slice none 0 0]⟩, ⟨w.heap.size, 63, #[.slice A0 n0 c0, .int .i64 lab, .slice A1 n1 c1, .slice A2 n2 c2, .int .u8 nm]⟩] (fun V => LsR 4 rtcells (roD n) Ay ys V ∧ LsR 4 rtcells (roD n) A0 xs V ∧ Tz V) (fun V => RatN k (distK (decide (nm = 1)) d i) V) wr)) (fun iv _ => K - (intOf iv).toNat)
 case atStart => exact ⟨0, zeroR, rfl, Nat.zero_le _, HE⟩
 case round =>
  clear HE
  obtain ⟨i, k, rfl, hi, HE⟩ := hrel
  have c := Env.c3 HE.out
  by_cases hlt : i < K
  ·have hly : i < ys.length := by rw [← Hny.out]; omega
   have hlx : i < xs.length := by rw [← Hn0.out]; omega
   have hiy : i < ny := by omega
   have hix : i < n0 := by omega
   have HDD := Lib.hid (HZ.out i hly hlx)
   have HO := Lib.hid (fun (V : World) (h : LsR 4 rtcells (roD n) Ay ys V ∧ LsR 4 rtcells (roD n) A0 xs V ∧ Tz V) => And.intro (h.1.rc i hly) (And.intro (h.2.1.rc i hlx) (And.intro (show RatD (ys[i]).1 (ys[i]).2 n V from h.1.ok _ (List.getElem_mem hly)) (show RatD (xs[i]).1 (xs[i]).2 n V from h.2.1.ok _ (List.getElem_mem hlx)))))
   obtain ⟨p, hp⟩ : ∃ p, p = ys[i] := ⟨_, rfl⟩
   obtain ⟨r, hr⟩ : ∃ r, r = xs[i] := ⟨_, rfl⟩
   rw [← hp] at HDD HO
   rw [← hr] at HDD HO
   clear hp hr hly hlx
   have HB1 := Lib.hid (HDZ.out i hi)
   have HB2 := Lib.hid (HDZ.out (i + 1) hlt)
   have HSD := Lib.hid (HDD.out.2)
   have HDE := Lib.hid (show rabs (p.2 - r.2) = d i from HDD.out.1.symm)
   clear HDD
   go_upto_region 5 with fail
   have HC1 := Lib.hid (fun (V : World) (new : World → Prop) (h : Hid (Env w [⟨w.heap.size + 1 + 1, 30, #[.bool k.num.neg, .slice k.num.A k.num.k k.num.c, .bool k.den.neg, .slice k.den.A k.den.k k.den.c]⟩, ⟨w.heap.size + 1, 30, #[.bool false, .slice none 0 0, .bool false, .slice none 0 0]⟩, ⟨w.heap.size, 63, #[.slice A0 n0 c0, .int .i64 lab, .slice A1 n1 c1, .slice A2 n2 c2, .int .u8 nm]⟩] (fun V => LsR 4 rtcells (roD n) Ay ys V ∧ LsR 4 rtcells (roD n) A0 xs V ∧ Tz V) (fun V => new V) V)) => And.intro (HO.out V h.out.o).1 (And.intro (HO.out V h.out.o).2.1 (Env.c3 h.out).2.2))
   have HC2 := Lib.hid (fun (V : World) (cs : Array Value) (g : Nat) (new : World → Prop) (h : Hid (Env w [⟨g, 30, cs⟩, ⟨w.heap.size + 1 + 1, 30, #[.bool k.num.neg, .slice k.num.A k.num.k k.num.c, .bool k.den.neg, .slice k.den.A k.den.k k.den.c]⟩, ⟨w.heap.size + 1, 30, #[.bool false, .slice none 0 0, .bool false, .slice none 0 0]⟩, ⟨w.heap.size, 63, #[.slice A0 n0 c0, .int .i64 lab, .slice A1 n1 c1, .slice A2 n2 c2, .int .u8 nm]⟩] (fun V => LsR 4 rtcells (roD n) Ay ys V ∧ LsR 4 rtcells (roD n) A0 xs V ∧ Tz V) new V)) => And.intro (HO.out V h.out.o).1 (And.intro (HO.out V h.out.o).2.1 (Env.c4 h.out).2.2.2))
   go_cut [7] from 15 to 37 (fun v wx => ∃ g7 k7, v = .pointer (some ⟨g7, 0, none⟩) ∧ Hid (Env w [⟨g7, 30, #[.bool k7.num.neg, .slice k7.num.A k7.num.k k7.num.c, .bool k7.den.neg, .slice k7.den.A k7.den.k k7.den.c]⟩, ⟨w.heap.size + 1 + 1, 30, #[.bool k.num.neg, .slice k.num.A k.num.k k.num.c, .bool k.den.neg, .slice k.den.A k.den.k k.den.c]⟩, ⟨w.heap.size + 1, 30, #[.bool false, .slice none 0 0, .bool false, .slice none 0 0]⟩, ⟨w.heap.size, 63, #[.slice A0 n0 c0, .int .i64 lab, .slice A1 n1 c1, .slice A2 n2 c2, .int .u8 nm]⟩] (fun V => LsR 4 rtcells (roD n) Ay ys V ∧ LsR 4 rtcells (roD n) A0 xs V ∧ Tz V) (fun V => RatN k7 (d i) V ∧ RatN k (distK (decide (nm = 1)) d i) V) wx))
   case first =>
    have c := HC1.out _ _ HE
    go_region_held3 (fun W => RC Ay i p W ∧ RC A0 i r W ∧ CB (w.heap.size) #[.slice A0 n0 c0, .int .i64 lab, .slice A1 n1 c1, .slice A2 n2 c2, .int .u8 nm] W) (first | with_reducible exact c | with_reducible exact HC1.out _ _ (Lib.hid HE.out) | with_reducible exact HC1.out _ _ (Lib.hid HE.out.drew) | with_reducible exact HC2.out _ _ _ _ (Lib.hid (HE.out.nn _ _)) | with_reducible exact HC2.out _ _ _ _ (Lib.hid (HE.out.nn _ _).drew) | with_reducible exact HC2.out _ _ _ _ (Lib.hid (HE.out.nd_ _ _)) | with_reducible exact HC2.out _ _ _ _ (Lib.hid (HE.out.put4 _ _ _ _)) | with_reducible exact HC2.out _ _ _ _ (Lib.hid (HE.out.drew.put4 _ _ _ _)) | ((repeat' apply And.intro) <;> go_keep))
     (first
      | (go_at_call 41; go_must (refine (rsub_any _ p.1 r.1 p.2 r.2 n (by omega) h1n (by first | with_reducible exact (HO.out _ HE.out.o).2.2.1 | with_reducible exact (HO.out _ HE.out.drew.o).2.2.1 | with_reducible exact (HO.out _ (HE.out.nn _ _).o).2.2.1 | with_reducible exact (HO.out _ (HE.out.nd_ _ _).o).2.2.1 | with_reducible exact (HO.out _ (HE.out.nn _ _).drew.o).2.2.1) (by first | with_reducible exact (HO.out _ HE.out.o).2.2.2 | with_reducible exact (HO.out _ HE.out.drew.o).2.2.2 | with_reducible exact (HO.out _ (HE.out.nn _ _).o).2.2.2 | with_reducible exact (HO.out _ (HE.out.nd_ _ _).o).2.2.2 | with_reducible exact (HO.out _ (HE.out.nn _ _).drew.o).2.2.2) (by first | with_reducible exact HE.out.o.2.2 | with_reducible exact HE.out.drew.o.2.2 | with_reducible exact (HE.out.nn _ _).o.2.2 | with_reducible exact (HE.out.nd_ _ _).o.2.2 | with_reducible exact (HE.out.nn _ _).drew.o.2.2)).mono ?_; rintro e w1 ⟨ks, rfl, hk, hb⟩; (first | (with_reducible (replace HE := Lib.hid (Env.ret HE.out hk hb))) | (with_reducible (replace HE := Lib.hid (Env.ret HE.out.drew hk hb))) | (with_reducible (replace HE := Lib.hid (Env.ret (HE.out.nn 30 #[.bool false, .slice none 0 0, .bool false, .slice none 0 0]) hk hb))) | (with_reducible (replace HE := Lib.hid (Env.ret (HE.out.nd_ 30 #[.bool false, .slice none 0 0, .bool false, .slice none 0 0]) hk hb))) | (with_reducible (replace HE := Lib.hid (Env.ret (HE.out.nn 30 #[.bool false, .slice none 0 0, .bool false, .slice none 0 0]).drew hk hb)))); (first | (replace c := HC1.out _ _ HE) | (replace c := HC2.out _ _ _ _ HE)); (first | (have cb := Env.c4 HE.out) | (have cb := Env.c3 HE.out)); clear hk hb))
      | (go_at_call 49; go_must (refine (rabs_any _ ks (p.2 - r.2) N (by omega) h1N (RatN.rat (by first | with_reducible exact HE.out.n.1 | with_reducible exact HE.out.drew.n.1 | with_reducible exact (HE.out.nn _ _).n.1 | with_reducible exact (HE.out.nd_ _ _).n.1 | with_reducible exact (HE.out.nn _ _).drew.n.1) (HSD.out.up (by omega))) (by first | with_reducible exact HE.out.o.2.2 | with_reducible exact HE.out.drew.o.2.2 | with_reducible exact (HE.out.nn _ _).o.2.2 | with_reducible exact (HE.out.nd_ _ _).o.2.2 | with_reducible exact (HE.out.nn _ _).drew.o.2.2)).mono ?_; rintro e w2 ⟨k7, rfl, hk, hb⟩; rw [HDE.out] at hk; (first | (with_reducible (replace HE := Lib.hid (Env.ret HE.out hk hb))) | (with_reducible (replace HE := Lib.hid (Env.ret HE.out.drew hk hb))) | (with_reducible (replace HE := Lib.hid (Env.ret (HE.out.nn 30 #[.bool false, .slice none 0 0, .bool false, .slice none 0 0]) hk hb))) | (with_reducible (replace HE := Lib.hid (Env.ret (HE.out.nd_ 30 #[.bool false, .slice none 0 0, .bool false, .slice none 0 0]) hk hb))) | (with_reducible (replace HE := Lib.hid (Env.ret (HE.out.nn 30 #[.bool false, .slice none 0 0, .bool false, .slice none 0 0]).drew hk hb)))); (first | (replace c := HC1.out _ _ HE) | (replace c := HC2.out _ _ _ _ HE)); (first | (have cb := Env.c4 HE.out) | (have cb := Env.c3 HE.out)); clear hk hb)))
    all_goals
     go_wp2_with fail
     go_meet
     first
      | with_reducible exact ⟨_, k7, rfl, Lib.hid ((HE.out.put4 _ _ _ _).imp (fun _ h => h) (fun _ h => ⟨h.1, h.2.2⟩))⟩
      | with_reducible exact ⟨_, k7, rfl, Lib.hid ((HE.out.drew.put4 _ _ _ _).imp (fun _ h => h) (fun _ h => ⟨h.1, h.2.2⟩))⟩
      | with_reducible exact ⟨_, k7, rfl, Lib.hid ((HE.out.nn _ _).imp (fun _ h => h) (fun _ h => ⟨h.1, h.2.2⟩))⟩
      | with_reducible exact ⟨_, k7, rfl, Lib.hid ((HE.out.nn _ _).drew.imp (fun _ h => h) (fun _ h => ⟨h.1, h.2.2⟩))⟩
      | with_reducible exact ⟨_, k7, rfl, Lib.hid ((HE.out.nd_ _ _).imp (fun _ h => h) (fun _ h => ⟨h.1, h.2.2⟩))⟩
   case rest =>
    clear HE HC1 HC2 HSD HDE c
    obtain ⟨g7, k7, rfl, HE⟩ := hcut
    have c := Env.c4 HE.out
    have HDI := Lib.hid (HDZ.out (i + 1) hlt)
    by_cases hL : nm = 1
    ·have e0 : ((nm == 1) = true) := by simp [hL]
     have HE1 := Lib.hid (show distK (decide (nm = 1)) d i + d i = distK (decide (nm = 1)) d (i + 1) from by rw [distK_1, if_pos (by simp [hL])])
     clear hL
     have HDI2 := Lib.hid (show Sz (d i) N from by
      obtain ⟨e1, e2⟩ := HZ.out i (by rw [← Hny.out]; omega) (by rw [← Hn0.out]; omega)
      rw [e1]; exact (rabs_sz e2).up (by omega))
     go_wp2_with fail
     refine (radd_any _ k k7 (distK (decide (nm = 1)) d i) (d i) N (by omega) h1N (RatN.rat HE.out.n.2 HB1.out) (RatN.rat HE.out.n.1 HDI2.out) HE.out.o.2.2).mono ?_
     rintro e wq ⟨k2, rfl, hk9, hb9⟩
     rw [HE1.out] at hk9
     replace HE := Lib.hid (Env.ret HE.out hk9 hb9)
     replace c := Env.c4 HE.out
     clear hk9 hb9
     go_wp2_with fail
     go_roundw
     case rel => exact ⟨i + 1, k2, by go_num, by omega, Lib.hid ((Env.drop (HE.out.put4_1 (.bool k2.num.neg) (.slice k2.num.A k2.num.k k2.num.c) (.bool k2.den.neg) (.slice k2.den.A k2.den.k k2.den.c))).imp (fun _ h => h) (fun _ h => h.1))⟩
     case measure => (simp [intOf] <;> omega)
    ·have e0 : ((nm == 1) = false) := by simp [hL]
     have HE1 := Lib.hid (show maxQ (distK (decide (nm = 1)) d i) (d i) = distK (decide (nm = 1)) d (i + 1) from by rw [distK_1, if_neg (by simp [hL])])
     have HDI2 := Lib.hid (show Sz (d i) N from by
      obtain ⟨e1, e2⟩ := HZ.out i (by rw [← Hny.out]; omega) (by rw [← Hn0.out]; omega)
      rw [e1]; exact (rabs_sz e2).up (by omega))
     go_wp2_with fail
     refine (rmax_any _ k k7 (distK (decide (nm = 1)) d i) (d i) N (by omega) h1N (RatN.rat HE.out.n.2 HB1.out) (RatN.rat HE.out.n.1 HDI2.out) HE.out.o.2.2).mono ?_
     rintro e wq ⟨k2, rfl, hk9, hb9⟩
     rw [HE1.out] at hk9
     replace HE := Lib.hid (Env.ret HE.out hk9 hb9)
     replace c := Env.c4 HE.out
     clear hk9 hb9
     go_wp2_with fail
     go_roundw
     case rel => exact ⟨i + 1, k2, by go_num, by omega, Lib.hid ((Env.drop (HE.out.put4_1 (.bool k2.num.neg) (.slice k2.num.A k2.num.k k2.num.c) (.bool k2.den.neg) (.slice k2.den.A k2.den.k k2.den.c))).imp (fun _ h => h) (fun _ h => h.1))⟩
     case measure => (simp [intOf] <;> omega)
  ·obtain rfl : i = K := by omega
   go_wp2_with fail
   have hE := HE.out.put4_1 (.bool k.num.neg) (.slice k.num.A k.num.k k.num.c) (.bool k.den.neg) (.slice k.den.A k.den.k k.den.c)
   have c9 := Env.c3 hE
   exact bodyPost_ret (v := .agg #[.bool k.num.neg, .slice k.num.A k.num.k k.num.c, .bool k.den.neg, .slice k.den.A k.den.k k.den.c]) (by simp [results, Tryz.results25, go_sem, c9]) rfl ⟨k, rfl, (hE.rsn.mono fun _ h => h.1).imp fun _ h => h, hE.bel⟩
end Go.Proofs.YtplhmeiciiajcaaGreatDoor
namespace Go.Proofs.YtplhmeiciiajcaaGreatDoor
set_option maxHeartbeats 8000000
open Go.RowKit

set_option maxRecDepth 100000 in
theorem from_any (w : World) (nm : Int) (A : Option Addr) (n cA : Nat) : Calls Tryz.prog 37 #[.int .u8 nm, .slice A n cA] w fun e w' => e = .returned (.agg #[.slice A n cA, .int .i64 0, .slice none 0 0, .slice none 0 0, .int .u8 nm]) ∧ Below w.heap.size w w' := by
 obtain ⟨W0, hW0⟩ : ∃ W0, W0 = (w.alloc (.cells #[.slice none 0 0, .int .i64 0, .slice none 0 0, .slice none 0 0, .int .u8 0] 63)) := ⟨_, rfl⟩
 have HE := Lib.hid (Env.lay1 (Env.start (Rests.pure trivial _ _)) hW0)
 subst hW0
 have c := Env.c1 HE.out
 go_enter Tryz.func37, Tryz.ntmps37
 go_wp2_with fail
 have hE := (Env.start (Rests.pure trivial w (· < w.heap.size))).nn 63 #[.slice A n cA, .int .i64 0, .slice none 0 0, .slice none 0 0, .int .u8 nm]
 have c9 := Env.c1 hE
 exact bodyPost_ret (v := .agg #[.slice A n cA, .int .i64 0, .slice none 0 0, .slice none 0 0, .int .u8 nm]) (by simp [results, Tryz.results37, go_sem, c9]) rfl ⟨rfl, hE.bel⟩
def dQ (o : Bool) (xs ys : List (RV × Rat)) (n : Nat) : Rat := distK o (stepQ (xs.map Prod.snd) (ys.map Prod.snd)) n
section
variable {o : Bool} {n : Nat} (xs ys zs : List (RV × Rat))
theorem dQ_self : dQ o xs xs n = 0 := distK_zero fun _ _ => rabs_self _
theorem dQ_comm : dQ o xs ys n = dQ o ys xs n := distK_congr fun _ _ => rabs_comm _ _
theorem dQ_nn : 0 ≤ dQ o xs ys n := distK_nn fun _ _ => rabs_nn _
theorem dQ_tri : dQ o xs zs n ≤ dQ o xs ys n + dQ o ys zs n := distK_tri (fun i _ => by
 have h := rabs_tri (((xs.map Prod.snd)[i]?).getD 0) (((ys.map Prod.snd)[i]?).getD 0) (((zs.map Prod.snd)[i]?).getD 0)
 unfold stepQ
 rw [rabs_comm (((zs.map Prod.snd)[i]?).getD 0), rabs_comm (((ys.map Prod.snd)[i]?).getD 0) (((xs.map Prod.snd)[i]?).getD 0), rabs_comm (((zs.map Prod.snd)[i]?).getD 0) (((ys.map Prod.snd)[i]?).getD 0)]
 exact h) fun _ _ => ⟨rabs_nn _, rabs_nn _⟩
theorem dQ_le : dQ false xs ys n ≤ dQ true xs ys n := distK_le fun _ _ => rabs_nn _
variable {xs ys zs}
theorem dQ_sz {w : World} {A B : Option Addr} (h : LsR 4 rtcells (roD 2) A xs w) (h' : LsR 4 rtcells (roD 2) B ys w) (hn : n ≤ 1000) : Sz (dQ o xs ys n) 7000 := by
 have z : ∀ {A : Option Addr} {xs : List (RV × Rat)}, LsR 4 rtcells (roD 2) A xs w → ∀ i, Sz (((xs.map Prod.snd)[i]?).getD 0) 2 := fun {A xs} h i => getD_sz9 (by decide) (fun q hq => by
  obtain ⟨p, hp, rfl⟩ := List.mem_map.1 hq
  exact RatD.sz (show RatD p.1 p.2 2 w from h.ok p hp) (by decide)) i
 refine Sz.up (distK_sz n fun i _ => rabs_sz (Sz.sub (n := 2) (m := 2) (z h' i) (z h i))) ?_
 omega
end
theorem sign_nn {q : Rat} (h : 0 ≤ q) : 0 ≤ q.num.sign := by
 have h1 : 0 ≤ q.num := Rat.num_nonneg.2 h
 exact Int.sign_nonneg_iff.2 h1
theorem cmpQ_le9 {a b : Rat} (h : a ≤ b) : cmpQ a b ≤ 0 := by
 unfold cmpQ
 split
 ·decide
 ·split
  ·decide
  ·exact absurd (by grind) (show ¬ a = b by assumption)
theorem cmpQ_ge9 {a b : Rat} (h : b ≤ a) : 0 ≤ cmpQ a b := by
 unfold cmpQ
 split
 ·exact absurd h (by grind)
 ·split <;> decide
set_option maxRecDepth 100000 in
theorem way_any (w : World) (nm : Int) (Ax Ay Az : Option Addr) (cx cy cz n : Nat) (xs ys zs : List (RV × Rat)) (hx : LsR 4 rtcells (roD 2) Ax xs w) (hy : LsR 4 rtcells (roD 2) Ay ys w) (hz : LsR 4 rtcells (roD 2) Az zs w) (h1 : n = xs.length) (h2 : n = ys.length) (h3 : n = zs.length) (hn : n ≤ 12) (hT : Tz w) :
 Calls Tryz.prog 35 #[.int .u8 nm, .slice Ax n cx, .slice Ay n cy, .slice Az n cz] w fun e w' => e = .returned (.bool true) ∧ Below w.heap.size w w' := by
 obtain ⟨o, ho⟩ : ∃ o, o = decide (nm = 1) := ⟨_, rfl⟩
 have HD := Lib.hid (fun (V : World) (A B : Option Addr) (c d : Nat) (us vs : List (RV × Rat)) (h : LsR 4 rtcells (roD 2) A us V) (h' : LsR 4 rtcells (roD 2) B vs V) (hT : Tz V) (e1 : n = us.length) (e2 : n = vs.length) => (show Calls Tryz.prog 25 #[.agg #[.slice A n c, .int .i64 0, .slice none 0 0, .slice none 0 0, .int .u8 nm], .slice B n d] V (RetR (dQ o us vs n) V) from by
  have h9 := dist_any V 2 7000 (by decide) (by decide) (by decide) A none none B n 0 0 c 0 0 d n 0 nm us vs h h' e1 e2 (by omega) (by omega) hT
  rw [Nat.min_self, ← ho] at h9
  exact h9))
 have HX := Lib.hid h1
 have HY := Lib.hid h2
 have HZ := Lib.hid h3
 have HS := Lib.hid (And.intro (dQ_sz (o := o) hx hy (show n ≤ 1000 by omega)) (And.intro (dQ_sz (o := o) hx hz (show n ≤ 1000 by omega)) (dQ_sz (o := o) hy hz (show n ≤ 1000 by omega))))
 have HE := Lib.hid (Env.start (((hx.old roD_old)).and (((hy.old roD_old)).and (((hz.old roD_old)).and (hT.old)))))
 clear hx hy hz hT h1 h2 h3
 go_enter Tryz.func35, Tryz.ntmps35
 go_wp2_with fail
 refine (from_any _ nm Ax n cx).mono ?_
 rintro e w8 ⟨rfl, hb⟩
 replace HE := Lib.hid (Env.call HE.out hb)
 clear hb
 go_wp2_with fail
 refine (HD.out _ Ax Ay cx cy xs ys HE.out.o.1 HE.out.o.2.1 HE.out.o.2.2.2 HX.out HY.out).mono ?_
 rintro e w8 ⟨kd, rfl, hk, hb⟩
 replace HE := Lib.hid (Env.ret HE.out hk hb)
 clear hk hb
 go_upto_region 2 with fail
 obtain ⟨W2, g, hW2, hg, HE⟩ := Env.al HE.out 30 #[.bool kd.num.neg, .slice kd.num.A kd.num.k kd.num.c, .bool kd.den.neg, .slice kd.den.A kd.den.k kd.den.c]
 rw [hW2, hg]
 clear hW2 hg
 have HBl := Lib.hid HE.out.bel
 replace HE := Lib.hid ((Env.rebase9 HE.out.read).imp (φ := (fun V => CB g #[.bool kd.num.neg, .slice kd.num.A kd.num.k kd.num.c, .bool kd.den.neg, .slice kd.den.A kd.den.k kd.den.c] V ∧ RatN kd (dQ o xs ys n) V ∧ LsR 4 rtcells (roD 2) Ax xs V ∧ LsR 4 rtcells (roD 2) Ay ys V ∧ LsR 4 rtcells (roD 2) Az zs V ∧ Tz V)) (ψ := fun _ => True) (fun V h => ⟨Blk.cb h.2.1, h.2.2.1, h.1⟩) (fun _ h => h))
 have e8 : (0 : Rat).num.sign = 0 := rfl
 obtain ⟨s, hs⟩ : ∃ s, s = (dQ o xs ys n).num.sign := ⟨_, rfl⟩
 have hs0 : 0 ≤ s := by rw [hs]; exact sign_nn (dQ_nn xs ys)
 have Hs := Lib.hid hs
 clear hs
 obtain ⟨t, ht⟩ : ∃ t, t = cmpQ (dQ o xs zs n) (dQ o xs ys n + dQ o ys zs n) := ⟨_, rfl⟩
 have ht0 : t ≤ 0 := by rw [ht]; exact cmpQ_le9 (dQ_tri xs ys zs)
 have Ht := Lib.hid ht
 clear ht
 have HR0 := Lib.hid (dQ_self (o := o) (n := n) xs)
 have HRC := Lib.hid (dQ_comm (o := o) (n := n) ys xs)
 refine wp_region_noPanic ?_
 refine wp_region_held_drew (S := (fun V => CB g #[.bool kd.num.neg, .slice kd.num.A kd.num.k kd.num.c, .bool kd.den.neg, .slice kd.den.A kd.den.k kd.den.c] V)) (by kernel_rfl) (by first | exact HE.out.o.1 | exact HE.out.drew.o.1) (fun hHeld => ?_)
 replace HE := Lib.hid HE.out.drew
 refine held_take (i := 0) (v := ?_) (some 15) rfl rfl (by kernel_rfl) (by kernel_rfl) (by kernel_rfl) (fun _ _ _ h => h) (Or.inl ⟨by rfl, ?_⟩) hHeld ?_
 rotate_left 1
 ·intro w hSw
  (try dsimp only at hSw)
  (first | (go_simp; done) | (go_simp; with_reducible rfl))
 (try simp only [Act.put, List.setIfInBounds_toArray, List.set_cons_zero, List.set_cons_succ])
 refine held_take (i := 1) (v := ?_) (some 16) rfl rfl (by kernel_rfl) (by kernel_rfl) (by kernel_rfl) (fun _ _ _ h => h) (Or.inl ⟨by rfl, ?_⟩) hHeld ?_
 rotate_left 1
 ·intro w hSw
  (try dsimp only at hSw)
  (first | (go_simp; done) | (go_simp; with_reducible rfl))
 (try simp only [Act.put, List.setIfInBounds_toArray, List.set_cons_zero, List.set_cons_succ])
 refine held_take (i := 3) (v := ?_) (some 18) rfl rfl (by kernel_rfl) (by kernel_rfl) (by kernel_rfl) (fun _ _ _ h => h) (Or.inl ⟨by rfl, ?_⟩) hHeld ?_
 rotate_left 1
 ·intro w hSw
  (try dsimp only at hSw)
  (first | (go_simp; done) | (go_simp; with_reducible rfl))
 (try simp only [Act.put, List.setIfInBounds_toArray, List.set_cons_zero, List.set_cons_succ])
 refine held_call (i := 2) rfl (by kernel_rfl) (by rfl) (fun K hK => ?_)
 clear hHeld
 simp only [List.getElem_toArray, List.getElem_cons_succ, List.getElem_cons_zero]
 go_simp
 refine (from_any _ nm Ax n cx).mono ?_
 rintro e w8 ⟨rfl, hb⟩
 replace HE := Lib.hid (Env.call HE.out hb)
 clear hb
 (try (go_wp2_with fail))
 refine hK.out _ _ (by first | exact HE.out.o.1 | exact HE.out.drew.o.1) (fun hHeld => ?_)
 clear hK K
 (try simp only [Act.put, List.setIfInBounds_toArray, List.set_cons_zero, List.set_cons_succ])
 refine held_call (i := 4) rfl (by kernel_rfl) (by rfl) (fun K hK => ?_)
 clear hHeld
 simp only [List.getElem_toArray, List.getElem_cons_succ, List.getElem_cons_zero]
 go_simp
 refine (HD.out _ Ax Ax cx cx xs xs HE.out.o.2.2.1 HE.out.o.2.2.1 HE.out.o.2.2.2.2.2 HX.out HX.out).mono ?_
 rintro e w8 ⟨k1, rfl, hk, hb⟩
 rw [HR0.out] at hk
 replace HE := Lib.hid (Env.ret HE.out hk hb)
 clear hk hb
 (try (go_wp2_with fail))
 refine hK.out _ _ (by first | exact HE.out.o.1 | exact HE.out.drew.o.1) (fun hHeld => ?_)
 clear hK K
 (try simp only [Act.put, List.setIfInBounds_toArray, List.set_cons_zero, List.set_cons_succ])
 refine held_call (i := 5) rfl (by kernel_rfl) (by rfl) (fun K hK => ?_)
 clear hHeld
 simp only [List.getElem_toArray, List.getElem_cons_succ, List.getElem_cons_zero]
 go_simp
 refine (rsign_any _ k1 0 7000 (by decide) (RatN.rat HE.out.n.1 (sz0 (by decide)))).mono ?_
 rintro e w8 ⟨rfl, hb⟩
 rw [e8]
 replace HE := Lib.hid (Env.call HE.out hb)
 clear hb
 (try (go_wp2_with fail))
 refine hK.out _ _ (by first | exact HE.out.o.1 | exact HE.out.drew.o.1) (fun hHeld => ?_)
 clear hK K
 (try simp only [Act.put, List.setIfInBounds_toArray, List.set_cons_zero, List.set_cons_succ])
 refine held_take (i := 6) (v := ?_) (some 21) rfl rfl (by kernel_rfl) (by kernel_rfl) (by kernel_rfl) (fun _ _ _ h => h) (Or.inl ⟨by rfl, ?_⟩) hHeld ?_
 rotate_left 1
 ·intro w hSw
  (try dsimp only at hSw)
  (first | (go_simp; done) | (go_simp; with_reducible rfl))
 (try simp only [Act.put, List.setIfInBounds_toArray, List.set_cons_zero, List.set_cons_succ])
 refine held_take (i := 7) (v := ?_) (some 22) rfl rfl (by kernel_rfl) (by kernel_rfl) (by kernel_rfl) (fun _ _ _ h => h) (Or.inl ⟨by rfl, ?_⟩) hHeld ?_
 rotate_left 1
 ·intro w hSw
  (try dsimp only at hSw)
  (first | (go_simp; done) | (go_simp; with_reducible rfl))
 (try simp only [Act.put, List.setIfInBounds_toArray, List.set_cons_zero, List.set_cons_succ])
 refine held_take (i := 8) (v := ?_) (some 23) rfl rfl (by kernel_rfl) (by kernel_rfl) (by kernel_rfl) (fun _ _ _ h => h) (Or.inl ⟨by rfl, ?_⟩) hHeld ?_
 rotate_left 1
 ·intro w hSw
  (try dsimp only at hSw)
  (first | (go_simp; done) | (go_simp; with_reducible rfl))
 (try simp only [Act.put, List.setIfInBounds_toArray, List.set_cons_zero, List.set_cons_succ])
 refine held_take (i := 9) (v := ?_) (some 24) rfl rfl (by kernel_rfl) (by kernel_rfl) (by kernel_rfl) (fun _ _ _ h => h) (Or.inl ⟨by rfl, ?_⟩) hHeld ?_
 rotate_left 1
 ·intro w hSw
  (try dsimp only at hSw)
  (first | (go_simp; done) | (go_simp; with_reducible rfl))
 (try simp only [Act.put, List.setIfInBounds_toArray, List.set_cons_zero, List.set_cons_succ])
 refine held_take (i := 10) (v := ?_) (some 25) rfl rfl (by kernel_rfl) (by kernel_rfl) (by kernel_rfl) (fun _ _ _ h => h) (Or.inl ⟨by rfl, ?_⟩) hHeld ?_
 rotate_left 1
 ·intro w hSw
  (try dsimp only at hSw)
  (first | (go_simp; done) | (go_simp; with_reducible rfl))
 (try simp only [Act.put, List.setIfInBounds_toArray, List.set_cons_zero, List.set_cons_succ])
 refine held_take (i := 12) (v := ?_) (some 27) rfl rfl (by kernel_rfl) (by kernel_rfl) (by kernel_rfl) (fun _ _ _ h => h) (Or.inl ⟨by rfl, ?_⟩) hHeld ?_
 rotate_left 1
 ·intro w hSw
  (try dsimp only at hSw)
  (first | (go_simp; done) | (go_simp; with_reducible rfl))
 (try simp only [Act.put, List.setIfInBounds_toArray, List.set_cons_zero, List.set_cons_succ])
 refine held_call (i := 11) rfl (by kernel_rfl) (by rfl) (fun K hK => ?_)
 clear hHeld
 simp only [List.getElem_toArray, List.getElem_cons_succ, List.getElem_cons_zero]
 go_simp
 refine (from_any _ nm Ay n cy).mono ?_
 rintro e w8 ⟨rfl, hb⟩
 replace HE := Lib.hid (Env.call HE.out hb)
 clear hb
 (try (go_wp2_with fail))
 refine hK.out _ _ (by first | exact HE.out.o.1 | exact HE.out.drew.o.1) (fun hHeld => ?_)
 clear hK K
 (try simp only [Act.put, List.setIfInBounds_toArray, List.set_cons_zero, List.set_cons_succ])
 refine held_call (i := 13) rfl (by kernel_rfl) (by rfl) (fun K hK => ?_)
 clear hHeld
 simp only [List.getElem_toArray, List.getElem_cons_succ, List.getElem_cons_zero]
 go_simp
 refine (HD.out _ Ay Ax cy cx ys xs HE.out.o.2.2.2.1 HE.out.o.2.2.1 HE.out.o.2.2.2.2.2 HY.out HX.out).mono ?_
 rintro e w8 ⟨k2, rfl, hk, hb⟩
 rw [HRC.out] at hk
 replace HE := Lib.hid (Env.ret HE.out hk hb)
 clear hk hb
 (try (go_wp2_with fail))
 refine hK.out _ _ (by first | exact HE.out.o.1 | exact HE.out.drew.o.1) (fun hHeld => ?_)
 clear hK K
 (try simp only [Act.put, List.setIfInBounds_toArray, List.set_cons_zero, List.set_cons_succ])
 refine held_call (i := 14) rfl (by kernel_rfl) (by rfl) (fun K hK => ?_)
 clear hHeld
 simp only [List.getElem_toArray, List.getElem_cons_succ, List.getElem_cons_zero]
 go_simp
 refine (rsame_any _ kd k2 (dQ o xs ys n) (dQ o xs ys n) 7000 (by decide) (by decide) (RatN.rat HE.out.o.2.1 HS.out.1) (RatN.rat HE.out.n.1 HS.out.1)).mono ?_
 rintro e w8 ⟨rfl, hb⟩
 rw [decide_eq_true rfl]
 replace HE := Lib.hid (Env.call HE.out hb)
 clear hb
 (try (go_wp2_with fail))
 refine hK.out _ _ (by first | exact HE.out.o.1 | exact HE.out.drew.o.1) (fun hHeld => ?_)
 clear hK K
 (try simp only [Act.put, List.setIfInBounds_toArray, List.set_cons_zero, List.set_cons_succ])
 refine held_take (i := 15) (v := ?_) (some 30) rfl rfl (by kernel_rfl) (by kernel_rfl) (by kernel_rfl) (fun _ _ _ h => h) (Or.inl ⟨by rfl, ?_⟩) hHeld ?_
 rotate_left 1
 ·intro w hSw
  (try dsimp only at hSw)
  (first | (go_simp; done) | (go_simp; with_reducible rfl))
 (try simp only [Act.put, List.setIfInBounds_toArray, List.set_cons_zero, List.set_cons_succ])
 refine held_take (i := 16) (v := ?_) (some 31) rfl rfl (by kernel_rfl) (by kernel_rfl) (by kernel_rfl) (fun _ _ _ h => h) (Or.inl ⟨by rfl, ?_⟩) hHeld ?_
 rotate_left 1
 ·intro w hSw
  (try dsimp only at hSw)
  (first | (go_simp; done) | (go_simp; with_reducible rfl))
 (try simp only [Act.put, List.setIfInBounds_toArray, List.set_cons_zero, List.set_cons_succ])
 refine held_take (i := 17) (v := ?_) (some 32) rfl rfl (by kernel_rfl) (by kernel_rfl) (by kernel_rfl) (fun _ _ _ h => h) (Or.inl ⟨by rfl, ?_⟩) hHeld ?_
 rotate_left 1
 ·intro w hSw
  (try dsimp only at hSw)
  (first | (go_simp; done) | (go_simp; with_reducible rfl))
 (try simp only [Act.put, List.setIfInBounds_toArray, List.set_cons_zero, List.set_cons_succ])
 refine held_call (i := 18) rfl (by kernel_rfl) (by rfl) (fun K hK => ?_)
 clear hHeld
 simp only [List.getElem_toArray, List.getElem_cons_succ, List.getElem_cons_zero]
 go_simp
 refine (rsign_any _ kd (dQ o xs ys n) 7000 (by decide) (RatN.rat HE.out.o.2.1 HS.out.1)).mono ?_
 rintro e w8 ⟨rfl, hb⟩
 rw [← Hs.out]
 replace HE := Lib.hid (Env.call HE.out hb)
 clear hb
 (try (go_wp2_with fail))
 refine hK.out _ _ (by first | exact HE.out.o.1 | exact HE.out.drew.o.1) (fun hHeld => ?_)
 clear hK K
 (try simp only [Act.put, List.setIfInBounds_toArray, List.set_cons_zero, List.set_cons_succ])
 refine held_take (i := 19) (v := ?_) (some 34) rfl rfl (by kernel_rfl) (by kernel_rfl) (by kernel_rfl) (fun _ _ _ h => h) (Or.inl ⟨by rfl, ?_⟩) hHeld ?_
 rotate_left 1
 ·intro w hSw
  (try dsimp only at hSw)
  (first | (go_simp; done) | (go_simp; with_reducible rfl))
 (try simp only [Act.put, List.setIfInBounds_toArray, List.set_cons_zero, List.set_cons_succ])
 refine held_take (i := 20) (v := ?_) (some 35) rfl rfl (by kernel_rfl) (by kernel_rfl) (by kernel_rfl) (fun _ _ _ h => h) (Or.inl ⟨by rfl, ?_⟩) hHeld ?_
 rotate_left 1
 ·intro w hSw
  (try dsimp only at hSw)
  (first | (go_simp; done) | (go_simp; with_reducible rfl))
 (try simp only [Act.put, List.setIfInBounds_toArray, List.set_cons_zero, List.set_cons_succ])
 refine held_take (i := 21) (v := ?_) (some 36) rfl rfl (by kernel_rfl) (by kernel_rfl) (by kernel_rfl) (fun _ _ _ h => h) (Or.inl ⟨by rfl, ?_⟩) hHeld ?_
 rotate_left 1
 ·intro w hSw
  (try dsimp only at hSw)
  (first | (go_simp; done) | (go_simp; with_reducible rfl))
 (try simp only [Act.put, List.setIfInBounds_toArray, List.set_cons_zero, List.set_cons_succ])
 refine held_take (i := 22) (v := ?_) (some 37) rfl rfl (by kernel_rfl) (by kernel_rfl) (by kernel_rfl) (fun _ _ _ h => h) (Or.inl ⟨by rfl, ?_⟩) hHeld ?_
 rotate_left 1
 ·intro w hSw
  (try dsimp only at hSw)
  (first | (go_simp; done) | (go_simp; with_reducible rfl))
 (try simp only [Act.put, List.setIfInBounds_toArray, List.set_cons_zero, List.set_cons_succ])
 refine held_take (i := 23) (v := ?_) (some 38) rfl rfl (by kernel_rfl) (by kernel_rfl) (by kernel_rfl) (fun _ _ _ h => h) (Or.inl ⟨by rfl, ?_⟩) hHeld ?_
 rotate_left 1
 ·intro w hSw
  (try dsimp only at hSw)
  (first | (go_simp; done) | (go_simp; with_reducible rfl))
 (try simp only [Act.put, List.setIfInBounds_toArray, List.set_cons_zero, List.set_cons_succ])
 refine held_take (i := 25) (v := ?_) (some 40) rfl rfl (by kernel_rfl) (by kernel_rfl) (by kernel_rfl) (fun _ _ _ h => h) (Or.inl ⟨by rfl, ?_⟩) hHeld ?_
 rotate_left 1
 ·intro w hSw
  (try dsimp only at hSw)
  (first | (go_simp; done) | (go_simp; with_reducible rfl))
 (try simp only [Act.put, List.setIfInBounds_toArray, List.set_cons_zero, List.set_cons_succ])
 refine held_take (i := 27) (v := ?_) (some 42) rfl rfl (by kernel_rfl) (by kernel_rfl) (by kernel_rfl) (fun _ _ _ h => h) (Or.inl ⟨by rfl, ?_⟩) hHeld ?_
 rotate_left 1
 ·intro w hSw
  (try dsimp only at hSw)
  (first | (go_simp; done) | (go_simp; with_reducible rfl))
 (try simp only [Act.put, List.setIfInBounds_toArray, List.set_cons_zero, List.set_cons_succ])
 refine held_take (i := 28) (v := ?_) (some 43) rfl rfl (by kernel_rfl) (by kernel_rfl) (by kernel_rfl) (fun _ _ _ h => h) (Or.inl ⟨by rfl, ?_⟩) hHeld ?_
 rotate_left 1
 ·intro w hSw
  (try dsimp only at hSw)
  (first | (go_simp; done) | (go_simp; with_reducible rfl))
 (try simp only [Act.put, List.setIfInBounds_toArray, List.set_cons_zero, List.set_cons_succ])
 refine held_take (i := 29) (v := ?_) (some 44) rfl rfl (by kernel_rfl) (by kernel_rfl) (by kernel_rfl) (fun _ _ _ h => h) (Or.inl ⟨by rfl, ?_⟩) hHeld ?_
 rotate_left 1
 ·intro w hSw
  (try dsimp only at hSw)
  (first | (go_simp; done) | (go_simp; with_reducible rfl))
 (try simp only [Act.put, List.setIfInBounds_toArray, List.set_cons_zero, List.set_cons_succ])
 refine held_take (i := 31) (v := ?_) (some 46) rfl rfl (by kernel_rfl) (by kernel_rfl) (by kernel_rfl) (fun _ _ _ h => h) (Or.inl ⟨by rfl, ?_⟩) hHeld ?_
 rotate_left 1
 ·intro w hSw
  (try dsimp only at hSw)
  (first | (go_simp; done) | (go_simp; with_reducible rfl))
 (try simp only [Act.put, List.setIfInBounds_toArray, List.set_cons_zero, List.set_cons_succ])
 refine held_call (i := 24) rfl (by kernel_rfl) (by rfl) (fun K hK => ?_)
 clear hHeld
 simp only [List.getElem_toArray, List.getElem_cons_succ, List.getElem_cons_zero]
 go_simp
 refine (from_any _ nm Ax n cx).mono ?_
 rintro e w8 ⟨rfl, hb⟩
 replace HE := Lib.hid (Env.call HE.out hb)
 clear hb
 (try (go_wp2_with fail))
 refine hK.out _ _ (by first | exact HE.out.o.1 | exact HE.out.drew.o.1) (fun hHeld => ?_)
 clear hK K
 (try simp only [Act.put, List.setIfInBounds_toArray, List.set_cons_zero, List.set_cons_succ])
 refine held_call (i := 26) rfl (by kernel_rfl) (by rfl) (fun K hK => ?_)
 clear hHeld
 simp only [List.getElem_toArray, List.getElem_cons_succ, List.getElem_cons_zero]
 go_simp
 refine (HD.out _ Ax Az cx cz xs zs HE.out.o.2.2.1 HE.out.o.2.2.2.2.1 HE.out.o.2.2.2.2.2 HX.out HZ.out).mono ?_
 rintro e w8 ⟨k3, rfl, hk, hb⟩
 replace HE := Lib.hid (Env.ret HE.out hk hb)
 clear hk hb
 (try (go_wp2_with fail))
 refine hK.out _ _ (by first | exact HE.out.o.1 | exact HE.out.drew.o.1) (fun hHeld => ?_)
 clear hK K
 (try simp only [Act.put, List.setIfInBounds_toArray, List.set_cons_zero, List.set_cons_succ])
 refine held_call (i := 30) rfl (by kernel_rfl) (by rfl) (fun K hK => ?_)
 clear hHeld
 simp only [List.getElem_toArray, List.getElem_cons_succ, List.getElem_cons_zero]
 go_simp
 refine (from_any _ nm Ay n cy).mono ?_
 rintro e w8 ⟨rfl, hb⟩
 replace HE := Lib.hid (Env.call HE.out hb)
 clear hb
 (try (go_wp2_with fail))
 refine hK.out _ _ (by first | exact HE.out.o.1 | exact HE.out.drew.o.1) (fun hHeld => ?_)
 clear hK K
 (try simp only [Act.put, List.setIfInBounds_toArray, List.set_cons_zero, List.set_cons_succ])
 refine held_call (i := 32) rfl (by kernel_rfl) (by rfl) (fun K hK => ?_)
 clear hHeld
 simp only [List.getElem_toArray, List.getElem_cons_succ, List.getElem_cons_zero]
 go_simp
 refine (HD.out _ Ay Az cy cz ys zs HE.out.o.2.2.2.1 HE.out.o.2.2.2.2.1 HE.out.o.2.2.2.2.2 HY.out HZ.out).mono ?_
 rintro e w8 ⟨k4, rfl, hk, hb⟩
 replace HE := Lib.hid (Env.ret HE.out hk hb)
 clear hk hb
 (try (go_wp2_with fail))
 refine hK.out _ _ (by first | exact HE.out.o.1 | exact HE.out.drew.o.1) (fun hHeld => ?_)
 clear hK K
 (try simp only [Act.put, List.setIfInBounds_toArray, List.set_cons_zero, List.set_cons_succ])
 refine held_call (i := 33) rfl (by kernel_rfl) (by rfl) (fun K hK => ?_)
 clear hHeld
 simp only [List.getElem_toArray, List.getElem_cons_succ, List.getElem_cons_zero]
 go_simp
 refine (radd_any _ kd k4 (dQ o xs ys n) (dQ o ys zs n) 7000 (by decide) (by decide) (RatN.rat HE.out.o.2.1 HS.out.1) (RatN.rat HE.out.n.1 HS.out.2.2) HE.out.o.2.2.2.2.2).mono ?_
 rintro e w8 ⟨k5, rfl, hk, hb⟩
 replace HE := Lib.hid (Env.ret HE.out hk hb)
 clear hk hb
 (try (go_wp2_with fail))
 refine hK.out _ _ (by first | exact HE.out.o.1 | exact HE.out.drew.o.1) (fun hHeld => ?_)
 clear hK K
 (try simp only [Act.put, List.setIfInBounds_toArray, List.set_cons_zero, List.set_cons_succ])
 refine held_call (i := 34) rfl (by kernel_rfl) (by rfl) (fun K hK => ?_)
 clear hHeld
 simp only [List.getElem_toArray, List.getElem_cons_succ, List.getElem_cons_zero]
 go_simp
 refine (rcmp_any _ k3 k5 (dQ o xs zs n) (dQ o xs ys n + dQ o ys zs n) 20000 (by decide) (by decide) (RatN.rat HE.out.n.2.2.1 (HS.out.2.1.up (by decide))) (RatN.rat HE.out.n.1 ((Sz.add (n := 7000) (m := 7000) HS.out.1 HS.out.2.2).up (by decide)))).mono ?_
 rintro e w8 ⟨rfl, hb⟩
 rw [← Ht.out]
 replace HE := Lib.hid (Env.call HE.out hb)
 clear hb
 (try (go_wp2_with fail))
 refine hK.out _ _ (by first | exact HE.out.o.1 | exact HE.out.drew.o.1) (fun hHeld => ?_)
 clear hK K
 (try simp only [Act.put, List.setIfInBounds_toArray, List.set_cons_zero, List.set_cons_succ])
 refine held_take (i := 35) (v := ?_) (some 50) rfl rfl (by kernel_rfl) (by kernel_rfl) (by kernel_rfl) (fun _ _ _ h => h) (Or.inl ⟨by rfl, ?_⟩) hHeld ?_
 rotate_left 1
 ·intro w hSw
  (try dsimp only at hSw)
  (first | (go_simp; done) | (go_simp; with_reducible rfl))
 (try simp only [Act.put, List.setIfInBounds_toArray, List.set_cons_zero, List.set_cons_succ])
 refine held_take (i := 36) (v := ?_) (some 51) rfl rfl (by kernel_rfl) (by kernel_rfl) (by kernel_rfl) (fun _ _ _ h => h) (Or.inl ⟨by rfl, ?_⟩) hHeld ?_
 rotate_left 1
 ·intro w hSw
  (try dsimp only at hSw)
  (first | (go_simp; done) | (go_simp; with_reducible rfl))
 (try simp only [Act.put, List.setIfInBounds_toArray, List.set_cons_zero, List.set_cons_succ])
 refine held_take (i := 37) (v := ?_) (some 8) rfl rfl (by kernel_rfl) (by kernel_rfl) (by kernel_rfl) (fun _ _ _ h => h) (Or.inl ⟨by rfl, ?_⟩) hHeld ?_
 rotate_left 1
 ·intro w hSw
  (try dsimp only at hSw)
  (first | (go_simp; done) | (go_simp; with_reducible rfl))
 refine wpAnyH_done (by kernel_rfl) ?_ _
 refine NoPanic.normal ?_
 go_wp2_with fail
 go_ret
 exact ⟨rfl, Below.after HBl.out HE.out.bel⟩
set_option maxRecDepth 100000 in
theorem netFar_any (w : World) (Ax : Option Addr) (cx : Nat) (xs : List (RV × Rat)) (hx : LsR 4 rtcells (roD 9223372036854775807) Ax xs w) (hxl : xs.length ≤ 9223372036854775807) (Ay : Option Addr) (cy : Nat) (ys : List (RV × Rat)) (hy : LsR 4 rtcells (roD 9223372036854775807) Ay ys w) (hyl : ys.length ≤ 9223372036854775807) (Az : Option Addr) (cz : Nat) (zs : List (RV × Rat)) (hz : LsR 4 rtcells (roD 9223372036854775807) Az zs w) (hzl : zs.length ≤ 9223372036854775807) (hT : Tz w) (ht : Tab w) :
 Calls Tryz.prog 7 #[.slice Ax xs.length cx, .slice Ay ys.length cy, .slice Az zs.length cz] w fun e w' => e = .returned (.bool true) ∧ Below w.heap.size w w' := by
 obtain ⟨nx, hnx⟩ : ∃ n, n = xs.length := ⟨_, rfl⟩
 rw [← hnx]
 have Hnx := Lib.hid hnx
 have Hlx := Lib.hid hxl
 obtain ⟨ny, hny⟩ : ∃ n, n = ys.length := ⟨_, rfl⟩
 rw [← hny]
 have Hny := Lib.hid hny
 have Hly := Lib.hid hyl
 obtain ⟨nz, hnz⟩ : ∃ n, n = zs.length := ⟨_, rfl⟩
 rw [← hnz]
 have Hnz := Lib.hid hnz
 have Hlz := Lib.hid hzl
 clear hxl hyl hzl hnx hny hnz
 have HE := Lib.hid (Env.start (((hx.old roD_old)).and (((hy.old roD_old)).and (((hz.old roD_old)).and ((hT.old).and (ht.old))))))
 clear hx hy hz hT ht
 go_enter Tryz.func7, Tryz.ntmps7
 go_wp2_with fail
 refine (short_rats _ roD_old Ax cx xs HE.out.o.1 Hlx.out 12 2 nx Hnx.out).mono ?_
 rintro e w1 ⟨⟨B, rfl, hB⟩, hb⟩
 have HBx := Lib.hid hB
 replace HE := Lib.hid (Env.call HE.out hb)
 clear hB hb
 cases B
 ·go_wp2_with fail
  refine (awake13_any _ HE.out.o.2.2.2.1 HE.out.o.2.2.2.2).mono ?_
  rintro e w9 ⟨rfl, hb⟩
  replace HE := Lib.hid (Env.call HE.out hb)
  clear hb
  go_wp2_with fail
  exact bodyPost_ret (v := .bool true) (by simp [results, Tryz.results7, go_sem]) rfl ⟨rfl, HE.out.bel⟩
 ·have HPx := Lib.hid (HBx.out rfl)
  clear HBx
  go_wp2_with fail
  refine (short_rats _ roD_old Ay cy ys HE.out.o.2.1 Hly.out 12 2 ny Hny.out).mono ?_
  rintro e w1 ⟨⟨B, rfl, hB⟩, hb⟩
  have HBy := Lib.hid hB
  replace HE := Lib.hid (Env.call HE.out hb)
  clear hB hb
  cases B
  ·go_wp2_with fail
   refine (awake13_any _ HE.out.o.2.2.2.1 HE.out.o.2.2.2.2).mono ?_
   rintro e w9 ⟨rfl, hb⟩
   replace HE := Lib.hid (Env.call HE.out hb)
   clear hb
   go_wp2_with fail
   exact bodyPost_ret (v := .bool true) (by simp [results, Tryz.results7, go_sem]) rfl ⟨rfl, HE.out.bel⟩
  ·have HPy := Lib.hid (HBy.out rfl)
   clear HBy
   go_wp2_with fail
   refine (short_rats _ roD_old Az cz zs HE.out.o.2.2.1 Hlz.out 12 2 nz Hnz.out).mono ?_
   rintro e w1 ⟨⟨B, rfl, hB⟩, hb⟩
   have HBz := Lib.hid hB
   replace HE := Lib.hid (Env.call HE.out hb)
   clear hB hb
   cases B
   ·go_wp2_with fail
    refine (awake13_any _ HE.out.o.2.2.2.1 HE.out.o.2.2.2.2).mono ?_
    rintro e w9 ⟨rfl, hb⟩
    replace HE := Lib.hid (Env.call HE.out hb)
    clear hb
    go_wp2_with fail
    exact bodyPost_ret (v := .bool true) (by simp [results, Tryz.results7, go_sem]) rfl ⟨rfl, HE.out.bel⟩
   ·have HPz := Lib.hid (HBz.out rfl)
    clear HBz
    by_cases e1 : nx = ny
    ·subst e1
     by_cases e2 : nx = nz
     ·subst e2
      have he : ((nx : Int) != (nx : Int)) = false := by simp
      have hn12 : nx ≤ 12 := by have := HPx.out.1; have := Hnx.out; omega
      replace HE := Lib.hid (HE.out.imp (φ := (fun V => LsR 4 rtcells (roD 2) Ax xs V ∧ LsR 4 rtcells (roD 2) Ay ys V ∧ LsR 4 rtcells (roD 2) Az zs V ∧ Tz V ∧ Tab V)) (ψ := fun _ => True) (fun V h => ⟨LsR.imp h.1 fun p hp hp' => RatD.short (show RatD p.1 p.2 _ V from hp') (HPx.out.2 p hp), LsR.imp h.2.1 fun p hp hp' => RatD.short (show RatD p.1 p.2 _ V from hp') (HPy.out.2 p hp), LsR.imp h.2.2.1 fun p hp hp' => RatD.short (show RatD p.1 p.2 _ V from hp') (HPz.out.2 p hp), h.2.2.2⟩) (fun _ _ => trivial))
      have HSx := Lib.hid (And.intro (dQ_sz (o := true) HE.out.o.1 HE.out.o.2.1 (show nx ≤ 1000 by omega)) (dQ_sz (o := false) HE.out.o.1 HE.out.o.2.1 (show nx ≤ 1000 by omega)))
      obtain ⟨t, ht⟩ : ∃ t, t = cmpQ (dQ true xs ys nx) (dQ false xs ys nx) := ⟨_, rfl⟩
      have ht0 : 0 ≤ t := by rw [ht]; exact cmpQ_ge9 (dQ_le xs ys)
      have Ht := Lib.hid ht
      clear ht
      have HD := Lib.hid (fun (V : World) (nm : Int) (o : Bool) (ho : decide (nm = 1) = o) (h : LsR 4 rtcells (roD 2) Ax xs V) (h' : LsR 4 rtcells (roD 2) Ay ys V) (hT : Tz V) => (show Calls Tryz.prog 25 #[.agg #[.slice Ax nx cx, .int .i64 0, .slice none 0 0, .slice none 0 0, .int .u8 nm], .slice Ay nx cy] V (RetR (dQ o xs ys nx) V) from by
       have h9 := dist_any V 2 7000 (by decide) (by decide) (by decide) Ax none none Ay nx 0 0 cx 0 0 cy nx 0 nm xs ys h h' Hnx.out Hny.out (by omega) (by omega) hT
       rw [Nat.min_self, ho] at h9
       exact h9))
      go_wp2_with fail
      refine (way_any _ 1 Ax Ay Az cx cy cz nx xs ys zs HE.out.o.1 HE.out.o.2.1 HE.out.o.2.2.1 Hnx.out Hny.out Hnz.out hn12 HE.out.o.2.2.2.1).mono ?_
      rintro e w2 ⟨rfl, hb⟩
      replace HE := Lib.hid (Env.call HE.out hb)
      clear hb
      go_wp2_with fail
      refine (way_any _ 2 Ax Ay Az cx cy cz nx xs ys zs HE.out.o.1 HE.out.o.2.1 HE.out.o.2.2.1 Hnx.out Hny.out Hnz.out hn12 HE.out.o.2.2.2.1).mono ?_
      rintro e w3 ⟨rfl, hb⟩
      replace HE := Lib.hid (Env.call HE.out hb)
      clear hb
      go_wp2_with fail
      refine (from_any _ 1 Ax nx cx).mono ?_
      rintro e w4 ⟨rfl, hb⟩
      replace HE := Lib.hid (Env.call HE.out hb)
      clear hb
      go_wp2_with fail
      refine (HD.out _ 1 true rfl HE.out.o.1 HE.out.o.2.1 HE.out.o.2.2.2.1).mono ?_
      rintro e w5 ⟨k1, rfl, hk, hb⟩
      replace HE := Lib.hid (Env.ret HE.out hk hb)
      clear hk hb
      go_wp2_with fail
      refine (from_any _ 2 Ax nx cx).mono ?_
      rintro e w6 ⟨rfl, hb⟩
      replace HE := Lib.hid (Env.call HE.out hb)
      clear hb
      go_wp2_with fail
      refine (HD.out _ 2 false rfl HE.out.o.1 HE.out.o.2.1 HE.out.o.2.2.2.1).mono ?_
      rintro e w7 ⟨k2, rfl, hk, hb⟩
      replace HE := Lib.hid (Env.ret HE.out hk hb)
      clear hk hb
      go_wp2_with fail
      refine (rcmp_any _ k1 k2 (dQ true xs ys nx) (dQ false xs ys nx) 7000 (by decide) (by decide) (RatN.rat HE.out.n.2.1 HSx.out.1) (RatN.rat HE.out.n.1 HSx.out.2)).mono ?_
      rintro e w8 ⟨rfl, hb⟩
      rw [← Ht.out]
      replace HE := Lib.hid (Env.call HE.out hb)
      clear hb
      go_wp2_with fail
      refine (awake13_any _ HE.out.o.2.2.2.1 HE.out.o.2.2.2.2).mono ?_
      rintro e w9 ⟨rfl, hb⟩
      replace HE := Lib.hid (Env.call HE.out hb)
      clear hb
      go_wp2_with fail
      exact bodyPost_ret (v := .bool true) (by simp [results, Tryz.results7, go_sem]) rfl ⟨rfl, HE.out.bel⟩
     ·have he : ((nx : Int) != (nz : Int)) = true := by simp; omega
      have he1 : ((nx : Int) != (nx : Int)) = false := by simp
      go_wp2_with fail
      refine (awake13_any _ HE.out.o.2.2.2.1 HE.out.o.2.2.2.2).mono ?_
      rintro e w9 ⟨rfl, hb⟩
      replace HE := Lib.hid (Env.call HE.out hb)
      clear hb
      go_wp2_with fail
      exact bodyPost_ret (v := .bool true) (by simp [results, Tryz.results7, go_sem]) rfl ⟨rfl, HE.out.bel⟩
    ·have he : ((nx : Int) != (ny : Int)) = true := by simp; omega
     go_wp2_with fail
     refine (awake13_any _ HE.out.o.2.2.2.1 HE.out.o.2.2.2.2).mono ?_
     rintro e w9 ⟨rfl, hb⟩
     replace HE := Lib.hid (Env.call HE.out hb)
     clear hb
     go_wp2_with fail
     exact bodyPost_ret (v := .bool true) (by simp [results, Tryz.results7, go_sem]) rfl ⟨rfl, HE.out.bel⟩
end Go.Proofs.YtplhmeiciiajcaaGreatDoor
