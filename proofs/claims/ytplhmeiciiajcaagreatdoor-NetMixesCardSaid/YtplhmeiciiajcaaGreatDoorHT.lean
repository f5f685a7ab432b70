/-
 Mixed numbers: what layers without Relu and Pool say of them (plain laws). Mixed numbers: how long what a net says of them is. tripwirelaw13.mixed. tripwirelaw13.NetMixes.
-/
import Derived.Test.YtplhmeiciiajcaaGreatDoorYL
import Derived.Test.YtplhmeiciiajcaaGreatDoorHF
import Derived.Test.YtplhmeiciiajcaaGreatDoorHL
import Derived.Test.YtplhmeiciiajcaaGreatDoorHS
namespace Go.Proofs.YtplhmeiciiajcaaGreatDoor
set_option maxHeartbeats 16000000
open Go.RowKit

def mixQ (a : Rat) (xs ys : List Rat) : List Rat := List.zipWith (fun x y => a * x + (1 - a) * y) xs ys
section
variable {a : Rat} {xs ys : List Rat} {qs : List LQ} {q : LQ}
theorem mixQ_len (h : xs.length = ys.length) : (mixQ a xs ys).length = xs.length := by unfold mixQ; rw [List.length_zipWith]; omega
theorem mixQ_get (h : xs.length = ys.length) (i : Nat) : ((mixQ a xs ys)[i]?).getD 0 = a * (xs[i]?).getD 0 + (1 - a) * (ys[i]?).getD 0 := by
 by_cases hi : i < xs.length
 ·have hy : i < ys.length := by omega
  have hm : i < (mixQ a xs ys).length := by rw [mixQ_len h]; exact hi
  rw [List.getElem?_eq_getElem hi, List.getElem?_eq_getElem hy, List.getElem?_eq_getElem hm]
  show (mixQ a xs ys)[i] = a * xs[i] + (1 - a) * ys[i]
  simp only [mixQ, List.getElem_zipWith]
 ·rw [List.getElem?_eq_none (l := mixQ a xs ys) (by rw [mixQ_len h]; omega), List.getElem?_eq_none (l := xs) (by omega), List.getElem?_eq_none (l := ys) (by omega)]
  show (0 : Rat) = a * 0 + (1 - a) * 0
  grind
theorem mixQ_map {f g k : Nat → Rat} (n : Nat) (hk : ∀ i, k i = a * f i + (1 - a) * g i) : (List.range n).map k = mixQ a ((List.range n).map f) ((List.range n).map g) :=
 List.ext_getElem (by simp [mixQ]) (by intro i h1 h2; simp [mixQ, hk])
theorem getQ_R (xs : List Rat) (z : Int) : getQ (vecR xs) z = if 0 ≤ z ∧ z < (xs.length : Int) then (xs[z.toNat]?).getD 0 else 0 := by
 unfold vecR
 rw [getQ_filter, range_get]
 split
 ·show (xs[((z.toNat : Nat) : Int).toNat]?).getD 0 = _
  rw [Int.toNat_natCast]
 ·rfl
theorem getQ_mix (h : xs.length = ys.length) (z : Int) : getQ (vecR (mixQ a xs ys)) z = a * getQ (vecR xs) z + (1 - a) * getQ (vecR ys) z := by
 rw [getQ_R, getQ_R, getQ_R, mixQ_len h, ← h]
 split
 ·exact mixQ_get h _
 ·grind
theorem dot_mix (h : xs.length = ys.length) : ∀ r : List (Int × Rat), dotQ r (vecR (mixQ a xs ys)) = a * dotQ r (vecR xs) + (1 - a) * dotQ r (vecR ys)
 | [] => by show (0 : Rat) = a * 0 + (1 - a) * 0; grind
 | p :: r => by
  have h1 := dot_mix h r
  have e : ∀ Y, dotQ (p :: r) Y = p.2 * getQ Y p.1 + dotQ r Y := fun _ => rfl
  rw [e, e, e, h1, getQ_mix h]
  grind
theorem sumK_mix {pl : Nat → Option Int} {K : Nat → Rat} {x y z : Int → Rat} (hz : ∀ k, z k = a * x k + (1 - a) * y k) : ∀ j, sumK pl K z j = a * sumK pl K x j + (1 - a) * sumK pl K y j
 | 0 => by show (0 : Rat) = a * 0 + (1 - a) * 0; grind
 | j + 1 => by
  have h1 := sumK_mix (pl := pl) (K := K) hz j
  rw [sumK, sumK, sumK, h1]
  cases pl j with
  | none => grind
  | some b => simp only [hz]; grind
theorem says_mix (hk : q.kind = 1 ∨ q.kind = 2) (h : xs.length = ys.length) : saysR q (mixQ a xs ys) = mixQ a (saysR q xs) (saysR q ys) ∧ (saysR q xs).length = (saysR q ys).length := by
 unfold saysR
 rcases hk with hk | hk
 ·rw [if_pos hk, if_pos hk, if_pos hk]
  refine ⟨mixQ_map _ fun i => ?_, by simp⟩
  unfold affR
  rw [dot_mix h]
  grind
 ·rw [if_neg (by omega), if_pos hk, if_neg (by omega), if_pos hk, if_neg (by omega), if_pos hk]
  unfold convR
  refine ⟨mixQ_map _ fun i => ?_, by simp⟩
  unfold convK convP
  rw [sumK_mix (a := a) (x := xQ xs) (y := xQ ys) (z := xQ (mixQ a xs ys)) fun k => mixQ_get h _]
  grind
theorem tr_mix (hk : ∀ q ∈ qs, q.kind = 1 ∨ q.kind = 2) (h : xs.length = ys.length) : ∀ i, trAt qs (mixQ a xs ys) i = mixQ a (trAt qs xs i) (trAt qs ys i) ∧ (trAt qs xs i).length = (trAt qs ys i).length
 | 0 => ⟨rfl, h⟩
 | i + 1 => by
  obtain ⟨h1, h2⟩ := tr_mix hk h i
  rw [trAt, trAt, trAt]
  by_cases hi : i < qs.length
  ·rw [List.getElem?_eq_getElem hi]
   simp only [h1]
   exact says_mix (hk _ (List.getElem_mem hi)) h2
  ·rw [List.getElem?_eq_none (by omega)]
   exact ⟨h1, h2⟩
theorem says_relu (hk : q.kind = 3) : ∀ y ∈ saysR q xs, 0 ≤ y := by
 unfold saysR
 rw [if_neg (by omega), if_neg (by omega), if_neg (by omega)]
 intro y hy
 obtain ⟨j, -, rfl⟩ := List.mem_map.1 hy
 rw [maxQ_if]
 split
 ·exact Rat.le_refl
 ·grind
end
end Go.Proofs.YtplhmeiciiajcaaGreatDoor
namespace Go.Proofs.YtplhmeiciiajcaaGreatDoor
set_option maxHeartbeats 16000000
open Go.RowKit

theorem Cd.of9 {q : Rat} {E n : Nat} (h : q.den ∣ E) (hs : Sz q n) : Cd E (B64 ^ n * E) q := by
 obtain ⟨k, rfl⟩ := h
 refine ⟨q.num * (k : Int), ?_, ?_⟩
 ·rw [Rat.natCast_mul, Rat.intCast_mul, ← mul_den9 q]
  have e1 : ((k : Int) : Rat) = (k : Rat) := rfl
  rw [e1]; grind
 ·rw [Int.natAbs_mul, Int.natAbs_natCast]
  exact Nat.mul_le_mul (Nat.le_of_lt hs.1) (Nat.le_mul_of_pos_left _ q.den_pos)
theorem dprod_le9 {n : Nat} : ∀ {qs : List Rat}, (∀ q ∈ qs, Sz q n) → dprod qs ≤ B64 ^ (n * qs.length)
 | [], _ => by show 1 ≤ B64 ^ (n * 0); rw [Nat.mul_zero, Nat.pow_zero]; exact Nat.le_refl _
 | q :: qs, h => by
  have h1 : q.den ≤ B64 ^ n := Nat.le_of_lt (h q (List.mem_cons_self ..)).2
  have h2 := dprod_le9 fun x hx => h x (List.mem_cons_of_mem _ hx)
  rw [dprod, List.length_cons, Nat.mul_add, Nat.mul_one, Nat.pow_add, Nat.mul_comm]
  exact Nat.mul_le_mul h2 h1
section
variable {w : World} {f : NeV} {xs : List (RV × Rat)} {qs : List Rat} (hS : SayIn w f xs) (hN : NetP w f 0) (hl : f.inputs = (qs.length : Int)) (h30 : qs.length ≤ 30) (hz : ∀ q ∈ qs, Sz q 9)
include hS hN hl h30 hz
theorem mix_cd (i : Nat) (hi : i ≤ f.las.length) : ∃ D M, 0 < D ∧ D ≤ M ∧ M < B64 ^ (290 + 703 * i) ∧ ∀ x ∈ trAt (f.las.map LaG.q) qs i, Cd D M x := by
 have hF := fits_of hN
 rw [hl] at hF
 refine tr_cd (D0 := dprod qs) (M0 := B64 ^ 9 * dprod qs) hF (by omega) hS.say (dprod_pos _) (Nat.le_mul_of_pos_left _ (Nat.pow_pos B64_pos)) ?_ (fun x hx => .of9 (dprod_mem hx) (hz x hx)) i hi
 obtain ⟨n9, hn9⟩ : ∃ n, n = 270 := ⟨_, rfl⟩
 have h1 : dprod qs ≤ B64 ^ n9 := Nat.le_trans (dprod_le9 hz) (Nat.pow_le_pow_right B64_pos (by omega))
 rw [show 290 = n9 + 20 by omega]
 exact Nat.lt_of_le_of_lt (Nat.mul_le_mul_left _ h1) (by rw [← Nat.pow_add]; exact Nat.pow_lt_pow_right (by decide) (by omega))
theorem mix_st9 (N9 : Nat) (hN9 : N9 = 6000) (i : Nat) (hi : i < f.las.length) : StOk N9 f.las[i] (trAt (f.las.map LaG.q) qs i) := by
 have hF := fits_of hN
 rw [hl] at hF
 obtain ⟨D, M, k1, k2, k3, k4⟩ := mix_cd hS hN hl h30 hz i (by omega)
 obtain ⟨t1, t2, t3⟩ := fits_tr hF (by omega) i hi
 have hs := hS.say _ (List.getElem_mem hi)
 refine QOk.st (fits_q t1 hs) (by omega) (hS.cap _ (List.getElem_mem hi)) (fun hk => ?_) hs.cd (dprod_pos _) (Nat.le_mul_of_pos_left _ B64_pos) k1 k2 k4 (Nat.lt_of_lt_of_le (pow_step k3 hs.e) (pow_le (by have := hS.n; omega)))
 exact ⟨(low_ok hF hS.say _ (List.getElem_mem hi)).c hk, (convP_of t1 hk).n.symm, conv_L (convP_of t1 hk) (by have := kern_l hs; omega)⟩
theorem mix_st (i : Nat) (hi : i < f.las.length) : StOk 6000 f.las[i] (trAt (f.las.map LaG.q) qs i) := mix_st9 hS hN hl h30 hz 6000 rfl i hi
theorem mix_sz9 (N9 : Nat) (hN9 : N9 = 6000) : ∀ q ∈ trAt (f.las.map LaG.q) qs f.las.length, Sz q N9 := by
 obtain ⟨D, M, k1, k2, k3, k4⟩ := mix_cd hS hN hl h30 hz f.las.length (Nat.le_refl _)
 intro q hq
 exact (k4 q hq).sz k1 k2 (Nat.lt_of_lt_of_le k3 (pow_le (by have := hS.n; omega)))
theorem mix_sz : ∀ q ∈ trAt (f.las.map LaG.q) qs f.las.length, Sz q 6000 := mix_sz9 hS hN hl h30 hz 6000 rfl
end
end Go.Proofs.YtplhmeiciiajcaaGreatDoor
namespace Go.Proofs.YtplhmeiciiajcaaGreatDoor
set_option maxHeartbeats 16000000
open Go.RowKit

def mixAt (a : Rat) (xs ys : List (RV × Rat)) (i : Nat) : Rat := a * ((xs.map Prod.snd)[i]?).getD 0 + (1 - a) * ((ys.map Prod.snd)[i]?).getD 0
theorem range_getD (qs : List Rat) : (List.range qs.length).map (fun i => (qs[i]?).getD 0) = qs := by
 refine List.ext_getElem (by simp) fun i h1 h2 => ?_
 simp at h1
 simp [h1]
theorem mix_range {a : Rat} {xs ys : List (RV × Rat)} {n : Nat} (hx : n = xs.length) (hy : n = ys.length) : (List.range n).map (mixAt a xs ys) = mixQ a (xs.map Prod.snd) (ys.map Prod.snd) := by
 have h := mixQ_map (a := a) (f := fun i => ((xs.map Prod.snd)[i]?).getD 0) (g := fun i => ((ys.map Prod.snd)[i]?).getD 0) (k := mixAt a xs ys) n fun i => rfl
 have e1 := range_getD (xs.map Prod.snd)
 have e2 := range_getD (ys.map Prod.snd)
 rw [List.length_map, ← hx] at e1
 rw [List.length_map, ← hy] at e2
 rw [h, e1, e2]
theorem mixAt_sz {a : Rat} {xs ys : List (RV × Rat)} {n : Nat} (h1 : 1 ≤ n) (ha : Sz a n) (hx : ∀ p ∈ xs, Sz p.2 n) (hy : ∀ p ∈ ys, Sz p.2 n) (i : Nat) : Sz (mixAt a xs ys i) (4 * n + 5) := by
 have z : ∀ {xs : List (RV × Rat)}, (∀ p ∈ xs, Sz p.2 n) → ∀ i, Sz (((xs.map Prod.snd)[i]?).getD 0) n := fun h i => getD_sz9 h1 (fun q hq => by
  obtain ⟨p, hp, rfl⟩ := List.mem_map.1 hq
  exact h p hp) i
 have s1 : Sz (1 : Rat) 1 := ⟨by decide +kernel, by decide +kernel⟩
 exact (Sz.add (Sz.mul ha (z hx i)) (Sz.mul (Sz.sub s1 ha) (z hy i))).up (by omega)
set_option maxRecDepth 100000 in
theorem mixed_any (w : World) (n N : Nat) (hN : N ≤ 100000) (h1n : 1 ≤ n) (hnN : 4 * n + 5 ≤ N) (ra : RV × Rat) (ha : RatD ra.1 ra.2 n w) (Ax Ay : Option Addr) (cx cy nx : Nat) (xs ys : List (RV × Rat)) (hx : LsR 4 rtcells (roD n) Ax xs w) (hy : LsR 4 rtcells (roD n) Ay ys w) (hnx : nx = xs.length) (hny : nx = ys.length) (hb : nx ≤ 1000) (hT : Tz w) :
 Calls Tryz.prog 13 #[.agg #[.bool ra.1.num.neg, .slice ra.1.num.A ra.1.num.k ra.1.num.c, .bool ra.1.den.neg, .slice ra.1.den.A ra.1.den.k ra.1.den.c], .slice Ax nx cx, .slice Ay nx cy] w (CpRes 4 (rtcells : RV × Rat → Array Value) roN Prod.snd (mixQ ra.2 (xs.map Prod.snd) (ys.map Prod.snd)) w) := by
 rw [← mix_range hnx hny]
 have slx := hx.sl
 have sly := hy.sl
 rw [← hnx] at slx
 rw [← hny] at sly
 have hszr := size_rats
 have hadd := adr_add
 have Hnx := Lib.hid hnx
 have Hny := Lib.hid hny
 have hnN2 : n ≤ N := by omega
 have h1N : 1 ≤ N := by omega
 have HSA := Lib.hid (RatD.sz ha h1n)
 have HSX := Lib.hid (show ∀ p ∈ xs, Sz p.2 n from fun p hp => RatD.sz (show RatD p.1 p.2 n w from hx.ok p hp) h1n)
 have HSY := Lib.hid (show ∀ p ∈ ys, Sz p.2 n from fun p hp => RatD.sz (show RatD p.1 p.2 n w from hy.ok p hp) h1n)
 obtain ⟨W0, hW0⟩ : ∃ W0, W0 = (w.alloc (.cells #[.bool ra.1.num.neg, .slice ra.1.num.A ra.1.num.k ra.1.num.c, .bool ra.1.den.neg, .slice ra.1.den.A ra.1.den.k ra.1.den.c] 30)) := ⟨_, rfl⟩
 have HE := Lib.hid (Env.lay1 (Env.start ((ha.old).and (((hx.old roD_old)).and (((hy.old roD_old)).and (hT.old))))) hW0)
 subst hW0
 have c := Env.c1 HE.out
 clear ha hx hy hT hnx hny
 go_enter Tryz.func13, Tryz.ntmps13
 go_upto_region 3 with fail
 have HG := Lib.hid (((GL.start HE.out).new_ 30 4).imp (φ := (fun V => (∀ b ∈ [(⟨w.heap.size, 30, #[.bool ra.1.num.neg, .slice ra.1.num.A ra.1.num.k ra.1.num.c, .bool ra.1.den.neg, .slice ra.1.den.A ra.1.den.k ra.1.den.c]⟩ : Bo)], Blk V b.g b.t b.cs) ∧ RatD ra.1 ra.2 n V ∧ LsR 4 rtcells (roD n) Ax xs V ∧ LsR 4 rtcells (roD n) Ay ys V ∧ Tz V)) (ψ := (fun V => ∀ zp ∈ ([] : List (RV × Rat)), roN zp V)) (fun _ h => h) (fun _ _ => by simp))
 clear HE c
 go_loopw [7, 8] (fun ov iv wr => ∃ (Ao : Option Addr) (co i : Nat) (os : List (RV × Rat)), ov = .slice Ao (List.length os) co ∧ iv = .int .i64 (i : Int) ∧ i ≤ nx ∧ Hid (os.map Prod.snd = ((List.range nx).take i).map (mixAt ra.2 xs ys)) ∧ Hid (GL w (⟨30, 4, .slice Ao (List.length os) co, List.map rtcells os⟩ :: []) (fun V => (∀ b ∈ [(⟨w.heap.size, 30, #[.bool ra.1.num.neg, .slice ra.1.num.A ra.1.num.k ra.1.num.c, .bool ra.1.den.neg, .slice ra.1.den.A ra.1.den.k ra.1.den.c]⟩ : Bo)], Blk V b.g b.t b.cs) ∧ RatD ra.1 ra.2 n V ∧ LsR 4 rtcells (roD n) Ax xs V ∧ LsR 4 rtcells (roD n) Ay ys V ∧ Tz V) (fun V => ∀ zp ∈ os, roN zp V) wr)) (fun _ iv _ => nx - (intOf iv).toNat)
 case atStart => exact ⟨none, 0, 0, [], rfl, rfl, Nat.zero_le _, Lib.hid rfl, HG⟩
 case round =>
  clear HG
  obtain ⟨Ao, co, i, os, rfl, rfl, hi, HM, HG⟩ := hrel
  by_cases hlt : i < nx
  ·have hlx : i < xs.length := by rw [← Hnx.out]; exact hlt
   have hly : i < ys.length := by rw [← Hny.out]; exact hlt
   have hlr : i < (List.range nx).length := by rw [List.length_range]; exact hlt
   have hos := congrArg List.length HM.out
   rw [List.length_map, List.length_map, List.length_take, List.length_range] at hos
   have hosb : os.length ≤ 1000 := by omega
   clear hos
   have HM2 := Lib.hid (fun (y : RV × Rat) (hy : y.2 = mixAt ra.2 xs ys i) => map_next HM.out hlr (show y.2 = mixAt ra.2 xs ys (List.range nx)[i] from by rw [List.getElem_range]; exact hy))
   have HMX := Lib.hid (show mixAt ra.2 xs ys i = ra.2 * (xs[i]).2 + (1 - ra.2) * (ys[i]).2 from by unfold mixAt; rw [List.getElem?_map, List.getElem?_map, List.getElem?_eq_getElem hlx, List.getElem?_eq_getElem hly]; rfl)
   have HO := Lib.hid (fun (V : World) (h : LsR 4 rtcells (roD n) Ax xs V) (h' : LsR 4 rtcells (roD n) Ay ys V) => And.intro (h.rc i hlx) (And.intro (h'.rc i hly) (And.intro (show RatD (xs[i]).1 (xs[i]).2 n V from h.ok _ (List.getElem_mem hlx)) (show RatD (ys[i]).1 (ys[i]).2 n V from h'.ok _ (List.getElem_mem hly)))))
   have HZX := Lib.hid (HSX.out _ (List.getElem_mem hlx))
   have HZY := Lib.hid (HSY.out _ (List.getElem_mem hly))
   obtain ⟨p, hp⟩ : ∃ p, p = xs[i] := ⟨_, rfl⟩
   obtain ⟨r, hr⟩ : ∃ r, r = ys[i] := ⟨_, rfl⟩
   rw [← hp] at HMX HO HZX
   rw [← hr] at HMX HO HZY
   clear hp hr hlx hly hlr
   go_upto_region 5 with fail
   refine wp_region_noPanic ?_
   refine wp_region_held_drew (S := (fun V => CB (w.heap.size) #[.bool ra.1.num.neg, .slice ra.1.num.A ra.1.num.k ra.1.num.c, .bool ra.1.den.neg, .slice ra.1.den.A ra.1.den.k ra.1.den.c] V ∧ RC Ax i p V ∧ RC Ay i r V)) (by kernel_rfl) (by first | with_reducible exact ⟨Blk.cb (HG.out.o.1 _ (List.mem_singleton_self _)), (HO.out _ HG.out.o.2.2.1 HG.out.o.2.2.2.1).1, (HO.out _ HG.out.o.2.2.1 HG.out.o.2.2.2.1).2.1⟩ | with_reducible exact ⟨Blk.cb (HG.out.drew.o.1 _ (List.mem_singleton_self _)), (HO.out _ HG.out.drew.o.2.2.1 HG.out.drew.o.2.2.2.1).1, (HO.out _ HG.out.drew.o.2.2.1 HG.out.drew.o.2.2.2.1).2.1⟩) (fun hHeld => ?_)
   replace HG := Lib.hid HG.out.drew
   refine held_take (i := 0) (v := ?_) (some 21) rfl rfl (by kernel_rfl) (by kernel_rfl) (by kernel_rfl) (fun _ _ _ h => h) (Or.inl ⟨by rfl, ?_⟩) hHeld ?_
   rotate_left 1
   ·intro w hSw
    (try dsimp only at hSw)
    (first | (go_simp; done) | (go_simp; with_reducible rfl))
   (try simp only [Act.put, List.setIfInBounds_toArray, List.set_cons_zero, List.set_cons_succ])
   refine held_take (i := 1) (v := ?_) (some 22) rfl rfl (by kernel_rfl) (by kernel_rfl) (by kernel_rfl) (fun _ _ _ h => h) (Or.inl ⟨by rfl, ?_⟩) hHeld ?_
   rotate_left 1
   ·intro w hSw
    (try dsimp only at hSw)
    (first | (go_simp; done) | (go_simp; with_reducible rfl))
   (try simp only [Act.put, List.setIfInBounds_toArray, List.set_cons_zero, List.set_cons_succ])
   refine held_take (i := 2) (v := ?_) (some 23) rfl rfl (by kernel_rfl) (by kernel_rfl) (by kernel_rfl) (fun _ _ _ h => h) (Or.inl ⟨by rfl, ?_⟩) hHeld ?_
   rotate_left 1
   ·intro w hSw
    (try dsimp only at hSw)
    (first | (go_simp; done) | (go_simp; with_reducible rfl))
   (try simp only [Act.put, List.setIfInBounds_toArray, List.set_cons_zero, List.set_cons_succ])
   refine held_take (i := 3) (v := ?_) (some 24) rfl rfl (by kernel_rfl) (by kernel_rfl) (by kernel_rfl) (fun _ _ _ h => h) (Or.inl ⟨by rfl, ?_⟩) hHeld ?_
   rotate_left 1
   ·intro w hSw
    (try dsimp only at hSw)
    (first | (go_simp; done) | (go_simp; with_reducible rfl))
   (try simp only [Act.put, List.setIfInBounds_toArray, List.set_cons_zero, List.set_cons_succ])
   refine held_take (i := 4) (v := ?_) (some 25) rfl rfl (by kernel_rfl) (by kernel_rfl) (by kernel_rfl) (fun _ _ _ h => h) (Or.inl ⟨by rfl, ?_⟩) hHeld ?_
   rotate_left 1
   ·intro w hSw
    (try dsimp only at hSw)
    (first | (go_simp; done) | (go_simp; with_reducible rfl))
   (try simp only [Act.put, List.setIfInBounds_toArray, List.set_cons_zero, List.set_cons_succ])
   refine held_take (i := 5) (v := ?_) (some 26) rfl rfl (by kernel_rfl) (by kernel_rfl) (by kernel_rfl) (fun _ _ _ h => h) (Or.inl ⟨by rfl, ?_⟩) hHeld ?_
   rotate_left 1
   ·intro w hSw
    (try dsimp only at hSw)
    (first | (go_simp; done) | (go_simp; with_reducible rfl))
   (try simp only [Act.put, List.setIfInBounds_toArray, List.set_cons_zero, List.set_cons_succ])
   refine held_take (i := 8) (v := ?_) (some 29) rfl rfl (by kernel_rfl) (by kernel_rfl) (by kernel_rfl) (fun _ _ _ h => h) (Or.inl ⟨by rfl, ?_⟩) hHeld ?_
   rotate_left 1
   ·intro w hSw
    (try dsimp only at hSw)
    (first | (go_simp; done) | (go_simp; with_reducible rfl))
   (try simp only [Act.put, List.setIfInBounds_toArray, List.set_cons_zero, List.set_cons_succ])
   refine held_take (i := 10) (v := ?_) (some 31) rfl rfl (by kernel_rfl) (by kernel_rfl) (by kernel_rfl) (fun _ _ _ h => h) (Or.inl ⟨by rfl, ?_⟩) hHeld ?_
   rotate_left 1
   ·intro w hSw
    (try dsimp only at hSw)
    (first | (go_simp; done) | (go_simp; with_reducible rfl))
   (try simp only [Act.put, List.setIfInBounds_toArray, List.set_cons_zero, List.set_cons_succ])
   refine held_take (i := 11) (v := ?_) (some 32) rfl rfl (by kernel_rfl) (by kernel_rfl) (by kernel_rfl) (fun _ _ _ h => h) (Or.inl ⟨by rfl, ?_⟩) hHeld ?_
   rotate_left 1
   ·intro w hSw
    (try dsimp only at hSw)
    (first | (go_simp; done) | (go_simp; with_reducible rfl))
   (try simp only [Act.put, List.setIfInBounds_toArray, List.set_cons_zero, List.set_cons_succ])
   refine held_take (i := 12) (v := ?_) (some 33) rfl rfl (by kernel_rfl) (by kernel_rfl) (by kernel_rfl) (fun _ _ _ h => h) (Or.inl ⟨by rfl, ?_⟩) hHeld ?_
   rotate_left 1
   ·intro w hSw
    (try dsimp only at hSw)
    (first | (go_simp; done) | (go_simp; with_reducible rfl))
   (try simp only [Act.put, List.setIfInBounds_toArray, List.set_cons_zero, List.set_cons_succ])
   refine held_take (i := 13) (v := ?_) (some 34) rfl rfl (by kernel_rfl) (by kernel_rfl) (by kernel_rfl) (fun _ _ _ h => h) (Or.inl ⟨by rfl, ?_⟩) hHeld ?_
   rotate_left 1
   ·intro w hSw
    (try dsimp only at hSw)
    (first | (go_simp; done) | (go_simp; with_reducible rfl))
   (try simp only [Act.put, List.setIfInBounds_toArray, List.set_cons_zero, List.set_cons_succ])
   refine held_call (i := 6) rfl (by kernel_rfl) (by rfl) (fun K hK => ?_)
   clear hHeld
   simp only [List.getElem_toArray, List.getElem_cons_succ, List.getElem_cons_zero]
   go_simp
   refine (rmul_any _ ra.1 p.1 ra.2 p.2 n (by omega) h1n HG.out.o.2.1 (HO.out _ HG.out.o.2.2.1 HG.out.o.2.2.2.1).2.2.1 HG.out.o.2.2.2.2).mono ?_
   rintro e wq ⟨k1, rfl, hk9, hb9⟩
   replace HG := Lib.hid (HG.out.call hk9 hb9)
   clear hk9 hb9
   (try (go_wp2_with fail))
   refine hK.out _ _ (by first | with_reducible exact ⟨Blk.cb (HG.out.o.1 _ (List.mem_singleton_self _)), (HO.out _ HG.out.o.2.2.1 HG.out.o.2.2.2.1).1, (HO.out _ HG.out.o.2.2.1 HG.out.o.2.2.2.1).2.1⟩ | with_reducible exact ⟨Blk.cb (HG.out.drew.o.1 _ (List.mem_singleton_self _)), (HO.out _ HG.out.drew.o.2.2.1 HG.out.drew.o.2.2.2.1).1, (HO.out _ HG.out.drew.o.2.2.1 HG.out.drew.o.2.2.2.1).2.1⟩) (fun hHeld => ?_)
   clear hK K
   (try simp only [Act.put, List.setIfInBounds_toArray, List.set_cons_zero, List.set_cons_succ])
   refine held_call (i := 7) rfl (by kernel_rfl) (by rfl) (fun K hK => ?_)
   clear hHeld
   simp only [List.getElem_toArray, List.getElem_cons_succ, List.getElem_cons_zero]
   go_simp
   refine (rof_any _ 1 1 (by decide) (by decide) (by decide) (by decide) HG.out.o.2.2.2.2).mono ?_
   rintro e wq ⟨k2, rfl, hk9, hb9⟩
   rw [show Rat.divInt 1 1 = 1 from by decide +kernel] at hk9
   replace HG := Lib.hid (HG.out.call hk9 hb9)
   clear hk9 hb9
   (try (go_wp2_with fail))
   refine hK.out _ _ (by first | with_reducible exact ⟨Blk.cb (HG.out.o.1 _ (List.mem_singleton_self _)), (HO.out _ HG.out.o.2.2.1 HG.out.o.2.2.2.1).1, (HO.out _ HG.out.o.2.2.1 HG.out.o.2.2.2.1).2.1⟩ | with_reducible exact ⟨Blk.cb (HG.out.drew.o.1 _ (List.mem_singleton_self _)), (HO.out _ HG.out.drew.o.2.2.1 HG.out.drew.o.2.2.2.1).1, (HO.out _ HG.out.drew.o.2.2.1 HG.out.drew.o.2.2.2.1).2.1⟩) (fun hHeld => ?_)
   clear hK K
   (try simp only [Act.put, List.setIfInBounds_toArray, List.set_cons_zero, List.set_cons_succ])
   refine held_call (i := 9) rfl (by kernel_rfl) (by rfl) (fun K hK => ?_)
   clear hHeld
   simp only [List.getElem_toArray, List.getElem_cons_succ, List.getElem_cons_zero]
   go_simp
   refine (rsub_any _ k2 ra.1 1 ra.2 N (by omega) h1N (RatN.rat HG.out.n.1 (Sz.up (⟨by decide +kernel, by decide +kernel⟩ : Sz (1 : Rat) 1) (by omega))) (RatD.mono HG.out.o.2.1 hnN2) HG.out.o.2.2.2.2).mono ?_
   rintro e wq ⟨k3, rfl, hk9, hb9⟩
   replace HG := Lib.hid (HG.out.call hk9 hb9)
   clear hk9 hb9
   (try (go_wp2_with fail))
   refine hK.out _ _ (by first | with_reducible exact ⟨Blk.cb (HG.out.o.1 _ (List.mem_singleton_self _)), (HO.out _ HG.out.o.2.2.1 HG.out.o.2.2.2.1).1, (HO.out _ HG.out.o.2.2.1 HG.out.o.2.2.2.1).2.1⟩ | with_reducible exact ⟨Blk.cb (HG.out.drew.o.1 _ (List.mem_singleton_self _)), (HO.out _ HG.out.drew.o.2.2.1 HG.out.drew.o.2.2.2.1).1, (HO.out _ HG.out.drew.o.2.2.1 HG.out.drew.o.2.2.2.1).2.1⟩) (fun hHeld => ?_)
   clear hK K
   (try simp only [Act.put, List.setIfInBounds_toArray, List.set_cons_zero, List.set_cons_succ])
   refine held_call (i := 14) rfl (by kernel_rfl) (by rfl) (fun K hK => ?_)
   clear hHeld
   simp only [List.getElem_toArray, List.getElem_cons_succ, List.getElem_cons_zero]
   go_simp
   refine (rmul_any _ k3 r.1 (1 - ra.2) r.2 N (by omega) h1N (RatN.rat HG.out.n.1 ((Sz.sub (⟨by decide +kernel, by decide +kernel⟩ : Sz (1 : Rat) 1) HSA.out).up (by omega))) (RatD.mono (HO.out _ HG.out.o.2.2.1 HG.out.o.2.2.2.1).2.2.2 hnN2) HG.out.o.2.2.2.2).mono ?_
   rintro e wq ⟨k4, rfl, hk9, hb9⟩
   replace HG := Lib.hid (HG.out.call hk9 hb9)
   clear hk9 hb9
   (try (go_wp2_with fail))
   refine hK.out _ _ (by first | with_reducible exact ⟨Blk.cb (HG.out.o.1 _ (List.mem_singleton_self _)), (HO.out _ HG.out.o.2.2.1 HG.out.o.2.2.2.1).1, (HO.out _ HG.out.o.2.2.1 HG.out.o.2.2.2.1).2.1⟩ | with_reducible exact ⟨Blk.cb (HG.out.drew.o.1 _ (List.mem_singleton_self _)), (HO.out _ HG.out.drew.o.2.2.1 HG.out.drew.o.2.2.2.1).1, (HO.out _ HG.out.drew.o.2.2.1 HG.out.drew.o.2.2.2.1).2.1⟩) (fun hHeld => ?_)
   clear hK K
   (try simp only [Act.put, List.setIfInBounds_toArray, List.set_cons_zero, List.set_cons_succ])
   refine held_call (i := 15) rfl (by kernel_rfl) (by rfl) (fun K hK => ?_)
   clear hHeld
   simp only [List.getElem_toArray, List.getElem_cons_succ, List.getElem_cons_zero]
   go_simp
   refine (radd_any _ k1 k4 (ra.2 * p.2) ((1 - ra.2) * r.2) N (by omega) h1N (RatN.rat HG.out.n.2.2.2.1 ((Sz.mul HSA.out HZX.out).up (by omega))) (RatN.rat HG.out.n.1 ((Sz.mul (Sz.sub (⟨by decide +kernel, by decide +kernel⟩ : Sz (1 : Rat) 1) HSA.out) HZY.out).up (by omega))) HG.out.o.2.2.2.2).mono ?_
   rintro e wq ⟨k5, rfl, hk9, hb9⟩
   rw [← HMX.out] at hk9
   replace HG := Lib.hid (HG.out.call hk9 hb9)
   clear hk9 hb9
   (try (go_wp2_with fail))
   refine hK.out _ _ (by first | with_reducible exact ⟨Blk.cb (HG.out.o.1 _ (List.mem_singleton_self _)), (HO.out _ HG.out.o.2.2.1 HG.out.o.2.2.2.1).1, (HO.out _ HG.out.o.2.2.1 HG.out.o.2.2.2.1).2.1⟩ | with_reducible exact ⟨Blk.cb (HG.out.drew.o.1 _ (List.mem_singleton_self _)), (HO.out _ HG.out.drew.o.2.2.1 HG.out.drew.o.2.2.2.1).1, (HO.out _ HG.out.drew.o.2.2.1 HG.out.drew.o.2.2.2.1).2.1⟩) (fun hHeld => ?_)
   clear hK K
   (try simp only [Act.put, List.setIfInBounds_toArray, List.set_cons_zero, List.set_cons_succ])
   refine held_call (i := 16) rfl (by kernel_rfl) (by rfl) (fun K hK => ?_)
   clear hHeld
   simp only [List.getElem_toArray, List.getElem_cons_succ, List.getElem_cons_zero]
   go_simp
   (try (go_wp2_with fail))
   obtain ⟨W7, gb, hW7, hgb, HG⟩ := HG.out.al 30 #[.bool k5.num.neg, .slice k5.num.A k5.num.k k5.num.c, .bool k5.den.neg, .slice k5.den.A k5.den.k k5.den.c]
   rw [hW7, hgb]
   clear hW7 hgb
   (try (go_wp2_with fail))
   refine hK.out _ _ (by first | with_reducible exact ⟨Blk.cb (HG.out.o.1 _ (List.mem_singleton_self _)), (HO.out _ HG.out.o.2.2.1 HG.out.o.2.2.2.1).1, (HO.out _ HG.out.o.2.2.1 HG.out.o.2.2.2.1).2.1⟩ | with_reducible exact ⟨Blk.cb (HG.out.drew.o.1 _ (List.mem_singleton_self _)), (HO.out _ HG.out.drew.o.2.2.1 HG.out.drew.o.2.2.2.1).1, (HO.out _ HG.out.drew.o.2.2.1 HG.out.drew.o.2.2.2.1).2.1⟩) (fun hHeld => ?_)
   clear hK K
   (try simp only [Act.put, List.setIfInBounds_toArray, List.set_cons_zero, List.set_cons_succ])
   obtain ⟨A2, c2, W8, hrun, HG2⟩ := GL.appG (k := 0) (cells := rtcells) under_rats info_rat rfl (by decide) (by decide) HG.out rfl ((k5, mixAt ra.2 xs ys i) : RV × Rat) rfl (rtcells_one _) HG.out.n.1 (by omega)
   refine held_call (i := 17) rfl (by kernel_rfl) (by rfl) (fun K hK => ?_)
   clear hHeld
   simp only [List.getElem_toArray, List.getElem_cons_succ, List.getElem_cons_zero]
   refine oper_app9 (.tmp 21) (.tmp 37) 25 _ _ _ rfl rfl rfl hrun ?_
   clear hrun
   have HG3 := Lib.hid (show GL w (⟨30, 4, .slice A2 (List.length (os ++ [(k5, mixAt ra.2 xs ys i)])) c2, List.map rtcells (os ++ [(k5, mixAt ra.2 xs ys i)])⟩ :: []) (fun V => (∀ b ∈ [(⟨w.heap.size, 30, #[.bool ra.1.num.neg, .slice ra.1.num.A ra.1.num.k ra.1.num.c, .bool ra.1.den.neg, .slice ra.1.den.A ra.1.den.k ra.1.den.c]⟩ : Bo)], Blk V b.g b.t b.cs) ∧ RatD ra.1 ra.2 n V ∧ LsR 4 rtcells (roD n) Ax xs V ∧ LsR 4 rtcells (roD n) Ay ys V ∧ Tz V) (fun V => ∀ zp ∈ (os ++ [(k5, mixAt ra.2 xs ys i)]), roN zp V) _ from HG2.imp (fun _ h => h) (fun V h => fun zp hz => (List.mem_append.1 hz).elim (fun hz => h.2.2.2.2.2.2 zp hz) (fun hz => by rw [List.mem_singleton.1 hz]; exact h.2.1)))
   clear HG HG2
   have HG := HG3
   clear HG3
   refine hK.out _ _ (by first | with_reducible exact ⟨Blk.cb (HG.out.o.1 _ (List.mem_singleton_self _)), (HO.out _ HG.out.o.2.2.1 HG.out.o.2.2.2.1).1, (HO.out _ HG.out.o.2.2.1 HG.out.o.2.2.2.1).2.1⟩ | with_reducible exact ⟨Blk.cb (HG.out.drew.o.1 _ (List.mem_singleton_self _)), (HO.out _ HG.out.drew.o.2.2.1 HG.out.drew.o.2.2.2.1).1, (HO.out _ HG.out.drew.o.2.2.1 HG.out.drew.o.2.2.2.1).2.1⟩) (fun hHeld => ?_)
   clear hK K
   (try simp only [Act.put, List.setIfInBounds_toArray, List.set_cons_zero, List.set_cons_succ])
   refine held_take (i := 18) (v := ?_) (some 7) rfl rfl (by kernel_rfl) (by kernel_rfl) (by kernel_rfl) (fun _ _ _ h => h) (Or.inl ⟨by rfl, ?_⟩) hHeld ?_
   rotate_left 1
   ·intro w hSw
    (try dsimp only at hSw)
    (first | (go_simp; done) | (go_simp; with_reducible rfl))
   refine wpAnyH_done (by kernel_rfl) ?_ _
   refine NoPanic.normal ?_
   go_wp2_with fail
   go_roundw
   case rel => exact ⟨A2, c2, i + 1, os ++ [(k5, mixAt ra.2 xs ys i)], by simp, by go_num, by omega, Lib.hid (by rw [List.map_append]; exact HM2.out (k5, mixAt ra.2 xs ys i) rfl), by first | exact HG | exact Lib.hid HG.out.drew⟩
   case measure => (simp [intOf] <;> omega)
  ·obtain rfl : i = nx := by omega
   obtain ⟨A', c', hv, hc, hr⟩ := HG.out.tell (cells := rtcells) (ok := roN) (l := os) (fun V h => h)
   obtain ⟨rfl, rfl⟩ : Ao = A' ∧ co = c' := by simpa using hv
   have Hr2 := Lib.hid hr
   have Hc := Lib.hid hc
   have Hbel := Lib.hid HG.out.bel
   clear hr hv HG hc
   go_wp2_with fail
   go_ret
   exact ⟨Ao, co, os, rfl, Hc.out, by rw [HM.out, List.take_of_length_le (by rw [List.length_range]; exact Nat.le_refl _)], Hr2.out, Hbel.out⟩
end Go.Proofs.YtplhmeiciiajcaaGreatDoor
namespace Go.Proofs.YtplhmeiciiajcaaGreatDoor
set_option maxHeartbeats 16000000
open Go.RowKit

theorem rats_say6 (w : World) (u v : RsV) (h : rsN u w) (h2 : rsN v w) (e : u.q = v.q) (hl : u.l.length ≤ 1000000) (hz : ∀ q ∈ u.q, Sz q 6000) : Calls Tryz.prog 14 #[.slice u.A u.l.length u.c, .slice v.A v.l.length v.c] w fun e w' => e = .returned (.bool true) ∧ Below w.heap.size w w' := by
 have e0 : u.l.map Prod.snd = v.l.map Prod.snd := e
 have hz1 : ∀ p ∈ u.l, Sz p.2 6000 := fun p hp => hz _ (List.mem_map_of_mem (f := Prod.snd) hp)
 have hz2 : ∀ p ∈ v.l, Sz p.2 6000 := fun p hp => hz _ (by rw [e]; exact List.mem_map_of_mem (f := Prod.snd) hp)
 refine same_SameRats w u.A v.A u.c v.c _ _ (num_F (f := fN) h fun p hp h9 => RatN.w h9 (hz1 p hp) (by decide)) (num_F (f := fN) h2 fun p hp h9 => RatN.w h9 (hz2 p hp) (by decide)) (by rw [List.length_map]; exact hl) ?_ _ _ (by rw [List.length_map]) (by rw [List.length_map])
 have e2 := congrArg (List.map wdN) e0
 simp only [List.map_map] at e2 ⊢
 exact e2
def bentB (f : NeV) (i : Nat) : Bool := (f.las.take i).any fun l => l.kind == 3 || l.kind == 4
theorem bentB_next {f : NeV} {i : Nat} (hi : i < f.las.length) : bentB f (i + 1) = (bentB f i || (f.las[i].kind == 3 || f.las[i].kind == 4)) := by
 unfold bentB
 rw [List.take_succ_eq_append_getElem hi, List.any_append]
 simp
theorem bentB_no {f : NeV} (h : bentB f f.las.length = false) : ∀ l ∈ f.las, ¬ l.kind = 3 ∧ ¬ l.kind = 4 := by
 unfold bentB at h
 rw [List.take_length, List.any_eq_false] at h
 intro l hl
 have h1 := h l hl
 simp at h1
 exact h1
theorem bentB_len {f : NeV} (h : bentB f f.las.length = true) : 0 < f.las.length := by
 rcases Nat.eq_zero_or_pos f.las.length with e | e
 ·rw [e] at h; unfold bentB at h; simp at h
 ·exact e
theorem fits_kind {w : World} {ls : List LaV} : ∀ {n : Int}, FitsL w ls n → ∀ l ∈ ls, l.kind = 1 ∨ l.kind = 2 ∨ l.kind = 3 ∨ l.kind = 4 := by
 induction ls with
 | nil => intro n _ l hl; cases hl
 | cons x ls ih =>
  intro n h l hl
  rcases List.mem_cons.1 hl with e | hl
  ·rw [e]
   have h1 := h.1
   unfold Fits at h1
   rcases h1 with h1 | h1 | h1 | h1
   ·exact .inl h1.1
   ·exact .inr (.inl h1.1)
   ·exact .inr (.inr (.inl h1.1))
   ·exact .inr (.inr (.inr h1.1))
  ·exact ih h.2.2 l hl
theorem lin_k {w : World} {f : NeV} (hN : NetP w f 0) (h : bentB f f.las.length = false) : ∀ q ∈ f.las.map LaG.q, q.kind = 1 ∨ q.kind = 2 := fun q hq => by
 obtain ⟨l, hl, rfl⟩ := List.mem_map.1 hq
 have h1 := bentB_no h l hl
 rcases fits_kind (fits_of hN) l hl with k | k | k | k
 ·exact .inl k
 ·exact .inr k
 ·exact absurd k h1.1
 ·exact absurd k h1.2
theorem sign_nn0 {q : Rat} (h : 0 ≤ q) : 0 ≤ q.num.sign := Int.sign_nonneg_iff.2 (Rat.num_nonneg.2 h)
theorem relu_nn {f : NeV} {xs : List (RV × Rat)} {m : Nat} (hm : f.las.length = m + 1) (hk : (f.las[m]'(by omega)).kind = 3) : ∀ q ∈ outQ f xs f.las.length, ¬ q.num.sign < 0 := by
 intro q hq
 unfold outQ at hq
 rw [hm, trAt_next (by rw [List.length_map]; omega), List.getElem_map] at hq
 have := sign_nn0 (says_relu hk q hq)
 omega
set_option maxRecDepth 100000 in
theorem netMixes_all (w : World) (n m : Nat) (f : NeV) (h : NeD n f w) (hm : ∀ l ∈ f.las, LaM l) (hml : f.las.length ≤ 9223372036854775807) (hT : Tz w) (ht : Tab w) (nl : Nat) (hnl : nl = f.las.length) (Ax : Option Addr) (cx : Nat) (xs : List (RV × Rat)) (nx : Nat) (hx : LsR 4 rtcells (roD m) Ax xs w) (hnx : nx = xs.length) (hxl : xs.length ≤ 9223372036854775807) (Ay : Option Addr) (cy : Nat) (ys : List (RV × Rat)) (ny : Nat) (hy : LsR 4 rtcells (roD m) Ay ys w) (hny : ny = ys.length) (hyl : ys.length ≤ 9223372036854775807) (ra : RV × Rat) (ha : roD m ra w) : Calls Tryz.prog 3 #[.agg #[.int .i64 f.inputs, .slice f.A nl f.c], .slice Ax nx cx, .slice Ay ny cy, .agg #[.bool ra.1.num.neg, .slice ra.1.num.A ra.1.num.k ra.1.num.c, .bool ra.1.den.neg, .slice ra.1.den.A ra.1.den.k ra.1.den.c]] w fun e w' => e = .returned (.bool true) ∧ Below w.heap.size w w' := by
 have Hw := Lib.hid h
 have Hxw := Lib.hid hx
 have Hyw := Lib.hid hy
 have Haw := Lib.hid ha
 have Hn := Lib.hid hnl
 have Hm := Lib.hid hm
 have Hl := Lib.hid hml
 have Hx := Lib.hid hnx
 have Hxl := Lib.hid hxl
 have Hy := Lib.hid hny
 have Hyl := Lib.hid hyl
 have slf := h.sl
 rw [← hnl] at slf
 have szl := size_las
 have hadd := adr_add
 obtain ⟨W0, hW0⟩ : ∃ W0, W0 = ((w.alloc (.cells #[.int .i64 f.inputs, .slice f.A nl f.c] 24)).alloc (.cells #[.bool ra.1.num.neg, .slice ra.1.num.A ra.1.num.k ra.1.num.c, .bool ra.1.den.neg, .slice ra.1.den.A ra.1.den.k ra.1.den.c] 30)) := ⟨_, rfl⟩
 have HE := Lib.hid (Env.lay2 (Env.start ((h.old).and (((NeD.iffR h)).and (((hx.old roD_old)).and (((hy.old roD_old)).and (((roD_old ra w ha)).and ((hT.old).and (ht.old)))))))) hW0)
 subst hW0
 have c := Env.c2 HE.out
 have dd := Env.d2 HE.out
 clear h hT ht hnl hm hml hx hnx hxl hy hny hyl ha
 go_enter Tryz.func3, Tryz.ntmps3
 go_wp2_with fail
 refine (looked_any _ n m f HE.out.o.1 Hm.out Hl.out nl Hn.out Ax cx xs nx HE.out.o.2.2.1 Hx.out Hxl.out).mono ?_
 rintro e w1 ⟨⟨B, rfl, hB⟩, hb⟩
 have HB := Lib.hid hB
 replace HE := Lib.hid (Env.call HE.out hb)
 replace c := Env.c2 HE.out
 clear hB hb
 cases B
 ·go_wp2_with fail
  refine (awake13_any _ HE.out.o.2.2.2.2.2.1 HE.out.o.2.2.2.2.2.2).mono ?_
  rintro e w9 ⟨rfl, hb⟩
  replace HE := Lib.hid (Env.call HE.out hb)
  clear hb
  go_wp2_with fail
  exact bodyPost_ret (v := .bool true) (by simp [results, Tryz.results3, go_sem]) rfl ⟨rfl, HE.out.bel⟩
 ·have HP := Lib.hid (HB.out rfl)
  clear HB
  go_wp2_with fail
  refine (short_rats _ roD_old Ay cy ys HE.out.o.2.2.2.1 Hyl.out 20 1 ny Hy.out).mono ?_
  rintro e w2 ⟨⟨B, rfl, hB⟩, hb⟩
  have HB := Lib.hid hB
  replace HE := Lib.hid (Env.call HE.out hb)
  replace c := Env.c2 HE.out
  clear hB hb
  cases B
  ·go_wp2_with fail
   refine (awake13_any _ HE.out.o.2.2.2.2.2.1 HE.out.o.2.2.2.2.2.2).mono ?_
   rintro e w9 ⟨rfl, hb⟩
   replace HE := Lib.hid (Env.call HE.out hb)
   clear hb
   go_wp2_with fail
   exact bodyPost_ret (v := .bool true) (by simp [results, Tryz.results3, go_sem]) rfl ⟨rfl, HE.out.bel⟩
  ·have HPY := Lib.hid (HB.out rfl)
   clear HB
   go_wp2_with fail
   refine (shortRat_any' _ ra.1 1).mono ?_
   rintro e w3 ⟨⟨B, rfl, hB⟩, hb⟩
   have HB := Lib.hid hB
   replace HE := Lib.hid (Env.call HE.out hb)
   replace c := Env.c2 HE.out
   clear hB hb
   cases B
   ·go_wp2_with fail
    refine (awake13_any _ HE.out.o.2.2.2.2.2.1 HE.out.o.2.2.2.2.2.2).mono ?_
    rintro e w9 ⟨rfl, hb⟩
    replace HE := Lib.hid (Env.call HE.out hb)
    clear hb
    go_wp2_with fail
    exact bodyPost_ret (v := .bool true) (by simp [results, Tryz.results3, go_sem]) rfl ⟨rfl, HE.out.bel⟩
   ·have HPA := Lib.hid (HB.out rfl)
    clear HB
    have HS := Lib.hid (lk_in Hw.out Hm.out Hxw.out HP.out)
    have HS2 := Lib.hid (lk_in (xs := ys) Hw.out Hm.out Hyw.out ⟨HP.out.1, HPY.out⟩)
    have HSA := Lib.hid (show Sz ra.2 1 from RatD.sz (RatD.short (show RatD ra.1 ra.2 m w from Haw.out) HPA.out) (by decide))
    replace HE := Lib.hid (HE.out.imp (φ := (fun V => NeD 1 f V ∧ (∀ err, NetP V f err ↔ NetP w f err) ∧ LsR 4 rtcells (roD 1) Ax xs V ∧ LsR 4 rtcells (roD 1) Ay ys V ∧ roD 1 ra V ∧ Tz V ∧ Tab V)) (ψ := fun _ => True) (fun V h => ⟨LsR.imp h.1 fun l hl hl' => ((HP.out.1.2 l hl).up (by decide : 20 ≤ 24)).d hl', h.2.1, LsR.imp h.2.2.1 fun p hp hp' => RatD.short (show RatD p.1 p.2 _ V from hp') (HP.out.2.2 p hp), LsR.imp h.2.2.2.1 fun p hp hp' => RatD.short (show RatD p.1 p.2 _ V from hp') (HPY.out.2 p hp), RatD.short (show RatD ra.1 ra.2 m V from h.2.2.2.2.1) HPA.out, h.2.2.2.2.2⟩) (fun _ _ => trivial))
    clear Hw Hxw Hyw Haw Hm HP HPY HPA
    replace c := Env.c2 HE.out
    go_wp2_with fail
    refine (run_n HS.out HE.out.o.2.2.2.2.2.1 HE.out.o.1 HE.out.o.2.1 HE.out.o.2.2.1 Hx.out Hn.out).mono ?_
    rintro e w2 (⟨err, rfl, hE, hb⟩ | ⟨hN, he, v, rfl, hq, hr, hb⟩)
    ·have h1 : (err != 0) = true := by simp [hE.ne]
     replace HE := Lib.hid (Env.call HE.out hb)
     replace c := Env.c2 HE.out
     clear hE hb
     go_wp2_with fail
     refine (run_n HS2.out HE.out.o.2.2.2.2.2.1 HE.out.o.1 HE.out.o.2.1 HE.out.o.2.2.2.1 Hy.out Hn.out).mono ?_
     rintro e w2 (⟨err2, rfl, -, hb⟩ | ⟨-, -, v, rfl, -, -, hb⟩)
     ·replace HE := Lib.hid (Env.call HE.out hb)
      clear hb
      go_wp2_with fail
      refine (awake13_any _ HE.out.o.2.2.2.2.2.1 HE.out.o.2.2.2.2.2.2).mono ?_
      rintro e w9 ⟨rfl, hb⟩
      replace HE := Lib.hid (Env.call HE.out hb)
      clear hb
      go_wp2_with fail
      exact bodyPost_ret (v := .bool true) (by simp [results, Tryz.results3, go_sem]) rfl ⟨rfl, HE.out.bel⟩
     ·replace HE := Lib.hid (Env.call HE.out hb)
      clear hb
      go_wp2_with fail
      refine (awake13_any _ HE.out.o.2.2.2.2.2.1 HE.out.o.2.2.2.2.2.2).mono ?_
      rintro e w9 ⟨rfl, hb⟩
      replace HE := Lib.hid (Env.call HE.out hb)
      clear hb
      go_wp2_with fail
      exact bodyPost_ret (v := .bool true) (by simp [results, Tryz.results3, go_sem]) rfl ⟨rfl, HE.out.bel⟩
    ·have HN := Lib.hid hN
     have Hi := Lib.hid he
     have HQ := Lib.hid hq
     replace HE := Lib.hid (Env.ret HE.out hr hb)
     replace c := Env.c2 HE.out
     clear hN he hq hr hb
     go_wp2_with fail
     refine (run_n HS2.out HE.out.o.2.2.2.2.2.1 HE.out.o.1 HE.out.o.2.1 HE.out.o.2.2.2.1 Hy.out Hn.out).mono ?_
     rintro e w2 (⟨err2, rfl, hE, hb⟩ | ⟨-, he, u, rfl, hq, hr, hb⟩)
     ·have h1 : (err2 != 0) = true := by simp [hE.ne]
      replace HE := Lib.hid (Env.call HE.out hb)
      clear hE hb
      go_wp2_with fail
      refine (awake13_any _ HE.out.o.2.2.2.2.2.1 HE.out.o.2.2.2.2.2.2).mono ?_
      rintro e w9 ⟨rfl, hb⟩
      replace HE := Lib.hid (Env.call HE.out hb)
      clear hb
      go_wp2_with fail
      exact bodyPost_ret (v := .bool true) (by simp [results, Tryz.results3, go_sem]) rfl ⟨rfl, HE.out.bel⟩
     ·have Hi2 := Lib.hid he
      have HQ2 := Lib.hid hq
      replace HE := Lib.hid (Env.ret HE.out hr hb)
      replace HE := Lib.hid (HE.out.sink.imp (φ := (fun V => (NeD 1 f V ∧ (∀ err, NetP V f err ↔ NetP w f err) ∧ LsR 4 rtcells (roD 1) Ax xs V ∧ LsR 4 rtcells (roD 1) Ay ys V ∧ roD 1 ra V ∧ Tz V ∧ Tab V) ∧ rsN v V ∧ rsN u V)) (ψ := fun _ => True) (fun V h => ⟨h.2, h.1.2.1, h.1.1⟩) (fun _ _ => trivial))
      clear he hq hr hb c
      have hnl9 : nl ≤ 6 := by have := HS.out.n; rw [← Hn.out] at this; exact this
      go_upto_region 9 with fail
      go_loopw [13, 14] (fun bv iv wr => ∃ i : Nat, bv = .bool (bentB f i) ∧ iv = .int .i64 (i : Int) ∧ i ≤ nl ∧ Hid (Env w [⟨w.heap.size + 1, 30, #[.bool ra.1.num.neg, .slice ra.1.num.A ra.1.num.k ra.1.num.c, .bool ra.1.den.neg, .slice ra.1.den.A ra.1.den.k ra.1.den.c]⟩, ⟨w.heap.size, 24, #[.int .i64 f.inputs, .slice f.A nl f.c]⟩] (fun V => (NeD 1 f V ∧ (∀ err, NetP V f err ↔ NetP w f err) ∧ LsR 4 rtcells (roD 1) Ax xs V ∧ LsR 4 rtcells (roD 1) Ay ys V ∧ roD 1 ra V ∧ Tz V ∧ Tab V) ∧ rsN v V ∧ rsN u V) (fun _ => True) wr)) (fun _ iv _ => nl - (intOf iv).toNat)
      case atStart => exact ⟨0, rfl, rfl, Nat.zero_le _, HE⟩
      case round =>
       clear HE
       obtain ⟨i, rfl, rfl, hi, HE⟩ := hrel
       have c := Env.c2 HE.out
       by_cases hlt : i < nl
       ·have hlo : i < f.las.length := by rw [← Hn.out]; exact hlt
        have cl := HE.out.o.1.1.lac i hlo
        have HBN := Lib.hid (bentB_next hlo)
        obtain ⟨p, hp⟩ : ∃ p, p = f.las[i] := ⟨_, rfl⟩
        rw [← hp] at cl HBN
        clear hp hlo
        obtain ⟨b, hbb⟩ : ∃ b, b = bentB f i := ⟨_, rfl⟩
        rw [← hbb] at HBN ⊢
        clear hbb
        cases b
        ·by_cases k3 : p.kind = 3
         ·have e3 : (p.kind == 3) = true := by simp [k3]
          have HB2 := Lib.hid (show bentB f (i + 1) = true from by rw [HBN.out, e3]; rfl)
          clear HBN
          go_wp2_with fail
          go_roundw
          case rel => exact ⟨i + 1, by rw [HB2.out], by go_num, by omega, HE⟩
          case measure => (simp [intOf] <;> omega)
         ·have e3 : (p.kind == 3) = false := by simp [k3]
          by_cases k4 : p.kind = 4
          ·have e4 : (p.kind == 4) = true := by simp [k4]
           have HB2 := Lib.hid (show bentB f (i + 1) = true from by rw [HBN.out, e3, e4]; rfl)
           clear HBN
           go_wp2_with fail
           go_roundw
           case rel => exact ⟨i + 1, by rw [HB2.out], by go_num, by omega, HE⟩
           case measure => (simp [intOf] <;> omega)
          ·have e4 : (p.kind == 4) = false := by simp [k4]
           have HB2 := Lib.hid (show bentB f (i + 1) = false from by rw [HBN.out, e3, e4]; rfl)
           clear HBN
           go_wp2_with fail
           go_roundw
           case rel => exact ⟨i + 1, by rw [HB2.out], by go_num, by omega, HE⟩
           case measure => (simp [intOf] <;> omega)
        ·have HB2 := Lib.hid (show bentB f (i + 1) = true from by rw [HBN.out]; rfl)
         clear HBN
         go_wp2_with fail
         go_roundw
         case rel => exact ⟨i + 1, by rw [HB2.out], by go_num, by omega, HE⟩
         case measure => (simp [intOf] <;> omega)
       ·obtain rfl : i = nl := by omega
        clear hlt hi
        have HBE := Lib.hid (show bentB f i = bentB f f.las.length from by rw [Hn.out])
        obtain ⟨b, hbb⟩ : ∃ b, b = bentB f i := ⟨_, rfl⟩
        rw [← hbb] at HBE ⊢
        clear hbb
        cases b
        ·have HLK := Lib.hid (lin_k HN.out HBE.out.symm)
         clear HBE
         have hxy : xs.length = ys.length := by have := Hi.out; have := Hi2.out; omega
         have HXY := Lib.hid hxy
         have hnxy : nx = ny := by have := Hx.out; have := Hy.out; omega
         subst hnxy
         clear hxy
         have hnx9 : nx ≤ 30 := by have := HS.out.x; have := Hx.out; omega
         go_upto_region 13 with fail
         refine wp_region_noPanic ?_
         refine wp_region_held_drew (S := (fun V => CB (w.heap.size + 1) #[.bool ra.1.num.neg, .slice ra.1.num.A ra.1.num.k ra.1.num.c, .bool ra.1.den.neg, .slice ra.1.den.A ra.1.den.k ra.1.den.c] V ∧ CB (w.heap.size) #[.int .i64 f.inputs, .slice f.A i f.c] V)) (by kernel_rfl) (by first | with_reducible exact Env.c2 HE.out | with_reducible exact Env.c2 HE.out.drew) (fun hHeld => ?_)
         replace HE := Lib.hid HE.out.drew
         refine held_take (i := 0) (v := ?_) (some 83) rfl rfl (by kernel_rfl) (by kernel_rfl) (by kernel_rfl) (fun _ _ _ h => h) (Or.inl ⟨by rfl, ?_⟩) hHeld ?_
         rotate_left 1
         ·intro w hSw
          (try dsimp only at hSw)
          (first | (go_simp; done) | (go_simp; with_reducible rfl))
         (try simp only [Act.put, List.setIfInBounds_toArray, List.set_cons_zero, List.set_cons_succ])
         refine held_take (i := 1) (v := ?_) (some 84) rfl rfl (by kernel_rfl) (by kernel_rfl) (by kernel_rfl) (fun _ _ _ h => h) (Or.inl ⟨by rfl, ?_⟩) hHeld ?_
         rotate_left 1
         ·intro w hSw
          (try dsimp only at hSw)
          (first | (go_simp; done) | (go_simp; with_reducible rfl))
         (try simp only [Act.put, List.setIfInBounds_toArray, List.set_cons_zero, List.set_cons_succ])
         refine held_take (i := 2) (v := ?_) (some 85) rfl rfl (by kernel_rfl) (by kernel_rfl) (by kernel_rfl) (fun _ _ _ h => h) (Or.inl ⟨by rfl, ?_⟩) hHeld ?_
         rotate_left 1
         ·intro w hSw
          (try dsimp only at hSw)
          (first | (go_simp; done) | (go_simp; with_reducible rfl))
         (try simp only [Act.put, List.setIfInBounds_toArray, List.set_cons_zero, List.set_cons_succ])
         refine held_take (i := 3) (v := ?_) (some 86) rfl rfl (by kernel_rfl) (by kernel_rfl) (by kernel_rfl) (fun _ _ _ h => h) (Or.inl ⟨by rfl, ?_⟩) hHeld ?_
         rotate_left 1
         ·intro w hSw
          (try dsimp only at hSw)
          (first | (go_simp; done) | (go_simp; with_reducible rfl))
         (try simp only [Act.put, List.setIfInBounds_toArray, List.set_cons_zero, List.set_cons_succ])
         refine held_call (i := 4) rfl (by kernel_rfl) (by rfl) (fun K hK => ?_)
         clear hHeld
         simp only [List.getElem_toArray, List.getElem_cons_succ, List.getElem_cons_zero]
         go_simp
         refine (mixed_any _ 1 9 (by decide) (by decide) (by decide) ra HE.out.o.1.2.2.2.2.1 Ax Ay cx cy nx xs ys HE.out.o.1.2.2.1 HE.out.o.1.2.2.2.1 Hx.out Hy.out (by omega) HE.out.o.1.2.2.2.2.2.1).mono ?_
         rintro e wq ⟨Am, cm, ms, rfl, -, hm9, hk9, hb9⟩
         have HMM := Lib.hid hm9
         replace HE := Lib.hid (Env.ret HE.out hk9 hb9)
         clear hm9 hk9 hb9
         (try (go_wp2_with fail))
         refine hK.out _ _ (by first | with_reducible exact Env.c2 HE.out | with_reducible exact Env.c2 HE.out.drew) (fun hHeld => ?_)
         clear hK K
         (try simp only [Act.put, List.setIfInBounds_toArray, List.set_cons_zero, List.set_cons_succ])
         have hml : ms.length = nx := by
          have := congrArg List.length HMM.out
          rw [List.length_map, mixQ_len (by rw [List.length_map, List.length_map]; exact HXY.out), List.length_map, ← Hx.out] at this
          exact this
         have Hml := Lib.hid hml
         have HMZ := Lib.hid (show ∀ q ∈ mixQ ra.2 (xs.map Prod.snd) (ys.map Prod.snd), Sz q 9 from fun q hq => by
          rw [← mix_range Hx.out Hy.out] at hq
          obtain ⟨j, -, rfl⟩ := List.mem_map.1 hq
          exact mixAt_sz (by decide) HSA.out HS.out.z HS2.out.z j)
         have HML := Lib.hid (show f.inputs = ((mixQ ra.2 (xs.map Prod.snd) (ys.map Prod.snd)).length : Int) from by rw [← HMM.out, List.length_map, Hml.out, Hi.out, Hx.out])
         have HM30 := Lib.hid (show (mixQ ra.2 (xs.map Prod.snd) (ys.map Prod.snd)).length ≤ 30 from by have := HML.out; have := Hi.out; have := HS.out.x; omega)
         clear hml
         refine held_call (i := 5) rfl (by kernel_rfl) (by rfl) (fun K hK => ?_)
         clear hHeld
         simp only [List.getElem_toArray, List.getElem_cons_succ, List.getElem_cons_zero]
         go_simp
         refine (run_any _ 1 6000 (by decide) (by decide) (by decide) f HE.out.o.1.1 HS.out.s HE.out.o.1.2.2.2.2.2.1 i Hn.out Am cm ms ms.length (HE.out.n.1.imp fun p hp h9 => RatN.rat h9 ((HMZ.out p.2 (by rw [← HMM.out]; exact List.mem_map_of_mem (f := Prod.snd) hp)).up (by decide))) rfl (by rw [Hml.out]; omega) (fun _ _ j hj => by rw [HMM.out]; exact mix_st HS.out HN.out HML.out HM30.out HMZ.out j hj)).mono ?_
         rintro e wq (⟨err, rfl, h9, -⟩ | ⟨-, -, A3, c3, l3, rfl, hq9, hk9, hb9⟩)
         ·exact absurd h9 (fun h9 => h9.elim (fun h => h.1 (NetP.uniq ((HE.out.o.1.2.1 err).1 h.2) HN.out)) (fun h => h.2.2 (by rw [HMM.out]; exact HML.out)))
         have HQ3 := Lib.hid (show (⟨A3, c3, l3⟩ : RsV).q = mixQ ra.2 (outQ f xs f.las.length) (outQ f ys f.las.length) from by show l3.map Prod.snd = _; rw [hq9, HMM.out]; exact (tr_mix HLK.out (by rw [List.length_map, List.length_map]; exact HXY.out) _).1)
         have HZ3 := Lib.hid (show ∀ q ∈ (⟨A3, c3, l3⟩ : RsV).q, Sz q 6000 from by show ∀ q ∈ l3.map Prod.snd, _; rw [hq9, HMM.out]; exact mix_sz HS.out HN.out HML.out HM30.out HMZ.out)
         replace HE := Lib.hid ((Env.ret HE.out hk9 hb9).imp (φ := (fun V => (NeD 1 f V ∧ (∀ err, NetP V f err ↔ NetP w f err) ∧ LsR 4 rtcells (roD 1) Ax xs V ∧ LsR 4 rtcells (roD 1) Ay ys V ∧ roD 1 ra V ∧ Tz V ∧ Tab V) ∧ rsN v V ∧ rsN u V)) (ψ := fun V => rsN ⟨A3, c3, l3⟩ V) (fun _ h => h) (fun _ h => h.1))
         clear hq9 hk9 hb9
         (try (go_wp2_with fail))
         refine hK.out _ _ (by first | with_reducible exact Env.c2 HE.out | with_reducible exact Env.c2 HE.out.drew) (fun hHeld => ?_)
         clear hK K
         (try simp only [Act.put, List.setIfInBounds_toArray, List.set_cons_zero, List.set_cons_succ])
         refine held_take (i := 6) (v := ?_) (some 82) rfl rfl (by kernel_rfl) (by kernel_rfl) (by kernel_rfl) (fun _ _ _ h => h) (Or.inl ⟨by rfl, ?_⟩) hHeld ?_
         rotate_left 1
         ·intro w hSw
          (try dsimp only at hSw)
          (first | (go_simp; done) | (go_simp; with_reducible rfl))
         (try simp only [Act.put, List.setIfInBounds_toArray, List.set_cons_zero, List.set_cons_succ])
         refine held_take (i := 7) (v := ?_) (some 89) rfl rfl (by kernel_rfl) (by kernel_rfl) (by kernel_rfl) (fun _ _ _ h => h) (Or.inl ⟨by rfl, ?_⟩) hHeld ?_
         rotate_left 1
         ·intro w hSw
          (try dsimp only at hSw)
          (first | (go_simp; done) | (go_simp; with_reducible rfl))
         (try simp only [Act.put, List.setIfInBounds_toArray, List.set_cons_zero, List.set_cons_succ])
         refine held_take (i := 8) (v := ?_) (some 90) rfl rfl (by kernel_rfl) (by kernel_rfl) (by kernel_rfl) (fun _ _ _ h => h) (Or.inl ⟨by rfl, ?_⟩) hHeld ?_
         rotate_left 1
         ·intro w hSw
          (try dsimp only at hSw)
          (first | (go_simp; done) | (go_simp; with_reducible rfl))
         (try simp only [Act.put, List.setIfInBounds_toArray, List.set_cons_zero, List.set_cons_succ])
         refine held_take (i := 9) (v := ?_) (some 15) rfl rfl (by kernel_rfl) (by kernel_rfl) (by kernel_rfl) (fun _ _ _ h => h) (Or.inl ⟨by rfl, ?_⟩) hHeld ?_
         rotate_left 1
         ·intro w hSw
          (try dsimp only at hSw)
          (first | (go_simp; done) | (go_simp; with_reducible rfl))
         (try simp only [Act.put, List.setIfInBounds_toArray, List.set_cons_zero, List.set_cons_succ])
         refine held_take (i := 10) (v := ?_) (some 16) rfl rfl (by kernel_rfl) (by kernel_rfl) (by kernel_rfl) (fun _ _ _ h => h) (Or.inl ⟨by rfl, ?_⟩) hHeld ?_
         rotate_left 1
         ·intro w hSw
          (try dsimp only at hSw)
          (first | (go_simp; done) | (go_simp; with_reducible rfl))
         refine wpAnyH_done (by kernel_rfl) ?_ _
         refine NoPanic.normal ?_
         replace c := Env.c2 HE.out
         go_wp2_with fail
         have HOX := Lib.hid (out_ok HS.out HN.out Hi.out f.las.length (Nat.le_refl _))
         have HOY := Lib.hid (out_ok HS2.out HN.out Hi2.out f.las.length (Nat.le_refl _))
         have hvu : v.l.length = u.l.length := by
          have h1 : v.q.length = v.l.length := List.length_map ..
          have h2 : u.q.length = u.l.length := List.length_map ..
          have h3 := HOX.out.2.2
          have h4 := HOY.out.2.2
          rw [HQ.out] at h1
          rw [HQ2.out] at h2
          omega
         have hv9 : v.l.length ≤ 256 := by
          have h1 : v.q.length = v.l.length := List.length_map ..
          rw [← h1, HQ.out]
          exact HOX.out.1
         have hl9 : l3.length ≤ 1000000 := by
          have h1 : l3.length = (mixQ ra.2 (outQ f xs f.las.length) (outQ f ys f.las.length)).length := by
           have := congrArg List.length HQ3.out
           rw [← this]
           exact (List.length_map ..).symm
          rw [h1, mixQ]
          rw [List.length_zipWith]
          have := HOX.out.1
          omega
         rw [← hvu]
         refine (mixed_any _ 5000 20005 (by decide) (by decide) (by decide) ra (RatD.mono HE.out.o.1.2.2.2.2.1 (by decide)) v.A u.A v.c u.c v.l.length v.l u.l (HE.out.o.2.1.imp fun p hp h9 => RatN.rat h9 (HOX.out.2.1 p.2 (by rw [← HQ.out]; exact List.mem_map_of_mem (f := Prod.snd) hp))) (HE.out.o.2.2.imp fun p hp h9 => RatN.rat h9 (HOY.out.2.1 p.2 (by rw [← HQ2.out]; exact List.mem_map_of_mem (f := Prod.snd) hp))) rfl hvu (by omega) HE.out.o.1.2.2.2.2.2.1).mono ?_
         rintro e wq ⟨Am4, cm4, ms4, rfl, -, hm9, hk9, hb9⟩
         have HM4 := Lib.hid hm9
         replace HE := Lib.hid (Env.ret HE.out hk9 hb9)
         clear hm9 hk9 hb9
         go_wp2_with fail
         refine (rats_say6 _ ⟨A3, c3, l3⟩ ⟨Am4, cm4, ms4⟩ HE.out.n.2 HE.out.n.1 (by rw [HQ3.out]; show _ = ms4.map Prod.snd; rw [HM4.out, show v.l.map Prod.snd = _ from HQ.out, show u.l.map Prod.snd = _ from HQ2.out]) hl9 HZ3.out).mono ?_
         rintro e wq ⟨rfl, hb⟩
         replace HE := Lib.hid (Env.call HE.out hb)
         clear hb hl9 hvu hv9
         go_wp2_with fail
         refine (awake13_any _ HE.out.o.1.2.2.2.2.2.1 HE.out.o.1.2.2.2.2.2.2).mono ?_
         rintro e w9 ⟨rfl, hb⟩
         replace HE := Lib.hid (Env.call HE.out hb)
         clear hb
         go_wp2_with fail
         exact bodyPost_ret (v := .bool true) (by simp [results, Tryz.results3, go_sem]) rfl ⟨rfl, HE.out.bel⟩
        ·have HLB := Lib.hid (bentB_len HBE.out.symm)
         obtain ⟨m1, hm1⟩ : ∃ m1, f.las.length = m1 + 1 := ⟨f.las.length - 1, by have := HLB.out; omega⟩
         have Hm1 := Lib.hid hm1
         have hml : m1 < f.las.length := by omega
         have e2 : (i : Int) - 1 = (m1 : Int) := by have := Hn.out; omega
         have hmi : m1 < i := by have := Hn.out; omega
         have cl := HE.out.o.1.1.lac m1 hml
         have HRN := Lib.hid (fun (h : (f.las[m1]).kind = 3) => relu_nn (xs := xs) hm1 h)
         obtain ⟨p, hp⟩ : ∃ p, p = f.las[m1] := ⟨_, rfl⟩
         rw [← hp] at cl HRN
         clear hp hm1 hml HBE HLB
         by_cases k3 : p.kind = 3
         ·have e3 : (p.kind == 3) = true := by simp [k3]
          have HR3 := Lib.hid (HRN.out k3)
          clear HRN k3
          have HOX := Lib.hid (out_ok HS.out HN.out Hi.out f.las.length (Nat.le_refl _))
          obtain ⟨nv, hnv⟩ : ∃ nv, nv = v.l.length := ⟨_, rfl⟩
          have Hnv := Lib.hid hnv
          rw [← hnv]
          have hv9 : nv ≤ 256 := by
           have h1 : v.q.length = v.l.length := List.length_map ..
           rw [hnv, ← h1, HQ.out]
           exact HOX.out.1
          clear hnv
          have slv := HE.out.o.2.1.sl
          rw [← Hnv.out] at slv
          have szr := size_rats
          go_upto_region 17 with fail
          clear cl
          go_loopw [17] (fun jv wr => ∃ j : Nat, jv = .int .i64 (j : Int) ∧ j ≤ nv ∧ Hid (Env w [⟨w.heap.size + 1, 30, #[.bool ra.1.num.neg, .slice ra.1.num.A ra.1.num.k ra.1.num.c, .bool ra.1.den.neg, .slice ra.1.den.A ra.1.den.k ra.1.den.c]⟩, ⟨w.heap.size, 24, #[.int .i64 f.inputs, .slice f.A i f.c]⟩] (fun V => (NeD 1 f V ∧ (∀ err, NetP V f err ↔ NetP w f err) ∧ LsR 4 rtcells (roD 1) Ax xs V ∧ LsR 4 rtcells (roD 1) Ay ys V ∧ roD 1 ra V ∧ Tz V ∧ Tab V) ∧ rsN v V ∧ rsN u V) (fun _ => True) wr)) (fun jv _ => nv - (intOf jv).toNat)
          case atStart => exact ⟨0, rfl, Nat.zero_le _, HE⟩
          case round =>
           clear HE c
           obtain ⟨j, rfl, hj, HE⟩ := hrel
           have c := Env.c2 HE.out
           by_cases hlj : j < nv
           ·have hjl : j < v.l.length := by rw [← Hnv.out]; exact hlj
            have c0 := HE.out.o.2.1.rc j hjl
            have HRJ := Lib.hid (fun (V : World) (h : rsN v V) => (show RatN (v.l[j]).1 (v.l[j]).2 V from LsR.ok h _ (List.getElem_mem hjl)))
            have Hmq := Lib.hid (show (v.l[j]).2 ∈ outQ f xs f.las.length from by rw [← HQ.out]; exact List.mem_map_of_mem (f := Prod.snd) (List.getElem_mem hjl))
            obtain ⟨y, hy⟩ : ∃ y, y = v.l[j] := ⟨_, rfl⟩
            rw [← hy] at c0 HRJ Hmq
            clear hy hjl
            go_wp2_with fail
            refine (rsign_any _ y.1 y.2 5000 (by decide) (RatN.rat (HRJ.out _ HE.out.o.2.1) (HOX.out.2.1 _ Hmq.out))).mono ?_
            rintro e wq ⟨rfl, hb⟩
            obtain ⟨s, hs⟩ : ∃ s, s = y.2.num.sign := ⟨_, rfl⟩
            have hs0 : ¬ s < 0 := by have h9 := HR3.out _ Hmq.out; rw [hs]; omega
            rw [← hs]
            replace HE := Lib.hid (Env.call HE.out hb)
            clear hb hs c0
            go_wp2_with fail
            go_roundw
            case rel => exact ⟨j + 1, by go_num, by omega, HE⟩
            case measure => (simp [intOf] <;> omega)
           ·obtain rfl : j = nv := by omega
            clear hlj hj
            go_wp2_with fail
            rw [Hnv.out]
            refine (run_n HS.out HE.out.o.1.2.2.2.2.2.1 HE.out.o.1.1 HE.out.o.1.2.1 HE.out.o.1.2.2.1 Hx.out Hn.out).mono ?_
            rintro e w2 (⟨err2, rfl, hE, -⟩ | ⟨-, -, z, rfl, hq, hr, hb⟩)
            ·exact (ErrP.no hE HN.out Hi.out).elim
            ·have HQ3 := Lib.hid hq
             replace HE := Lib.hid (Env.ret HE.out hr hb)
             clear hq hr hb
             have HO9 := Lib.hid (out_ok HS.out HN.out Hi.out f.las.length (Nat.le_refl _))
             have hz9 : z.q.length = z.l.length := List.length_map ..
             have Hz9 := Lib.hid (show z.l.length ≤ 1000000 from by rw [← hz9, HQ3.out]; have := HO9.out.1; omega)
             clear hz9
             go_wp2_with fail
             refine (rats_say _ z v HE.out.n.1 HE.out.o.2.1 (by rw [HQ3.out, HQ.out]) Hz9.out (by rw [HQ3.out]; exact HO9.out.2.1)).mono ?_
             rintro e wq ⟨rfl, hb⟩
             replace HE := Lib.hid (Env.call HE.out hb)
             clear hb
             go_wp2_with fail
             refine (awake13_any _ HE.out.o.1.2.2.2.2.2.1 HE.out.o.1.2.2.2.2.2.2).mono ?_
             rintro e w9 ⟨rfl, hb⟩
             replace HE := Lib.hid (Env.call HE.out hb)
             clear hb
             go_wp2_with fail
             exact bodyPost_ret (v := .bool true) (by simp [results, Tryz.results3, go_sem]) rfl ⟨rfl, HE.out.bel⟩
         ·have e3 : (p.kind == 3) = false := by simp [k3]
          clear HRN k3
          go_wp2_with fail
          refine (run_n HS.out HE.out.o.1.2.2.2.2.2.1 HE.out.o.1.1 HE.out.o.1.2.1 HE.out.o.1.2.2.1 Hx.out Hn.out).mono ?_
          rintro e w2 (⟨err2, rfl, hE, -⟩ | ⟨-, -, z, rfl, hq, hr, hb⟩)
          ·exact (ErrP.no hE HN.out Hi.out).elim
          ·have HQ3 := Lib.hid hq
           replace HE := Lib.hid (Env.ret HE.out hr hb)
           clear hq hr hb
           have HO9 := Lib.hid (out_ok HS.out HN.out Hi.out f.las.length (Nat.le_refl _))
           have hz9 : z.q.length = z.l.length := List.length_map ..
           have Hz9 := Lib.hid (show z.l.length ≤ 1000000 from by rw [← hz9, HQ3.out]; have := HO9.out.1; omega)
           clear hz9
           go_wp2_with fail
           refine (rats_say _ z v HE.out.n.1 HE.out.o.2.1 (by rw [HQ3.out, HQ.out]) Hz9.out (by rw [HQ3.out]; exact HO9.out.2.1)).mono ?_
           rintro e wq ⟨rfl, hb⟩
           replace HE := Lib.hid (Env.call HE.out hb)
           clear hb
           go_wp2_with fail
           refine (awake13_any _ HE.out.o.1.2.2.2.2.2.1 HE.out.o.1.2.2.2.2.2.2).mono ?_
           rintro e w9 ⟨rfl, hb⟩
           replace HE := Lib.hid (Env.call HE.out hb)
           clear hb
           go_wp2_with fail
           exact bodyPost_ret (v := .bool true) (by simp [results, Tryz.results3, go_sem]) rfl ⟨rfl, HE.out.bel⟩
theorem netMixes_any (w : World) (n : Nat) (f : NeV) (h : NeD n f w) (hm : ∀ l ∈ f.las, LaM l) (hml : f.las.length ≤ 9223372036854775807 ∧ f.las.length ≤ f.c) (Ax : Option Addr) (cx : Nat) (xs : List (RV × Rat)) (hx : LsR 4 rtcells (roD 9223372036854775807) Ax xs w) (hxl : xs.length ≤ 9223372036854775807) (Ay : Option Addr) (cy : Nat) (ys : List (RV × Rat)) (hy : LsR 4 rtcells (roD 9223372036854775807) Ay ys w) (hyl : ys.length ≤ 9223372036854775807) (ra : RV × Rat) (ha : roD 9223372036854775807 ra w) (hT : Tz w) (ht : Tab w) : Calls Tryz.prog 3 #[.agg #[.int .i64 f.inputs, .slice f.A f.las.length f.c], .slice Ax xs.length cx, .slice Ay ys.length cy, .agg #[.bool ra.1.num.neg, .slice ra.1.num.A ra.1.num.k ra.1.num.c, .bool ra.1.den.neg, .slice ra.1.den.A ra.1.den.k ra.1.den.c]] w fun e w' => e = .returned (.bool true) ∧ Below w.heap.size w w' := netMixes_all w _ _ f h hm hml.1 hT ht _ rfl Ax cx xs _ hx rfl hxl Ay cy ys _ hy rfl hyl ra ha
end Go.Proofs.YtplhmeiciiajcaaGreatDoor
