/-
 sparse.Of of up to 1000 numbers. net.stage.relu. net.stage.affine. net.stage.spot. net.stage.conv. net.stage.pool.
-/
import Derived.Test.YtplhmeiciiajcaaGreatDoorNO
import Derived.Test.YtplhmeiciiajcaaGreatDoorV18
import Derived.Test.YtplhmeiciiajcaaGreatDoorMD
namespace Go.Proofs.YtplhmeiciiajcaaGreatDoor
set_option maxHeartbeats 16000000
open Go.RowKit

set_option maxRecDepth 100000 in
theorem of2_any (w : World) (n : Nat) (hn : n ≤ 100000) (h1n : 1 ≤ n) (A : Option Addr) (c : Nat) (ps : List (RV × Rat)) (h : LsR 4 rtcells (roD n) A ps w) (h20 : ps.length ≤ 1000) (hT : Tz w) :
 Calls Tryz.prog 122 #[.slice A ps.length c] w (RetVec (((ofT ps).map plq).filter nzP) w) := by
 have sl1 := h.sl
 have hsz1 := size_terms
 have hsz4 := size_rats
 have hadd := adr_add
 have HO := Lib.hid ((h.old roD_old).and hT.old)
 obtain ⟨i0, hi0, hz0, hz1, hz2⟩ := info_parts info_term
 have Hi0 := Lib.hid hi0
 have Hz0 := Lib.hid hz0
 have Hz1 := Lib.hid hz1
 have Hz2 := Lib.hid (show i0.bytes * ps.length ≤ 281474976710656 by rw [hz2]; omega)
 have Hm := Lib.hid (show ps.length ≤ maxLen by simp [maxLen]; omega)
 clear h hT hi0 hz0 hz1 hz2
 go_enter Tryz.func122, Tryz.ntmps122
 go_wp2_with (at_make; refine wpList_make_full _ rfl (.tmp 7) (.tmp 7) 88 rfl w.heap.size 86 i0 termZ 5 under_terms Hi0.out Hz0.out Hz1.out .i64 .i64 _ _ ps.length rfl rfl rfl rfl Hz2.out Hm.out (Nat.le_refl _) ?_; intro w1 hown hgrow)
 have ho : OwnE w1 w.heap.size 86 5 (.slice (some ⟨w.heap.size, 0, none⟩) ps.length ps.length) (zcs ps 0) := by
  refine ⟨fun c hc => ?_, ?_⟩
  ·unfold zcs at hc
   rw [List.take_zero, List.map_nil, List.nil_append] at hc
   rw [List.eq_of_mem_replicate hc]; rfl
  ·rw [zcs_len ps 0 (Nat.zero_le _)]
   have e : zcs ps 0 = List.replicate ps.length tzc := by unfold zcs; simp
   rw [e, ← made_flat]
   exact hown
 obtain ⟨B, hB⟩ : ∃ B : Option Addr, B = some ⟨w.heap.size, 0, none⟩ := ⟨_, rfl⟩
 rw [← hB] at ho ⊢
 have HG := Lib.hid (GL.mk0 ho HO.out ((Below.refl _ w).grown hgrow (Nat.le_refl _) (fun b hb => by cases hb)))
 have HB := Lib.hid hB
 have slB : Sl B ps.length := by rw [hB]; exact Sl.some_ _ _ _
 clear hown hgrow ho hB Hi0 Hz0 Hz1 Hz2 Hm HO
 go_wp2_with fail
 go_loopw [11] (fun iv wr => ∃ i : Nat, iv = .int .i64 (i : Int) ∧ i ≤ ps.length ∧ Hid (GL w [⟨86, 5, .slice B ps.length ps.length, zcs ps i⟩] (fun V => LsR 4 rtcells (roD n) A ps V ∧ Tz V) (fun _ => True) wr)) (fun iv _ => ps.length - (intOf iv).toNat)
 case atStart => exact ⟨0, rfl, Nat.zero_le _, HG⟩
 case round =>
  clear HG
  obtain ⟨i, rfl, hi, HG⟩ := hrel
  by_cases hlt : i < ps.length
  ·have HE := Lib.hid HG.out.env
   have c0 := HE.out.o.1.1.rc i hlt
   have Hset := Lib.hid (zcs_set ps i hlt)
   obtain ⟨p, hp⟩ : ∃ p, p = ps[i] := ⟨_, rfl⟩
   rw [← hp] at c0 Hset
   clear hp
   go_upto_region 5 with fail
   obtain ⟨W2, gt, hW2, hgt, HE⟩ := Env.al HE.out 30 #[.bool p.1.num.neg, .slice p.1.num.A p.1.num.k p.1.num.c, .bool p.1.den.neg, .slice p.1.den.A p.1.den.k p.1.den.c]
   rw [hW2, hgt]
   clear hW2 hgt c0
   have c1 := Env.c1 HE.out
   have HOw := Lib.hid ((show OwnE wr w.heap.size 86 5 (.slice B ps.length ps.length) (zcs ps i) from HG.out.own _ (List.mem_cons_self ..)).below HE.out.bel)
   have hic : i < (zcs ps i).length := by rw [zcs_len ps i hi]; exact hlt
   obtain ⟨x0, x1, x2, x3, x4, hx⟩ := arr5 (zcs ps i)[i] (HOw.out.1 _ (List.getElem_mem hic))
   have c5 : W2.cell? (adr B (i * 5)) = some x0 ∧ W2.cell? (adr B (i * 5 + 1)) = some x1 ∧ W2.cell? (adr B (i * 5 + 2)) = some x2 ∧ W2.cell? (adr B (i * 5 + 3)) = some x3 ∧ W2.cell? (adr B (i * 5 + 4)) = some x4 := by
    have hcc := HOw.out.el.1.cell i hic
    rw [hx] at hcc
    exact ⟨hcc 0 (by decide), hcc 1 (by decide), hcc 2 (by decide), hcc 3 (by decide), hcc 4 (by decide)⟩
   have f5 := fun k => HOw.out.free HB.out k
   have HGp := Lib.hid (GL.put5 HB.out HG.out HE.out i hic (.int .i64 i) (.bool p.1.num.neg) (.slice p.1.num.A p.1.num.k p.1.num.c) (.bool p.1.den.neg) (.slice p.1.den.A p.1.den.k p.1.den.c))
   clear hx
   have hA := HB.out
   subst hA
   have hGp := HGp.out
   have h6 := Hset.out
   unfold tecells at h6
   simp only at h6
   rw [h6] at hGp
   simp only [adr_some, Nat.zero_add] at c5 f5 hGp
   replace HGp := Lib.hid hGp
   have hadr : ∀ j, adr (some ⟨w.heap.size, 0, none⟩) j = ⟨w.heap.size, j, none⟩ := fun j => by rw [adr_some, Nat.zero_add]
   clear hGp hadd h6
   go_upto_region 6 with fail
   revert HGp
   generalize (World.setCell (World.setCell (World.setCell (World.setCell (World.setCell W2 _ _) _ _) _ _) _ _) _ _) = W5
   intro HGp
   clear c5 f5 c1
   go_wp2_with fail
   go_roundw
   case rel => exact ⟨i + 1, by go_num, by omega, Lib.hid (HGp.out.imp (fun _ h => h) (fun _ _ => trivial))⟩
   case measure => (simp [intOf] <;> omega)
  ·obtain rfl : i = ps.length := by omega
   have hg := HG.out
   rw [zcs_end] at hg
   have HL := Lib.hid (show LsR 5 tecells (teD n) B (ofT ps) wr from ⟨(show OwnE wr w.heap.size 86 5 (.slice B ps.length ps.length) ((ofT ps).map tecells) from hg.own _ (List.mem_cons_self ..)).el.1, fun t ht => by
    obtain ⟨x, hx, rfl⟩ := List.mem_map.1 ht
    obtain ⟨j, hj, e⟩ := List.mem_iff_getElem.1 hx
    have hj' : j < ps.length := by simpa using hj
    have e2 : x.1 = ps[j] := by rw [← e]; simp
    show RatD x.1.1 x.1.2 n wr
    rw [e2]
    exact hg.o.1.ok _ (List.getElem_mem hj')⟩)
   have HTz := Lib.hid hg.o.2
   have Hbel := Lib.hid hg.bel
   clear hg HG
   go_wp2_with fail
   refine (show Calls Tryz.prog 167 #[.slice B ps.length ps.length] wr _ from by have := norm2_rise wr n hn h1n B ps.length (ofT ps) HL.out (by rw [ofT_len]; exact h20) (ofT_rise ps) HTz.out; rw [ofT_len] at this; exact this).mono ?_
   intro e w9 hret
   have Hret := Lib.hid (hret.up Hbel.out)
   obtain ⟨Ap, cp, ts, rfl, hc, hm, hr, hb⟩ := hret
   clear hc hm hr hb
   go_wp2_with fail
   go_ret
   exact Hret.out

structure SetI (F : Nat → Rat) (n i : Nat) (os : List (RV × Rat)) : Prop where
 n : os.length = n
 q : ∀ j (h : j < os.length), j < i → os[j].2 = F j
theorem SetI.start (F : Nat → Rat) (n : Nat) : SetI F n 0 (zerosX n) := ⟨by simp [zerosX], fun j _ h => absurd h (Nat.not_lt_zero _)⟩
theorem SetI.next {F : Nat → Rat} {n i : Nat} {os : List (RV × Rat)} (h : SetI F n i os) {p : RV × Rat} (hp : p.2 = F i) : SetI F n (i + 1) (os.set i p) := by
 refine ⟨by rw [List.length_set]; exact h.n, fun j hj hlt => ?_⟩
 rw [List.length_set] at hj
 rw [List.getElem_set]
 by_cases e : i = j
 ·subst e; rw [if_pos rfl]; exact hp
 ·rw [if_neg e]; exact h.q j hj (by omega)
theorem SetI.done {F : Nat → Rat} {n : Nat} {os : List (RV × Rat)} (h : SetI F n n os) : os.map Prod.snd = (List.range n).map F := by
 refine List.ext_getElem (by simp [h.n]) fun j h1 h2 => ?_
 rw [List.getElem_map, List.getElem_map, List.getElem_range]
 rw [List.length_map] at h1
 exact h.q j h1 (by rw [← h.n]; exact h1)
theorem roN_zeros (n : Nat) (V : World) : ∀ p ∈ zerosX n, roN p V := fun p hp => by
 unfold zerosX at hp
 rw [List.eq_of_mem_replicate hp]
 exact zeroRN V
theorem all_set8 {α : Type} {P : α → Prop} {l : List α} {i : Nat} {x : α} (h : ∀ y ∈ l, P y) (hx : P x) : ∀ y ∈ l.set i x, P y := all_set9 h hx
set_option maxRecDepth 100000 in
theorem relu_any (w : World) (l : LaV) (nr nb nk ng : Nat) (N : Nat) (hN : N ≤ 400000000000) (h1N : 1 ≤ N) (Ax : Option Addr) (cx : Nat) (xs : List (RV × Rat)) (hx : LsR 4 rtcells (roD N) Ax xs w) (nx : Nat) (hnx : nx = xs.length) (hnl : nx ≤ 100000) (hT : Tz w) : Calls Tryz.prog 77 #[.agg #[.int .u8 l.kind, .slice l.Ar nr l.cr, .slice l.Ab nb l.cb, .int .i64 l.ch, .int .i64 l.high, .int .i64 l.wide, .int .i64 l.out, .int .i64 l.kh, .int .i64 l.kw, .int .i64 l.st, .int .i64 l.pad, .slice l.Ak nk l.ck, .slice l.Ag ng l.cg, .slice Ax nx cx]] w (CpRes 4 (rtcells : RV × Rat → Array Value) roN Prod.snd ((List.range xs.length).map (fun j => maxQ ((xs.map Prod.snd)[j]?.getD 0) 0)) w) := by
 have slx := hx.sl
 rw [← hnx] at slx
 have szr := size_rats
 have hadd := adr_add
 have Hn := Lib.hid hnx
 have hnb : nx ≤ 100000 := hnl
 obtain ⟨W0, hW0⟩ : ∃ W0, W0 = (w.alloc (.cells #[.int .u8 l.kind, .slice l.Ar nr l.cr, .slice l.Ab nb l.cb, .int .i64 l.ch, .int .i64 l.high, .int .i64 l.wide, .int .i64 l.out, .int .i64 l.kh, .int .i64 l.kw, .int .i64 l.st, .int .i64 l.pad, .slice l.Ak nk l.ck, .slice l.Ag ng l.cg, .slice Ax nx cx] 104)) := ⟨_, rfl⟩
 have HE := Lib.hid (Env.lay1 (Env.start (((hx.old roD_old)).and (hT.old))) hW0)
 subst hW0
 have c := Env.c1 HE.out
 clear hx hT hnx hnl
 go_enter Tryz.func77, Tryz.ntmps77
 go_wp2_with fail
 have HG := Lib.hid (GL.start HE.out)
 clear HE
 rw [make_rats99 _ nx (by omega)]
 obtain ⟨W4, gx, hW4, hgx, HG2⟩ := HG.out.al4 nx (by omega)
 rw [hW4, hgx]
 clear hW4 hgx HG c
 obtain ⟨Ao, hAo⟩ : ∃ A : Option Addr, A = some ⟨gx, 0, none⟩ := ⟨_, rfl⟩
 rw [← hAo] at HG2 ⊢
 have HAo := Lib.hid hAo
 have slo : Sl Ao nx := by rw [hAo]; exact Sl.some_ _ _ _
 clear hAo
 have HG := Lib.hid (show GL w (⟨30, 4, .slice Ao nx nx, List.map rtcells (zerosX nx)⟩ :: []) (fun V => (∀ b ∈ [(⟨w.heap.size, 104, #[.int .u8 l.kind, .slice l.Ar nr l.cr, .slice l.Ab nb l.cb, .int .i64 l.ch, .int .i64 l.high, .int .i64 l.wide, .int .i64 l.out, .int .i64 l.kh, .int .i64 l.kw, .int .i64 l.st, .int .i64 l.pad, .slice l.Ak nk l.ck, .slice l.Ag ng l.cg, .slice Ax nx cx]⟩ : Bo)], Blk V b.g b.t b.cs) ∧ LsR 4 rtcells (roD N) Ax xs V ∧ Tz V) (fun V => ∀ zp ∈ (zerosX nx), roN zp V) _ from HG2.out.imp (fun _ h => h) (fun V _ => roN_zeros nx V))
 clear HG2
 have c := Blk.cb (HG.out.o.1 _ (List.mem_singleton_self _))
 go_upto_region 3 with fail
 clear c
 go_loopw [13] (fun iv wr => ∃ (i : Nat) (os : List (RV × Rat)), iv = .int .i64 (i : Int) ∧ i ≤ nx ∧ Hid (SetI (fun j => maxQ ((xs.map Prod.snd)[j]?.getD 0) 0) nx i os) ∧ Hid (GL w (⟨30, 4, .slice Ao nx nx, List.map rtcells os⟩ :: []) (fun V => (∀ b ∈ [(⟨w.heap.size, 104, #[.int .u8 l.kind, .slice l.Ar nr l.cr, .slice l.Ab nb l.cb, .int .i64 l.ch, .int .i64 l.high, .int .i64 l.wide, .int .i64 l.out, .int .i64 l.kh, .int .i64 l.kw, .int .i64 l.st, .int .i64 l.pad, .slice l.Ak nk l.ck, .slice l.Ag ng l.cg, .slice Ax nx cx]⟩ : Bo)], Blk V b.g b.t b.cs) ∧ LsR 4 rtcells (roD N) Ax xs V ∧ Tz V) (fun V => ∀ zp ∈ os, roN zp V) wr)) (fun iv _ => nx - (intOf iv).toNat)
 case atStart => exact ⟨0, zerosX nx, rfl, Nat.zero_le _, Lib.hid (SetI.start _ _), HG⟩
 case round =>
  clear HG
  obtain ⟨i, os, rfl, hi, HI, HG⟩ := hrel
  by_cases hlt : i < nx
  ·have hlx : i < xs.length := by rw [← Hn.out]; exact hlt
   have hlo : i < os.length := by rw [HI.out.n]; exact hlt
   have c0 := HG.out.o.2.1.rc i hlx
   have HF := Lib.hid (show maxQ (xs[i]).2 0 = (fun j => maxQ ((xs.map Prod.snd)[j]?.getD 0) 0) i from by simp [hlx])
   have HD := Lib.hid (show ∀ V, LsR 4 rtcells (roD N) Ax xs V → RatD (xs[i]).1 (xs[i]).2 N V from fun V h => h.ok _ (List.getElem_mem hlx))
   obtain ⟨p, hp⟩ : ∃ p, p = xs[i] := ⟨_, rfl⟩
   rw [← hp] at c0 HF HD
   clear hp
   dsimp only [RC] at c0
   go_upto_region 5 with fail
   obtain ⟨W5, gp, hW5, hgp, HG2⟩ := HG.out.al 30 #[.bool p.1.num.neg, .slice p.1.num.A p.1.num.k p.1.num.c, .bool p.1.den.neg, .slice p.1.den.A p.1.den.k p.1.den.c]
   rw [hW5, hgp]
   clear hW5 hgp HG c0
   have HG := HG2
   clear HG2
   have c5 := Blk.cb HG.out.n.1
   go_wp2_with fail
   refine (rmax_any _ p.1 zeroR p.2 0 N hN h1N (HD.out _ HG.out.o.2.1) (RatD.zero_ _ N) HG.out.o.2.2).mono ?_
   rintro e wq ⟨r, rfl, hk9, hb9⟩
   rw [HF.out] at hk9
   replace HG := Lib.hid (HG.out.call hk9 hb9)
   clear hk9 hb9 c5
   have fr := HG.out.free HAo.out (k := 0) rfl
   have rcx := HG.out.rc (k := 0) rfl hlo
   have hadd2 : ∀ (n j : Nat), (⟨(adr Ao n).block, (adr Ao n).off + j, none⟩ : Addr) = adr Ao (n + j) := fun n j => by unfold adr; simp [Nat.add_assoc]
   have hs01 := cell_ne9 Ao (show i * 4 ≠ i * 4 + 1 by omega)
   have hs02 := cell_ne9 Ao (show i * 4 ≠ i * 4 + 2 by omega)
   have hs03 := cell_ne9 Ao (show i * 4 ≠ i * 4 + 3 by omega)
   have hs12 := cell_ne9 Ao (show i * 4 + 1 ≠ i * 4 + 2 by omega)
   have hs13 := cell_ne9 Ao (show i * 4 + 1 ≠ i * 4 + 3 by omega)
   have hs23 := cell_ne9 Ao (show i * 4 + 2 ≠ i * 4 + 3 by omega)
   go_upto_region 6 with fail
   have HG5 := HG.out.putR HAo.out (k := 0) rfl hlo r ((fun j => maxQ ((xs.map Prod.snd)[j]?.getD 0) 0) i)
   obtain ⟨W9, hW9⟩ : ∃ W', ((((World.setCell wq (adr Ao (i * 4)) (.bool r.num.neg)).setCell (adr Ao (i * 4 + 1)) (.slice r.num.A r.num.k r.num.c)).setCell (adr Ao (i * 4 + 2)) (.bool r.den.neg)).setCell (adr Ao (i * 4 + 3)) (.slice r.den.A r.den.k r.den.c)) = W' := ⟨_, rfl⟩
   rw [hW9] at HG5 ⊢
   replace HG := Lib.hid HG5
   clear HG5 hW9 rcx fr hadd2 hs01 hs02 hs03 hs12 hs13 hs23
   go_wp2_with fail
   go_roundw
   case rel => exact ⟨i + 1, os.set i (r, (fun j => maxQ ((xs.map Prod.snd)[j]?.getD 0) 0) i), by go_num, by omega, Lib.hid (HI.out.next rfl), Lib.hid (HG.out.imp (fun _ h => h) (fun V h => all_set8 (P := fun p => roN p V) h.2.2 h.1))⟩
   case measure => (simp [intOf] <;> omega)
  ·obtain rfl : i = nx := by omega
   have hol := HI.out.n
   have hr := HG.out.els9 (k := 0) rfl
   go_wp2_with fail
   go_ret
   exact ⟨Ao, i, os, (by show Ending.returned (Value.slice Ao i i) = _; rw [hol]), by omega, by rw [HI.out.done, ← Hn.out], (hr.and (HG.out.rsn.mono fun _ h => h.1)).imp fun V h => ⟨h.1, h.2⟩, HG.out.bel⟩

def vecQ (xs : List (RV × Rat)) : List (Int × Rat) := ((ofT xs).map plq).filter nzP
theorem vecQ_sz {xs : List (RV × Rat)} {N : Nat} (h : ∀ p ∈ xs, Sz p.2 N) : ∀ p ∈ vecQ xs, Sz p.2 N := fun p hp => by
 obtain ⟨t, ht, rfl⟩ := List.mem_map.1 (List.mem_filter.1 hp).1
 unfold ofT at ht
 obtain ⟨x, hx, rfl⟩ := List.mem_map.1 ht
 obtain ⟨j, hj, e⟩ := List.mem_iff_getElem.1 hx
 have hj' : j < xs.length := by simpa using hj
 have e2 : x.1 = xs[j] := by rw [← e]; simp
 show Sz x.1.2 N
 rw [e2]
 exact h _ (List.getElem_mem hj')
theorem vec_rise {us : List TeV} {xs : List (RV × Rat)} (h : us.map plq = vecQ xs) : Rise us := by
 have h1 : (vecQ xs).Pairwise fun p q => p.1 < q.1 := List.Pairwise.filter _ (List.pairwise_map.2 (ofT_rise xs))
 rw [← h] at h1
 exact (List.pairwise_map (f := plq) (R := fun p q : Int × Rat => p.1 < q.1)).1 h1
def affP (rows : List VeV) (bias : List (RV × Rat)) (xs : List (RV × Rat)) (i : Nat) : Rat := dotQ (((rows[i]?.map fun v => v.ts.map plq)).getD []) (vecQ xs) + ((bias[i]?.map Prod.snd).getD 0)
set_option maxRecDepth 100000 in
theorem naff_any (w : World) (n N : Nat) (hnN : n ≤ N) (hN : N ≤ 100000) (h1N : 1 ≤ N) (l : LaV) (h : LaD n l w) (nr nb nk ng : Nat) (hnr : nr = l.rows.length) (hnb : nb = l.bias.length) (hrb2 : nr = nb) (hnrl : nr ≤ 100000) (hri : ∀ v ∈ l.rows, Rise v.ts ∧ v.ts.length ≤ 100) (Ax : Option Addr) (cx : Nat) (xs : List (RV × Rat)) (hx : LsR 4 rtcells (roD N) Ax xs w) (nx : Nat) (hnx : nx = xs.length) (hx1 : xs.length ≤ 1000) (hs : ∀ i (hi : i < l.rows.length), Sz (dotQ ((l.rows[i]).ts.map plq) (vecQ xs)) N) (hT : Tz w) : Calls Tryz.prog 78 #[.agg #[.int .u8 l.kind, .slice l.Ar nr l.cr, .slice l.Ab nb l.cb, .int .i64 l.ch, .int .i64 l.high, .int .i64 l.wide, .int .i64 l.out, .int .i64 l.kh, .int .i64 l.kw, .int .i64 l.st, .int .i64 l.pad, .slice l.Ak nk l.ck, .slice l.Ag ng l.cg, .slice Ax nx cx]] w (CpRes 4 (rtcells : RV × Rat → Array Value) roN Prod.snd ((List.range l.rows.length).map (affP l.rows l.bias xs)) w) := by
 have Hrb := Lib.hid hrb2
 clear hrb2
 have slr := h.rows.sl
 rw [← hnr] at slr
 have slb := h.bias.sl
 rw [← hnb] at slb
 have szc := size_cols
 have szr := size_rats
 have hadd := adr_add
 have Hr := Lib.hid hnr
 have Hb := Lib.hid hnb
 have Hn := Lib.hid hnx
 have hrb : nr ≤ 100000 := hnrl
 have Hx := Lib.hid hx
 have HXS := Lib.hid (show ∀ p ∈ xs, Sz p.2 N from fun p hp => RatD.sz (show RatD p.1 p.2 N w from hx.ok p hp) h1N)
 obtain ⟨W0, hW0⟩ : ∃ W0, W0 = (w.alloc (.cells #[.int .u8 l.kind, .slice l.Ar nr l.cr, .slice l.Ab nb l.cb, .int .i64 l.ch, .int .i64 l.high, .int .i64 l.wide, .int .i64 l.out, .int .i64 l.kh, .int .i64 l.kw, .int .i64 l.st, .int .i64 l.pad, .slice l.Ak nk l.ck, .slice l.Ag ng l.cg, .slice Ax nx cx] 104)) := ⟨_, rfl⟩
 have HE := Lib.hid (Env.lay1 (Env.start (((LaD.old l w h)).and (((hx.old roD_old)).and (hT.old)))) hW0)
 subst hW0
 have c := Env.c1 HE.out
 clear h hx hT hnx hnr hnb hnrl
 go_enter Tryz.func78, Tryz.ntmps78
 go_wp2_with fail
 refine (show Calls Tryz.prog 122 #[.slice Ax nx cx] _ _ from by have h9 := of2_any _ N hN h1N Ax cx xs HE.out.o.2.1 hx1 HE.out.o.2.2; rw [← Hn.out] at h9; exact h9).mono ?_
 rintro e w1 ⟨A2, c2, us, rfl, -, hm, hk9, hb9⟩
 have HU := Lib.hid (show us.map plq = vecQ xs from hm)
 replace HE := Lib.hid (Env.ret HE.out hk9 hb9)
 clear hm hk9 hb9
 replace c := Env.c1 HE.out
 go_wp2_with fail
 have HG := Lib.hid (GL.start HE.out)
 clear HE
 rw [make_rats99 _ nr (by omega)]
 obtain ⟨W4, gx, hW4, hgx, HG2⟩ := HG.out.al4 nr (by omega)
 rw [hW4, hgx]
 clear hW4 hgx HG c
 obtain ⟨Ao, hAo⟩ : ∃ A : Option Addr, A = some ⟨gx, 0, none⟩ := ⟨_, rfl⟩
 rw [← hAo] at HG2 ⊢
 have HAo := Lib.hid hAo
 have slo : Sl Ao nr := by rw [hAo]; exact Sl.some_ _ _ _
 clear hAo
 have HG := Lib.hid (show GL w (⟨30, 4, .slice Ao nr nr, List.map rtcells (zerosX nr)⟩ :: []) (fun V => (∀ b ∈ [(⟨w.heap.size, 104, #[.int .u8 l.kind, .slice l.Ar nr l.cr, .slice l.Ab nb l.cb, .int .i64 l.ch, .int .i64 l.high, .int .i64 l.wide, .int .i64 l.out, .int .i64 l.kh, .int .i64 l.kw, .int .i64 l.st, .int .i64 l.pad, .slice l.Ak nk l.ck, .slice l.Ag ng l.cg, .slice Ax nx cx]⟩ : Bo)], Blk V b.g b.t b.cs) ∧ LaD n l V ∧ LsR 4 rtcells (roD N) Ax xs V ∧ Tz V) (fun V => (∀ zp ∈ (zerosX nr), roN zp V) ∧ LsR 5 tecells teN A2 us V) _ from HG2.out.imp (fun _ h => h) (fun V h => ⟨roN_zeros nr V, h.1⟩))
 clear HG2
 have c := Blk.cb (HG.out.o.1 _ (List.mem_singleton_self _))
 go_upto_region 4 with fail
 clear c
 go_loopw [19] (fun iv wr => ∃ (i : Nat) (os : List (RV × Rat)), iv = .int .i64 (i : Int) ∧ i ≤ nr ∧ Hid (SetI (affP l.rows l.bias xs) nr i os) ∧ Hid (GL w (⟨30, 4, .slice Ao nr nr, List.map rtcells os⟩ :: []) (fun V => (∀ b ∈ [(⟨w.heap.size, 104, #[.int .u8 l.kind, .slice l.Ar nr l.cr, .slice l.Ab nb l.cb, .int .i64 l.ch, .int .i64 l.high, .int .i64 l.wide, .int .i64 l.out, .int .i64 l.kh, .int .i64 l.kw, .int .i64 l.st, .int .i64 l.pad, .slice l.Ak nk l.ck, .slice l.Ag ng l.cg, .slice Ax nx cx]⟩ : Bo)], Blk V b.g b.t b.cs) ∧ LaD n l V ∧ LsR 4 rtcells (roD N) Ax xs V ∧ Tz V) (fun V => (∀ zp ∈ os, roN zp V) ∧ LsR 5 tecells teN A2 us V) wr)) (fun iv _ => nr - (intOf iv).toNat)
 case atStart => exact ⟨0, zerosX nr, rfl, Nat.zero_le _, Lib.hid (SetI.start _ _), HG⟩
 case round =>
  clear HG
  obtain ⟨i, os, rfl, hi, HI, HG⟩ := hrel
  by_cases hlt : i < nr
  ·have hlr : i < l.rows.length := by rw [← Hr.out]; exact hlt
   have hlb : i < nb := by rw [← Hrb.out]; exact hlt
   have hlb2 : i < l.bias.length := by rw [← Hb.out]; exact hlb
   have hlo : i < os.length := by rw [HI.out.n]; exact hlt
   have c0 := HG.out.o.2.1.rows.vc i hlr
   have HF := Lib.hid (show dotQ ((l.rows[i]).ts.map plq) (vecQ xs) + (l.bias[i]).2 = (affP l.rows l.bias xs) i from by unfold affP; simp [hlr, hlb2])
   have HSD := Lib.hid (hs i hlr)
   have HRD := Lib.hid (show ∀ V, LaD n l V → LsR 5 tecells (teD n) (l.rows[i]).A (l.rows[i]).ts V from fun V h => h.rows.ok _ (List.getElem_mem hlr))
   have HRI := Lib.hid (hri _ (List.getElem_mem hlr))
   have HBC := Lib.hid (show ∀ V, LaD n l V → RC l.Ab i (l.bias[i]) V from fun V h => h.bias.rc i hlb2)
   have HBD := Lib.hid (show ∀ V, LaD n l V → RatD (l.bias[i]).1 (l.bias[i]).2 n V from fun V h => h.bias.ok _ (List.getElem_mem hlb2))
   obtain ⟨p, hp⟩ : ∃ p, p = l.bias[i] := ⟨_, rfl⟩
   obtain ⟨v, hv⟩ : ∃ v, v = l.rows[i] := ⟨_, rfl⟩
   rw [← hp] at HF HBC HBD
   rw [← hv] at c0 HF HSD HRD HRI
   clear hp hv
   go_upto_region 6 with fail
   clear c0
   refine wp_region_noPanic ?_
   refine wp_region_G 13 (fun V => CB (w.heap.size) #[.int .u8 l.kind, .slice l.Ar nr l.cr, .slice l.Ab nb l.cb, .int .i64 l.ch, .int .i64 l.high, .int .i64 l.wide, .int .i64 l.out, .int .i64 l.kh, .int .i64 l.kw, .int .i64 l.st, .int .i64 l.pad, .slice l.Ak nk l.ck, .slice l.Ag ng l.cg, .slice Ax nx cx] V ∧ RC l.Ab i p V) (by kernel_rfl) (by with_reducible first | exact ⟨Blk.cb (HG.out.o.1 _ (List.mem_singleton_self _)), HBC.out _ HG.out.o.2.1⟩ | exact ⟨Blk.cb (HG.out.drew.o.1 _ (List.mem_singleton_self _)), HBC.out _ HG.out.drew.o.2.1⟩) (fun hHeld => ?_)
   replace HG := Lib.hid HG.out.drew
   refine gTa 0 24 hHeld ?_
   refine gTa 1 25 hHeld ?_
   refine gTa 2 26 hHeld ?_
   refine gTa 3 27 hHeld ?_
   refine gTa 5 29 hHeld ?_
   refine gTa 6 30 hHeld ?_
   refine gTa 7 31 hHeld ?_
   refine gTa 8 32 hHeld ?_
   refine gTa 9 33 hHeld ?_
   refine gTa 10 34 hHeld ?_
   refine gC 4 rfl (by kernel_rfl) (by rfl) (fun K hK => ?_)
   clear hHeld
   simp only [q1, q2, q3]
   go_simp
   refine (dot_rise _ N hN h1N v.A A2 v.c c2 v.ts us (show LsR 5 tecells (teD N) v.A v.ts _ from LsR.imp (HRD.out _ HG.out.o.2.1) fun t _ h => RatD.mono h hnN) (show LsR 5 tecells (teD N) A2 us _ from LsR.imp HG.out.n.2 fun t ht h => RatN.rat h (vecQ_sz HXS.out (plq t) (by rw [← HU.out]; exact List.mem_map_of_mem (f := plq) ht))) HRI.out.1 (vec_rise HU.out) HRI.out.2 (by have h9 := congrArg List.length HU.out; rw [List.length_map] at h9; rw [h9]; exact Nat.le_trans (List.length_filter_le _ _) (by rw [List.length_map, ofT_len]; omega)) HG.out.o.2.2.2).mono ?_
   rintro e wq ⟨k1, rfl, hk9, hb9⟩
   rw [HU.out] at hk9
   replace HG := Lib.hid (HG.out.call hk9 hb9)
   clear hk9 hb9
   (try (go_wp2_with fail))
   refine hK.out _ _ (by with_reducible first | exact ⟨Blk.cb (HG.out.o.1 _ (List.mem_singleton_self _)), HBC.out _ HG.out.o.2.1⟩ | exact ⟨Blk.cb (HG.out.drew.o.1 _ (List.mem_singleton_self _)), HBC.out _ HG.out.drew.o.2.1⟩) (fun hHeld => ?_)
   clear hK K
   try simp only [p1, p2, p3, p4]
   refine gC 11 rfl (by kernel_rfl) (by rfl) (fun K hK => ?_)
   clear hHeld
   simp only [q1, q2, q3]
   go_simp
   refine (radd_any _ k1 p.1 (dotQ (v.ts.map plq) (vecQ xs)) p.2 N (by omega) h1N (RatN.rat HG.out.n.1 HSD.out) (RatD.mono (HBD.out _ HG.out.o.2.1) hnN) HG.out.o.2.2.2).mono ?_
   rintro e wq ⟨k2, rfl, hk9, hb9⟩
   rw [HF.out] at hk9
   replace HG := Lib.hid (HG.out.call hk9 hb9)
   clear hk9 hb9
   (try (go_wp2_with fail))
   refine hK.out _ _ (by with_reducible first | exact ⟨Blk.cb (HG.out.o.1 _ (List.mem_singleton_self _)), HBC.out _ HG.out.o.2.1⟩ | exact ⟨Blk.cb (HG.out.drew.o.1 _ (List.mem_singleton_self _)), HBC.out _ HG.out.drew.o.2.1⟩) (fun hHeld => ?_)
   clear hK K
   try simp only [p1, p2, p3, p4]
   refine gTa 12 36 hHeld ?_
   have fr := HG.out.free HAo.out (k := 0) rfl
   have rcx := HG.out.rc (k := 0) rfl hlo
   have hadd2 : ∀ (n j : Nat), (⟨(adr Ao n).block, (adr Ao n).off + j, none⟩ : Addr) = adr Ao (n + j) := fun n j => by unfold adr; simp [Nat.add_assoc]
   have hs01 := cell_ne9 Ao (show i * 4 ≠ i * 4 + 1 by omega)
   have hs02 := cell_ne9 Ao (show i * 4 ≠ i * 4 + 2 by omega)
   have hs03 := cell_ne9 Ao (show i * 4 ≠ i * 4 + 3 by omega)
   have hs12 := cell_ne9 Ao (show i * 4 + 1 ≠ i * 4 + 2 by omega)
   have hs13 := cell_ne9 Ao (show i * 4 + 1 ≠ i * 4 + 3 by omega)
   have hs23 := cell_ne9 Ao (show i * 4 + 2 ≠ i * 4 + 3 by omega)
   refine gL rfl (by kernel_rfl) (by kernel_rfl) (by rfl) (fun K hK => ?_)
   clear hHeld
   simp only [q1, q2, q3]
   go_simp
   (try (go_wp2_with fail))
   refine hK.out _ _ ?_
   clear hK K
   try simp only [p1, p2, p3, p4]
   refine NoPanic.normal ?_
   clear rcx fr hadd2 hs01 hs02 hs03 hs12 hs13 hs23
   replace HG := Lib.hid (HG.out.putR HAo.out (k := 0) rfl hlo k2 ((affP l.rows l.bias xs) i))
   go_wp2_with fail
   go_roundw
   case rel => exact ⟨i + 1, os.set i (k2, (affP l.rows l.bias xs) i), by go_num, by omega, Lib.hid (HI.out.next rfl), Lib.hid (HG.out.imp (fun _ h => h) (fun V h => ⟨all_set8 (P := fun p => roN p V) h.2.2.1 h.1, h.2.2.2⟩))⟩
   case measure => (simp [intOf] <;> omega)
  ·obtain rfl : i = nr := by omega
   have hol := HI.out.n
   have hr := HG.out.els9 (k := 0) rfl
   go_wp2_with fail
   go_ret
   exact ⟨Ao, i, os, (by show Ending.returned (Value.slice Ao i i) = _; rw [hol]), by omega, by rw [HI.out.done, Hr.out], (hr.and (HG.out.rsn.mono fun _ h => h.1)).imp fun V h => ⟨h.1, h.2.1⟩, HG.out.bel⟩

theorem perm3r {a b c : Bo} : [c, b, a].Perm [b, a, c] := (List.perm_append_comm (l₁ := [c]) (l₂ := [b, a]))
set_option maxRecDepth 100000 in
theorem nspot_any (w : World) (n N : Nat) (hnN : n ≤ N) (hN : N ≤ 400000000000) (h1n : 1 ≤ n) (l : LaV) (h : LaD n l w) (hT : Tz w) (nr nb nk ng : Nat) (hk : nk = l.kern.length) (hb : nb = l.bias.length) (C H W O KH KW ST PD : Nat) (hd : C ≤ 256 ∧ H ≤ 256 ∧ W ≤ 256 ∧ KH ≤ 256 ∧ KW ≤ 256) (o : Nat) (ho : o ≤ 256) (hob : o < l.bias.length) (ho2 : (o + 1) * (C * KH * KW) ≤ nk) (he : C * KH * KW ≤ 1000) (row col : Int) (hr : -1000 ≤ row ∧ row ≤ 1000) (hc : -1000 ≤ col ∧ col ≤ 1000) (Ax : Option Addr) (cx : Nat) (xs : List (RV × Rat)) (nx : Nat) (hx : LsR 4 rtcells (roD N) Ax xs w) (hnx : nx = xs.length) (hxl : nx = C * H * W) (hs1 : ∀ (j : Nat), Sz ((l.bias[o]'hob).2 + sumK (plK KH KW (H : Int) (W : Int) row col) (kq (l.kern.map Prod.snd) (C * KH * KW) o) (xQ (xs.map Prod.snd)) j) N) (hs2 : ∀ (i : Nat) (a : Int), Sz (((l.kern.map Prod.snd)[i]?).getD 0 * xQ (xs.map Prod.snd) a) N) : Calls Tryz.prog 124 #[.agg #[.int .u8 l.kind, .slice l.Ar nr l.cr, .slice l.Ab nb l.cb, .int .i64 (C : Int), .int .i64 (H : Int), .int .i64 (W : Int), .int .i64 (O : Int), .int .i64 (KH : Int), .int .i64 (KW : Int), .int .i64 (ST : Int), .int .i64 (PD : Int), .slice l.Ak nk l.ck, .slice l.Ag ng l.cg, .slice Ax nx cx], .int .i64 (o : Int), .int .i64 row, .int .i64 col] w (RetR ((l.bias[o]'hob).2 + sumK (plK KH KW (H : Int) (W : Int) row col) (kq (l.kern.map Prod.snd) (C * KH * KW) o) (xQ (xs.map Prod.snd)) (C * KH * KW)) w) := by
 have sl1 := h.kern.sl
 rw [← hk] at sl1
 have sl2 := h.bias.sl
 rw [← hb] at sl2
 have sl3 := hx.sl
 rw [← hnx] at sl3
 have szr := size_rats
 have hadd := adr_add
 have hon : o < nb := by rw [hb]; exact hob
 have Hk := Lib.hid hk
 have Ho2 := Lib.hid ho2
 have He := Lib.hid he
 have Hnx := Lib.hid hnx
 have Hxl := Lib.hid hxl
 have HS2 := Lib.hid hs2
 have HBE := Lib.hid (show ∀ V, LaD n l V → RC l.Ab o (l.bias[o]'hob) V ∧ RatD (l.bias[o]'hob).1 (l.bias[o]'hob).2 n V from fun V h => ⟨h.bias.rc o hob, h.bias.ok _ (List.getElem_mem hob)⟩)
 have HS1 := Lib.hid hs1
 obtain ⟨p, hp⟩ : ∃ p, p = l.bias[o]'hob := ⟨_, rfl⟩
 rw [← hp] at HBE HS1 ⊢
 clear hp hob hs1 hs2
 obtain ⟨W0, hW0⟩ : ∃ W0, W0 = ((w.alloc (.cells #[.int .u8 l.kind, .slice l.Ar nr l.cr, .slice l.Ab nb l.cb, .int .i64 (C : Int), .int .i64 (H : Int), .int .i64 (W : Int), .int .i64 (O : Int), .int .i64 (KH : Int), .int .i64 (KW : Int), .int .i64 (ST : Int), .int .i64 (PD : Int), .slice l.Ak nk l.ck, .slice l.Ag ng l.cg, .slice Ax nx cx] 104)).alloc (.cells #[.bool false, .slice none 0 0, .bool false, .slice none 0 0] 30)) := ⟨_, rfl⟩
 have HE := Lib.hid (Env.lay2 (Env.start (((LaD.old l w h)).and (((hx.old roD_old)).and (hT.old)))) hW0)
 subst hW0
 have c := Env.c2 HE.out
 have dd := Env.d2 HE.out
 clear h hT hk hb ho2 he hx hnx hxl
 go_enter Tryz.func124, Tryz.ntmps124
 go_upto_region 2 with fail
 have HE2 := Lib.hid (HE.out.new_ (g := (w.heap.size + 1 + 1)) (by simp) 42 #[.int .u8 l.kind, .slice l.Ar nr l.cr, .slice l.Ab nb l.cb, .int .i64 (C : Int), .int .i64 (H : Int), .int .i64 (W : Int), .int .i64 (O : Int), .int .i64 (KH : Int), .int .i64 (KW : Int), .int .i64 (ST : Int), .int .i64 (PD : Int), .slice l.Ak nk l.ck, .slice l.Ag ng l.cg])
 clear HE c dd
 have HE := HE2
 clear HE2
 have c := (HE.out.bx ⟨(w.heap.size + 1 + 1), 42, #[.int .u8 l.kind, .slice l.Ar nr l.cr, .slice l.Ab nb l.cb, .int .i64 (C : Int), .int .i64 (H : Int), .int .i64 (W : Int), .int .i64 (O : Int), .int .i64 (KH : Int), .int .i64 (KW : Int), .int .i64 (ST : Int), .int .i64 (PD : Int), .slice l.Ak nk l.ck, .slice l.Ag ng l.cg]⟩ (by simp)).cb
 have cr0 := (HBE.out _ HE.out.o.1).1
 go_wp2_with fail
 refine (rnorm_any _ p.1 p.2 n (by omega) h1n (HBE.out _ HE.out.o.1).2 HE.out.o.2.2).mono ?_
 rintro e w1 ⟨k0, rfl, hk9, hb9⟩
 replace HE := Lib.hid (Env.ret HE.out hk9 hb9)
 clear hk9 hb9 c cr0
 go_upto_region 3 with fail
 have HG := Lib.hid (GL.ofEnv (bs1 := [⟨w.heap.size + 1, 30, #[.bool false, .slice none 0 0, .bool false, .slice none 0 0]⟩]) (bs2 := [⟨w.heap.size, 104, #[.int .u8 l.kind, .slice l.Ar nr l.cr, .slice l.Ab nb l.cb, .int .i64 (C : Int), .int .i64 (H : Int), .int .i64 (W : Int), .int .i64 (O : Int), .int .i64 (KH : Int), .int .i64 (KW : Int), .int .i64 (ST : Int), .int .i64 (PD : Int), .slice l.Ak nk l.ck, .slice l.Ag ng l.cg, .slice Ax nx cx]⟩, ⟨(w.heap.size + 1 + 1), 42, #[.int .u8 l.kind, .slice l.Ar nr l.cr, .slice l.Ab nb l.cb, .int .i64 (C : Int), .int .i64 (H : Int), .int .i64 (W : Int), .int .i64 (O : Int), .int .i64 (KH : Int), .int .i64 (KW : Int), .int .i64 (ST : Int), .int .i64 (PD : Int), .slice l.Ak nk l.ck, .slice l.Ag ng l.cg]⟩]) (HE.out.perm perm3r.symm))
 clear HE
 obtain ⟨W2, gs, hW2, hgs, HG2⟩ := HG.out.alb 30 #[.bool k0.num.neg, .slice k0.num.A k0.num.k k0.num.c, .bool k0.den.neg, .slice k0.den.A k0.den.k k0.den.c]
 rw [hW2, hgs]
 clear hW2 hgs HG
 have HG := Lib.hid (show GL w [bow gs 30 4 #[.bool ((k0, p.2) : RV × Rat).1.num.neg, .slice ((k0, p.2) : RV × Rat).1.num.A ((k0, p.2) : RV × Rat).1.num.k ((k0, p.2) : RV × Rat).1.num.c, .bool ((k0, p.2) : RV × Rat).1.den.neg, .slice ((k0, p.2) : RV × Rat).1.den.A ((k0, p.2) : RV × Rat).1.den.k ((k0, p.2) : RV × Rat).1.den.c], bow (w.heap.size + 1) 30 4 #[.bool false, .slice none 0 0, .bool false, .slice none 0 0]] (fun V => (∀ b ∈ [(⟨w.heap.size, 104, #[.int .u8 l.kind, .slice l.Ar nr l.cr, .slice l.Ab nb l.cb, .int .i64 (C : Int), .int .i64 (H : Int), .int .i64 (W : Int), .int .i64 (O : Int), .int .i64 (KH : Int), .int .i64 (KW : Int), .int .i64 (ST : Int), .int .i64 (PD : Int), .slice l.Ak nk l.ck, .slice l.Ag ng l.cg, .slice Ax nx cx]⟩ : Bo), ⟨(w.heap.size + 1 + 1), 42, #[.int .u8 l.kind, .slice l.Ar nr l.cr, .slice l.Ab nb l.cb, .int .i64 (C : Int), .int .i64 (H : Int), .int .i64 (W : Int), .int .i64 (O : Int), .int .i64 (KH : Int), .int .i64 (KW : Int), .int .i64 (ST : Int), .int .i64 (PD : Int), .slice l.Ak nk l.ck, .slice l.Ag ng l.cg]⟩], Blk V b.g b.t b.cs) ∧ LaD n l V ∧ LsR 4 rtcells (roD N) Ax xs V ∧ Tz V) (fun V => RatN ((k0, p.2) : RV × Rat).1 ((k0, p.2) : RV × Rat).2 V) W2 from HG2.out.imp (fun _ h => h) (fun _ h => h.1))
 clear HG2
 have cl := Blk.cb (HG.out.o.1 ⟨(w.heap.size + 1 + 1), 42, #[.int .u8 l.kind, .slice l.Ar nr l.cr, .slice l.Ab nb l.cb, .int .i64 (C : Int), .int .i64 (H : Int), .int .i64 (W : Int), .int .i64 (O : Int), .int .i64 (KH : Int), .int .i64 (KW : Int), .int .i64 (ST : Int), .int .i64 (PD : Int), .slice l.Ak nk l.ck, .slice l.Ag ng l.cg]⟩ (by simp))
 go_upto_region 4 with fail
 clear cl
 go_loopw [27] (fun iv wr => ∃ (x : Nat) (z : RV × Rat), iv = .int .i64 (x : Int) ∧ x ≤ C ∧ Hid (z.2 = p.2 + sumK (plK KH KW (H : Int) (W : Int) row col) (kq (l.kern.map Prod.snd) (C * KH * KW) o) (xQ (xs.map Prod.snd)) (x * KH * KW)) ∧ Hid (GL w [bow gs 30 4 #[.bool z.1.num.neg, .slice z.1.num.A z.1.num.k z.1.num.c, .bool z.1.den.neg, .slice z.1.den.A z.1.den.k z.1.den.c], bow (w.heap.size + 1) 30 4 #[.bool false, .slice none 0 0, .bool false, .slice none 0 0]] (fun V => (∀ b ∈ [(⟨w.heap.size, 104, #[.int .u8 l.kind, .slice l.Ar nr l.cr, .slice l.Ab nb l.cb, .int .i64 (C : Int), .int .i64 (H : Int), .int .i64 (W : Int), .int .i64 (O : Int), .int .i64 (KH : Int), .int .i64 (KW : Int), .int .i64 (ST : Int), .int .i64 (PD : Int), .slice l.Ak nk l.ck, .slice l.Ag ng l.cg, .slice Ax nx cx]⟩ : Bo), ⟨(w.heap.size + 1 + 1), 42, #[.int .u8 l.kind, .slice l.Ar nr l.cr, .slice l.Ab nb l.cb, .int .i64 (C : Int), .int .i64 (H : Int), .int .i64 (W : Int), .int .i64 (O : Int), .int .i64 (KH : Int), .int .i64 (KW : Int), .int .i64 (ST : Int), .int .i64 (PD : Int), .slice l.Ak nk l.ck, .slice l.Ag ng l.cg]⟩], Blk V b.g b.t b.cs) ∧ LaD n l V ∧ LsR 4 rtcells (roD N) Ax xs V ∧ Tz V) (fun V => RatN z.1 z.2 V) wr)) (fun iv _ => C - (intOf iv).toNat)
 case atStart => exact ⟨0, (k0, p.2), rfl, Nat.zero_le _, Lib.hid (by rw [Nat.zero_mul, Nat.zero_mul]; exact (Rat.add_zero _).symm), HG⟩
 case round =>
  clear HG
  obtain ⟨q, z, rfl, hq, HI, HG⟩ := hrel
  by_cases hlq : q < C
  ·have cl := Blk.cb (HG.out.o.1 ⟨(w.heap.size + 1 + 1), 42, #[.int .u8 l.kind, .slice l.Ar nr l.cr, .slice l.Ab nb l.cb, .int .i64 (C : Int), .int .i64 (H : Int), .int .i64 (W : Int), .int .i64 (O : Int), .int .i64 (KH : Int), .int .i64 (KW : Int), .int .i64 (ST : Int), .int .i64 (PD : Int), .slice l.Ak nk l.ck, .slice l.Ag ng l.cg]⟩ (by simp))
   go_upto_region 7 with fail
   clear cl
   go_loopw [32] (fun iv wr => ∃ (x : Nat) (z : RV × Rat), iv = .int .i64 (x : Int) ∧ x ≤ KH ∧ Hid (z.2 = p.2 + sumK (plK KH KW (H : Int) (W : Int) row col) (kq (l.kern.map Prod.snd) (C * KH * KW) o) (xQ (xs.map Prod.snd)) ((q * KH + x) * KW)) ∧ Hid (GL w [bow gs 30 4 #[.bool z.1.num.neg, .slice z.1.num.A z.1.num.k z.1.num.c, .bool z.1.den.neg, .slice z.1.den.A z.1.den.k z.1.den.c], bow (w.heap.size + 1) 30 4 #[.bool false, .slice none 0 0, .bool false, .slice none 0 0]] (fun V => (∀ b ∈ [(⟨w.heap.size, 104, #[.int .u8 l.kind, .slice l.Ar nr l.cr, .slice l.Ab nb l.cb, .int .i64 (C : Int), .int .i64 (H : Int), .int .i64 (W : Int), .int .i64 (O : Int), .int .i64 (KH : Int), .int .i64 (KW : Int), .int .i64 (ST : Int), .int .i64 (PD : Int), .slice l.Ak nk l.ck, .slice l.Ag ng l.cg, .slice Ax nx cx]⟩ : Bo), ⟨(w.heap.size + 1 + 1), 42, #[.int .u8 l.kind, .slice l.Ar nr l.cr, .slice l.Ab nb l.cb, .int .i64 (C : Int), .int .i64 (H : Int), .int .i64 (W : Int), .int .i64 (O : Int), .int .i64 (KH : Int), .int .i64 (KW : Int), .int .i64 (ST : Int), .int .i64 (PD : Int), .slice l.Ak nk l.ck, .slice l.Ag ng l.cg]⟩], Blk V b.g b.t b.cs) ∧ LaD n l V ∧ LsR 4 rtcells (roD N) Ax xs V ∧ Tz V) (fun V => RatN z.1 z.2 V) wr)) (fun iv _ => KH - (intOf iv).toNat)
   case atStart => exact ⟨0, z, rfl, Nat.zero_le _, Lib.hid (by rw [Nat.add_zero]; exact HI.out), HG⟩
   case round =>
    clear HG HI
    obtain ⟨i, z, rfl, hi, HI, HG⟩ := hrel
    by_cases hli : i < KH
    ·have cl := Blk.cb (HG.out.o.1 ⟨(w.heap.size + 1 + 1), 42, #[.int .u8 l.kind, .slice l.Ar nr l.cr, .slice l.Ab nb l.cb, .int .i64 (C : Int), .int .i64 (H : Int), .int .i64 (W : Int), .int .i64 (O : Int), .int .i64 (KH : Int), .int .i64 (KW : Int), .int .i64 (ST : Int), .int .i64 (PD : Int), .slice l.Ak nk l.ck, .slice l.Ag ng l.cg]⟩ (by simp))
     go_upto_region 10 with fail
     clear cl
     go_loopw [37] (fun iv wr => ∃ (x : Nat) (z : RV × Rat), iv = .int .i64 (x : Int) ∧ x ≤ KW ∧ Hid (z.2 = p.2 + sumK (plK KH KW (H : Int) (W : Int) row col) (kq (l.kern.map Prod.snd) (C * KH * KW) o) (xQ (xs.map Prod.snd)) ((q * KH + i) * KW + x)) ∧ Hid (GL w [bow gs 30 4 #[.bool z.1.num.neg, .slice z.1.num.A z.1.num.k z.1.num.c, .bool z.1.den.neg, .slice z.1.den.A z.1.den.k z.1.den.c], bow (w.heap.size + 1) 30 4 #[.bool false, .slice none 0 0, .bool false, .slice none 0 0]] (fun V => (∀ b ∈ [(⟨w.heap.size, 104, #[.int .u8 l.kind, .slice l.Ar nr l.cr, .slice l.Ab nb l.cb, .int .i64 (C : Int), .int .i64 (H : Int), .int .i64 (W : Int), .int .i64 (O : Int), .int .i64 (KH : Int), .int .i64 (KW : Int), .int .i64 (ST : Int), .int .i64 (PD : Int), .slice l.Ak nk l.ck, .slice l.Ag ng l.cg, .slice Ax nx cx]⟩ : Bo), ⟨(w.heap.size + 1 + 1), 42, #[.int .u8 l.kind, .slice l.Ar nr l.cr, .slice l.Ab nb l.cb, .int .i64 (C : Int), .int .i64 (H : Int), .int .i64 (W : Int), .int .i64 (O : Int), .int .i64 (KH : Int), .int .i64 (KW : Int), .int .i64 (ST : Int), .int .i64 (PD : Int), .slice l.Ak nk l.ck, .slice l.Ag ng l.cg]⟩], Blk V b.g b.t b.cs) ∧ LaD n l V ∧ LsR 4 rtcells (roD N) Ax xs V ∧ Tz V) (fun V => RatN z.1 z.2 V) wr)) (fun iv _ => KW - (intOf iv).toNat)
     case atStart => exact ⟨0, z, rfl, Nat.zero_le _, Lib.hid (by rw [Nat.add_zero]; exact HI.out), HG⟩
     case round =>
      clear HG HI
      obtain ⟨j, z, rfl, hj, HI, HG⟩ := hrel
      by_cases hlj : j < KW
      ·have cl := Blk.cb (HG.out.o.1 ⟨(w.heap.size + 1 + 1), 42, #[.int .u8 l.kind, .slice l.Ar nr l.cr, .slice l.Ab nb l.cb, .int .i64 (C : Int), .int .i64 (H : Int), .int .i64 (W : Int), .int .i64 (O : Int), .int .i64 (KH : Int), .int .i64 (KW : Int), .int .i64 (ST : Int), .int .i64 (PD : Int), .slice l.Ak nk l.ck, .slice l.Ag ng l.cg]⟩ (by simp))
       obtain ⟨R, hR⟩ : ∃ R : Int, R = row + (i : Int) := ⟨_, rfl⟩
       obtain ⟨Q, hQ⟩ : ∃ Q : Int, Q = col + (j : Int) := ⟨_, rfl⟩
       have w1 : IntKind.i64.wrap (row + (i : Int)) = R := by rw [hR]; exact wrap_id' (by omega)
       have w2 : IntKind.i64.wrap (col + (j : Int)) = Q := by rw [hQ]; exact wrap_id' (by omega)
       have HPL := Lib.hid (plK_at (high := (H : Int)) (wide := (W : Int)) (row := row) (col := col) (p := q) hli hlj)
       rw [← hR, ← hQ] at HPL
       clear hR hQ
       go_upto_region 13 with fail
       clear w1 w2
       by_cases yq0 : R < 0
       ·have HI2 := Lib.hid (show z.2 = p.2 + sumK (plK KH KW (H : Int) (W : Int) row col) (kq (l.kern.map Prod.snd) (C * KH * KW) o) (xQ (xs.map Prod.snd)) ((q * KH + i) * KW + (j + 1)) from by rw [HI.out, ← Nat.add_assoc, sumK, (HPL.out.trans (if_neg (fun h => by omega)))]; exact (congrArg _ (Rat.add_zero _)).symm)
        go_wp2_with fail
        go_roundw
        case rel => exact ⟨j + 1, z, by go_num, by omega, HI2, HG⟩
        case measure => (simp [intOf] <;> omega)
       ·have hsk := trivial
        clear hsk
        by_cases yq1 : R ≥ (H : Int)
        ·have HI2 := Lib.hid (show z.2 = p.2 + sumK (plK KH KW (H : Int) (W : Int) row col) (kq (l.kern.map Prod.snd) (C * KH * KW) o) (xQ (xs.map Prod.snd)) ((q * KH + i) * KW + (j + 1)) from by rw [HI.out, ← Nat.add_assoc, sumK, (HPL.out.trans (if_neg (fun h => by omega)))]; exact (congrArg _ (Rat.add_zero _)).symm)
         go_wp2_with fail
         go_roundw
         case rel => exact ⟨j + 1, z, by go_num, by omega, HI2, HG⟩
         case measure => (simp [intOf] <;> omega)
        ·have hsk := trivial
         clear hsk
         by_cases yq2 : Q < 0
         ·have HI2 := Lib.hid (show z.2 = p.2 + sumK (plK KH KW (H : Int) (W : Int) row col) (kq (l.kern.map Prod.snd) (C * KH * KW) o) (xQ (xs.map Prod.snd)) ((q * KH + i) * KW + (j + 1)) from by rw [HI.out, ← Nat.add_assoc, sumK, (HPL.out.trans (if_neg (fun h => by omega)))]; exact (congrArg _ (Rat.add_zero _)).symm)
          go_wp2_with fail
          go_roundw
          case rel => exact ⟨j + 1, z, by go_num, by omega, HI2, HG⟩
          case measure => (simp [intOf] <;> omega)
         ·have hsk := trivial
          clear hsk
          by_cases yq3 : Q ≥ (W : Int)
          ·have HI2 := Lib.hid (show z.2 = p.2 + sumK (plK KH KW (H : Int) (W : Int) row col) (kq (l.kern.map Prod.snd) (C * KH * KW) o) (xQ (xs.map Prod.snd)) ((q * KH + i) * KW + (j + 1)) from by rw [HI.out, ← Nat.add_assoc, sumK, (HPL.out.trans (if_neg (fun h => by omega)))]; exact (congrArg _ (Rat.add_zero _)).symm)
           go_wp2_with fail
           go_roundw
           case rel => exact ⟨j + 1, z, by go_num, by omega, HI2, HG⟩
           case measure => (simp [intOf] <;> omega)
          ·have hsk := trivial
           clear hsk
           obtain ⟨rn, rfl⟩ : ∃ rn : Nat, R = rn := ⟨R.toNat, by omega⟩
           obtain ⟨cn, rfl⟩ : ∃ cn : Nat, Q = cn := ⟨Q.toNat, by omega⟩
           have HP2 := Lib.hid (HPL.out.trans (if_pos (by omega)))
           have hk1 : (q * KH + i) * KW + j < C * KH * KW := by
            have a1 : (q + 1) * KH ≤ C * KH := Nat.mul_le_mul_right _ hlq
            rw [Nat.add_mul, Nat.one_mul] at a1
            have a2 : (q * KH + i + 1) * KW ≤ C * KH * KW := Nat.mul_le_mul_right _ (by omega)
            rw [Nat.add_mul, Nat.one_mul] at a2
            omega
           have hk0 : o * (C * KH * KW) + ((q * KH + i) * KW + j) < nk := by
            have h1 := Ho2.out
            rw [Nat.add_mul, Nat.one_mul] at h1
            omega
           obtain ⟨a1, ha1⟩ : ∃ a, a = o * C := ⟨_, rfl⟩
           obtain ⟨a2, ha2⟩ : ∃ a, a = a1 + q := ⟨_, rfl⟩
           obtain ⟨a3, ha3⟩ : ∃ a, a = a2 * KH := ⟨_, rfl⟩
           obtain ⟨a4, ha4⟩ : ∃ a, a = a3 + i := ⟨_, rfl⟩
           obtain ⟨a5, ha5⟩ : ∃ a, a = a4 * KW := ⟨_, rfl⟩
           obtain ⟨a6, ha6⟩ : ∃ a, a = a5 + j := ⟨_, rfl⟩
           have b1 : a1 ≤ 256 * 256 := by rw [ha1]; exact Nat.mul_le_mul ho hd.1
           have b3 : a3 ≤ 65792 * 256 := by rw [ha3]; exact Nat.mul_le_mul (by omega) hd.2.2.2.1
           have b5 : a5 ≤ 16843008 * 256 := by rw [ha5]; exact Nat.mul_le_mul (by omega) hd.2.2.2.2
           have e1 := wmul ha1 (by omega)
           have e2 := wadd ha2 (by omega)
           have e3 := wmul ha3 (by omega)
           have e4 := wadd ha4 (by omega)
           have e5 := wmul ha5 (by omega)
           have e6 := wadd ha6 (by omega)
           obtain ⟨d1, hd1⟩ : ∃ a, a = q * H := ⟨_, rfl⟩
           obtain ⟨d2, hd2⟩ : ∃ a, a = d1 + rn := ⟨_, rfl⟩
           obtain ⟨d3, hd3⟩ : ∃ a, a = d2 * W := ⟨_, rfl⟩
           obtain ⟨d4, hd4⟩ : ∃ a, a = d3 + cn := ⟨_, rfl⟩
           have f1 : d1 ≤ 256 * 256 := by rw [hd1]; exact Nat.mul_le_mul (by omega) hd.2.1
           have f3 : d3 ≤ 65792 * 256 := by rw [hd3]; exact Nat.mul_le_mul (by omega) hd.2.2.1
           have g1 := wmul hd1 (by omega)
           have g2 := wadd hd2 (by omega)
           have g3 := wmul hd3 (by omega)
           have g4 := wadd hd4 (by omega)
           have hpl : ((q : Int) * (H : Int) + (rn : Int)) * (W : Int) + (cn : Int) = (d4 : Int) := by rw [hd4, hd3, hd2, hd1]; simp only [Int.natCast_add, Int.natCast_mul]
           have HP3 := Lib.hid (HP2.out.trans (congrArg some hpl))
           have hdx : d4 < nx := by
            have h1 := plK_rng (ch := C) hk1 HP3.out
            rw [Hxl.out]
            have h2 := h1.2
            rw [show (C : Int) * (H : Int) * (W : Int) = ((C * H * W : Nat) : Int) from by simp only [Int.natCast_mul]] at h2
            omega
           have hdx2 : d4 < xs.length := by rw [← Hnx.out]; exact hdx
           have hidx : a6 = o * (C * KH * KW) + ((q * KH + i) * KW + j) := by rw [ha6, ha5, ha4, ha3, ha2, ha1]; simp only [Nat.add_mul, Nat.mul_assoc, Nat.add_assoc]
           have hia : a6 < l.kern.length := by rw [← Hk.out, hidx]; exact hk0
           have hin : a6 < nk := by rw [Hk.out]; exact hia
           have HZ2 := Lib.hid (show z.2 + (l.kern[a6]'hia).2 * (xs[d4]'hdx2).2 = p.2 + sumK (plK KH KW (H : Int) (W : Int) row col) (kq (l.kern.map Prod.snd) (C * KH * KW) o) (xQ (xs.map Prod.snd)) ((q * KH + i) * KW + (j + 1)) from by
            rw [HI.out, ← Nat.add_assoc, sumK, HP3.out, Rat.add_assoc]
            have k1 : kq (l.kern.map Prod.snd) (C * KH * KW) o ((q * KH + i) * KW + j) = (l.kern[a6]'hia).2 := by
             unfold kq
             rw [← hidx, List.getElem?_map, List.getElem?_eq_getElem hia]
             rfl
            have k2 : xQ (xs.map Prod.snd) (d4 : Int) = (xs[d4]'hdx2).2 := by
             unfold xQ
             rw [Int.toNat_natCast, List.getElem?_map, List.getElem?_eq_getElem hdx2]
             rfl
            simp only [k1, k2])
           have HSM := Lib.hid (show Sz ((l.kern[a6]'hia).2 * (xs[d4]'hdx2).2) N from by
            have k9 := HS2.out a6 (d4 : Int)
            unfold xQ at k9
            rw [Int.toNat_natCast, List.getElem?_map, List.getElem?_map, List.getElem?_eq_getElem hdx2, List.getElem?_eq_getElem hia] at k9
            exact k9)
           have HSZ := Lib.hid (show Sz z.2 N from by rw [HI.out]; exact HS1.out _)
           have HKE := Lib.hid (show ∀ V, LaD n l V → RC l.Ak a6 (l.kern[a6]'hia) V ∧ RatD (l.kern[a6]'hia).1 (l.kern[a6]'hia).2 n V from fun V h => ⟨h.kern.rc a6 hia, h.kern.ok _ (List.getElem_mem hia)⟩)
           have HXE := Lib.hid (show ∀ V, LsR 4 rtcells (roD N) Ax xs V → RC Ax d4 (xs[d4]'hdx2) V ∧ RatD (xs[d4]'hdx2).1 (xs[d4]'hdx2).2 N V from fun V h => ⟨h.rc d4 hdx2, h.ok _ (List.getElem_mem hdx2)⟩)
           obtain ⟨u, hu⟩ : ∃ u, u = l.kern[a6] := ⟨_, rfl⟩
           obtain ⟨v, hv⟩ : ∃ v, v = xs[d4] := ⟨_, rfl⟩
           rw [← hu, ← hv] at HZ2 HSM
           rw [← hu] at HKE
           rw [← hv] at HXE
           have cr0 := (HKE.out _ HG.out.o.2.1).1
           clear hu hv ha1 ha2 ha3 ha4 ha5 ha6 hd1 hd2 hd3 hd4 b1 b3 b5 f1 f3 hpl hidx hk0 hk1 hia hdx2 HPL HP2 HP3 HI
           go_upto_region 15 with fail
           obtain ⟨W3, gv, hW3, hgv, HG2⟩ := HG.out.al 30 #[.bool u.1.num.neg, .slice u.1.num.A u.1.num.k u.1.num.c, .bool u.1.den.neg, .slice u.1.den.A u.1.den.k u.1.den.c]
           rw [hW3, hgv]
           clear hW3 hgv cr0 cl HG
           have HG := HG2
           clear HG2
           have HB1 := Lib.hid (fun (V : World) (ls' : List Ow) (nw : World → Prop) (h : GL w ls' (fun V => (∀ b ∈ [(⟨w.heap.size, 104, #[.int .u8 l.kind, .slice l.Ar nr l.cr, .slice l.Ab nb l.cb, .int .i64 (C : Int), .int .i64 (H : Int), .int .i64 (W : Int), .int .i64 (O : Int), .int .i64 (KH : Int), .int .i64 (KW : Int), .int .i64 (ST : Int), .int .i64 (PD : Int), .slice l.Ak nk l.ck, .slice l.Ag ng l.cg, .slice Ax nx cx]⟩ : Bo), ⟨(w.heap.size + 1 + 1), 42, #[.int .u8 l.kind, .slice l.Ar nr l.cr, .slice l.Ab nb l.cb, .int .i64 (C : Int), .int .i64 (H : Int), .int .i64 (W : Int), .int .i64 (O : Int), .int .i64 (KH : Int), .int .i64 (KW : Int), .int .i64 (ST : Int), .int .i64 (PD : Int), .slice l.Ak nk l.ck, .slice l.Ag ng l.cg]⟩], Blk V b.g b.t b.cs) ∧ LaD n l V ∧ LsR 4 rtcells (roD N) Ax xs V ∧ Tz V) nw V) => And.intro (Blk.cb (h.o.1 ⟨w.heap.size, 104, #[.int .u8 l.kind, .slice l.Ar nr l.cr, .slice l.Ab nb l.cb, .int .i64 (C : Int), .int .i64 (H : Int), .int .i64 (W : Int), .int .i64 (O : Int), .int .i64 (KH : Int), .int .i64 (KW : Int), .int .i64 (ST : Int), .int .i64 (PD : Int), .slice l.Ak nk l.ck, .slice l.Ag ng l.cg, .slice Ax nx cx]⟩ (by simp))) (And.intro (Blk.cb (h.o.1 ⟨(w.heap.size + 1 + 1), 42, #[.int .u8 l.kind, .slice l.Ar nr l.cr, .slice l.Ab nb l.cb, .int .i64 (C : Int), .int .i64 (H : Int), .int .i64 (W : Int), .int .i64 (O : Int), .int .i64 (KH : Int), .int .i64 (KW : Int), .int .i64 (ST : Int), .int .i64 (PD : Int), .slice l.Ak nk l.ck, .slice l.Ag ng l.cg]⟩ (by simp))) (HXE.out _ h.o.2.2.1).1))
           refine wp_region_noPanic ?_
           refine wp_region_G 19 (fun V => CB gs #[.bool z.1.num.neg, .slice z.1.num.A z.1.num.k z.1.num.c, .bool z.1.den.neg, .slice z.1.den.A z.1.den.k z.1.den.c] V ∧ CB gv #[.bool u.1.num.neg, .slice u.1.num.A u.1.num.k u.1.num.c, .bool u.1.den.neg, .slice u.1.den.A u.1.den.k u.1.den.c] V ∧ CB (w.heap.size) #[.int .u8 l.kind, .slice l.Ar nr l.cr, .slice l.Ab nb l.cb, .int .i64 (C : Int), .int .i64 (H : Int), .int .i64 (W : Int), .int .i64 (O : Int), .int .i64 (KH : Int), .int .i64 (KW : Int), .int .i64 (ST : Int), .int .i64 (PD : Int), .slice l.Ak nk l.ck, .slice l.Ag ng l.cg, .slice Ax nx cx] V ∧ CB (w.heap.size + 1 + 1) #[.int .u8 l.kind, .slice l.Ar nr l.cr, .slice l.Ab nb l.cb, .int .i64 (C : Int), .int .i64 (H : Int), .int .i64 (W : Int), .int .i64 (O : Int), .int .i64 (KH : Int), .int .i64 (KW : Int), .int .i64 (ST : Int), .int .i64 (PD : Int), .slice l.Ak nk l.ck, .slice l.Ag ng l.cg] V ∧ RC Ax d4 v V) (by kernel_rfl) (by with_reducible first | exact ⟨HG.out.cb (k := 0) rfl, Blk.cb HG.out.n.1, HB1.out _ _ _ HG.out⟩ | exact ⟨HG.out.drew.cb (k := 0) rfl, Blk.cb HG.out.drew.n.1, HB1.out _ _ _ HG.out.drew⟩ | exact ⟨HG.out.cb (k := 0) rfl, Blk.cb HG.out.n.2.1, HB1.out _ _ _ HG.out⟩ | exact ⟨HG.out.drew.cb (k := 0) rfl, Blk.cb HG.out.drew.n.2.1, HB1.out _ _ _ HG.out.drew⟩ | exact ⟨HG.out.cb (k := 0) rfl, Blk.cb HG.out.n.2.2.1, HB1.out _ _ _ HG.out⟩ | exact ⟨HG.out.drew.cb (k := 0) rfl, Blk.cb HG.out.drew.n.2.2.1, HB1.out _ _ _ HG.out.drew⟩) (fun hHeld => ?_)
           replace HG := Lib.hid HG.out.drew
           refine gTa 0 84 hHeld ?_
           refine gTa 1 85 hHeld ?_
           refine gTa 2 86 hHeld ?_
           refine gTa 3 87 hHeld ?_
           refine gTa 4 88 hHeld ?_
           refine gTa 5 89 hHeld ?_
           refine gTa 6 90 hHeld ?_
           refine gTa 7 91 hHeld ?_
           refine gTa 8 92 hHeld ?_
           refine gTa 9 93 hHeld ?_
           refine gTa 10 94 hHeld ?_
           refine gTa 11 95 hHeld ?_
           refine gTa 12 96 hHeld ?_
           refine gTa 13 97 hHeld ?_
           refine gTa 14 98 hHeld ?_
           refine gTa 15 99 hHeld ?_
           refine gTa 16 100 hHeld ?_
           refine gC 17 rfl (by kernel_rfl) (by rfl) (fun K hK => ?_)
           clear hHeld
           simp only [q1, q2, q3]
           go_simp
           refine (rmul_any _ u.1 v.1 u.2 v.2 N hN (by omega) ((HKE.out _ HG.out.o.2.1).2.mono hnN) (HXE.out _ HG.out.o.2.2.1).2 HG.out.o.2.2.2).mono ?_
           rintro e wq ⟨k9, rfl, hk9, hb9⟩
           replace HG := Lib.hid (HG.out.call hk9 hb9)
           clear hk9 hb9
           (try (go_wp2_with fail))
           refine hK.out _ _ (by with_reducible first | exact ⟨HG.out.cb (k := 0) rfl, Blk.cb HG.out.n.1, HB1.out _ _ _ HG.out⟩ | exact ⟨HG.out.drew.cb (k := 0) rfl, Blk.cb HG.out.drew.n.1, HB1.out _ _ _ HG.out.drew⟩ | exact ⟨HG.out.cb (k := 0) rfl, Blk.cb HG.out.n.2.1, HB1.out _ _ _ HG.out⟩ | exact ⟨HG.out.drew.cb (k := 0) rfl, Blk.cb HG.out.drew.n.2.1, HB1.out _ _ _ HG.out.drew⟩ | exact ⟨HG.out.cb (k := 0) rfl, Blk.cb HG.out.n.2.2.1, HB1.out _ _ _ HG.out⟩ | exact ⟨HG.out.drew.cb (k := 0) rfl, Blk.cb HG.out.drew.n.2.2.1, HB1.out _ _ _ HG.out.drew⟩) (fun hHeld => ?_)
           clear hK K
           try simp only [p1, p2, p3, p4]
           refine gC 18 rfl (by kernel_rfl) (by rfl) (fun K hK => ?_)
           clear hHeld
           simp only [q1, q2, q3]
           go_simp
           refine (radd_any _ z.1 k9 z.2 (u.2 * v.2) N hN (by omega) (HG.out.n.2.2.rat HSZ.out) (HG.out.n.1.rat HSM.out) HG.out.o.2.2.2).mono ?_
           rintro e wq ⟨k8, rfl, hk9, hb9⟩
           replace HG := Lib.hid (HG.out.call hk9 hb9)
           clear hk9 hb9
           (try (go_wp2_with fail))
           refine hK.out _ _ (by with_reducible first | exact ⟨HG.out.cb (k := 0) rfl, Blk.cb HG.out.n.1, HB1.out _ _ _ HG.out⟩ | exact ⟨HG.out.drew.cb (k := 0) rfl, Blk.cb HG.out.drew.n.1, HB1.out _ _ _ HG.out.drew⟩ | exact ⟨HG.out.cb (k := 0) rfl, Blk.cb HG.out.n.2.1, HB1.out _ _ _ HG.out⟩ | exact ⟨HG.out.drew.cb (k := 0) rfl, Blk.cb HG.out.drew.n.2.1, HB1.out _ _ _ HG.out.drew⟩ | exact ⟨HG.out.cb (k := 0) rfl, Blk.cb HG.out.n.2.2.1, HB1.out _ _ _ HG.out⟩ | exact ⟨HG.out.drew.cb (k := 0) rfl, Blk.cb HG.out.drew.n.2.2.1, HB1.out _ _ _ HG.out.drew⟩) (fun hHeld => ?_)
           clear hK K
           try simp only [p1, p2, p3, p4]
           have cc := HG.out.cb (k := 0) rfl
           refine gL rfl (by kernel_rfl) (by kernel_rfl) (by rfl) (fun K hK => ?_)
           clear hHeld
           simp only [q1, q2, q3]
           go_simp
           (try (go_wp2_with fail))
           refine hK.out _ _ ?_
           clear hK K
           try simp only [p1, p2, p3, p4]
           refine NoPanic.normal ?_
           clear cc
           have HG3 := HG.out.put4 (k := 0) rfl (.bool k8.num.neg) (.slice k8.num.A k8.num.k k8.num.c) (.bool k8.den.neg) (.slice k8.den.A k8.den.k k8.den.c)
           replace HG := Lib.hid (show GL w [bow gs 30 4 #[.bool ((k8, z.2 + u.2 * v.2) : RV × Rat).1.num.neg, .slice ((k8, z.2 + u.2 * v.2) : RV × Rat).1.num.A ((k8, z.2 + u.2 * v.2) : RV × Rat).1.num.k ((k8, z.2 + u.2 * v.2) : RV × Rat).1.num.c, .bool ((k8, z.2 + u.2 * v.2) : RV × Rat).1.den.neg, .slice ((k8, z.2 + u.2 * v.2) : RV × Rat).1.den.A ((k8, z.2 + u.2 * v.2) : RV × Rat).1.den.k ((k8, z.2 + u.2 * v.2) : RV × Rat).1.den.c], bow (w.heap.size + 1) 30 4 #[.bool false, .slice none 0 0, .bool false, .slice none 0 0]] (fun V => (∀ b ∈ [(⟨w.heap.size, 104, #[.int .u8 l.kind, .slice l.Ar nr l.cr, .slice l.Ab nb l.cb, .int .i64 (C : Int), .int .i64 (H : Int), .int .i64 (W : Int), .int .i64 (O : Int), .int .i64 (KH : Int), .int .i64 (KW : Int), .int .i64 (ST : Int), .int .i64 (PD : Int), .slice l.Ak nk l.ck, .slice l.Ag ng l.cg, .slice Ax nx cx]⟩ : Bo), ⟨(w.heap.size + 1 + 1), 42, #[.int .u8 l.kind, .slice l.Ar nr l.cr, .slice l.Ab nb l.cb, .int .i64 (C : Int), .int .i64 (H : Int), .int .i64 (W : Int), .int .i64 (O : Int), .int .i64 (KH : Int), .int .i64 (KW : Int), .int .i64 (ST : Int), .int .i64 (PD : Int), .slice l.Ak nk l.ck, .slice l.Ag ng l.cg]⟩], Blk V b.g b.t b.cs) ∧ LaD n l V ∧ LsR 4 rtcells (roD N) Ax xs V ∧ Tz V) (fun V => RatN ((k8, z.2 + u.2 * v.2) : RV × Rat).1 ((k8, z.2 + u.2 * v.2) : RV × Rat).2 V) _ from HG3.imp (fun _ h => h) (fun V h => h.1))
           clear HG3
           go_wp2_with fail
           go_roundw
           case rel => exact ⟨j + 1, (k8, z.2 + u.2 * v.2), by go_num, by omega, HZ2, HG⟩
           case measure => (simp [intOf] <;> omega)
      ·obtain rfl : j = KW := by omega
       have cl := Blk.cb (HG.out.o.1 ⟨(w.heap.size + 1 + 1), 42, #[.int .u8 l.kind, .slice l.Ar nr l.cr, .slice l.Ab nb l.cb, .int .i64 (C : Int), .int .i64 (H : Int), .int .i64 (W : Int), .int .i64 (O : Int), .int .i64 (KH : Int), .int .i64 (j : Int), .int .i64 (ST : Int), .int .i64 (PD : Int), .slice l.Ak nk l.ck, .slice l.Ag ng l.cg]⟩ (by simp))
       have HI2 := Lib.hid (show z.2 = p.2 + sumK (plK KH j (H : Int) (W : Int) row col) (kq (l.kern.map Prod.snd) (C * KH * j) o) (xQ (xs.map Prod.snd)) ((q * KH + (i + 1)) * j) from by have h9 := HI.out; rwa [← Nat.add_assoc, Nat.add_mul (q * KH + i) 1, Nat.one_mul])
       go_wp2_with fail
       go_roundw
       case rel => exact ⟨i + 1, z, by go_num, by omega, HI2, HG⟩
       case measure => (simp [intOf] <;> omega)
    ·obtain rfl : i = KH := by omega
     have cl := Blk.cb (HG.out.o.1 ⟨(w.heap.size + 1 + 1), 42, #[.int .u8 l.kind, .slice l.Ar nr l.cr, .slice l.Ab nb l.cb, .int .i64 (C : Int), .int .i64 (H : Int), .int .i64 (W : Int), .int .i64 (O : Int), .int .i64 (i : Int), .int .i64 (KW : Int), .int .i64 (ST : Int), .int .i64 (PD : Int), .slice l.Ak nk l.ck, .slice l.Ag ng l.cg]⟩ (by simp))
     have HI2 := Lib.hid (show z.2 = p.2 + sumK (plK i KW (H : Int) (W : Int) row col) (kq (l.kern.map Prod.snd) (C * i * KW) o) (xQ (xs.map Prod.snd)) ((q + 1) * i * KW) from by have h9 := HI.out; rwa [Nat.add_mul q 1, Nat.one_mul])
     go_wp2_with fail
     go_roundw
     case rel => exact ⟨q + 1, z, by go_num, by omega, HI2, HG⟩
     case measure => (simp [intOf] <;> omega)
  ·obtain rfl : q = C := by omega
   have cs0 := HG.out.cb (k := 0) rfl
   have c8 := HG.out.cb (k := 1) rfl
   go_wp2_with fail
   have hG := HG.out.put4 (k := 1) rfl (.bool z.1.num.neg) (.slice z.1.num.A z.1.num.k z.1.num.c) (.bool z.1.den.neg) (.slice z.1.den.A z.1.den.k z.1.den.c)
   replace c8 := hG.cb (k := 1) rfl
   exact bodyPost_ret (v := .agg #[.bool z.1.num.neg, .slice z.1.num.A z.1.num.k z.1.num.c, .bool z.1.den.neg, .slice z.1.den.A z.1.den.k z.1.den.c]) (by simp [results, Tryz.results124, go_sem, c8]) rfl ⟨z.1, rfl, (hG.rsn.imp fun V h => (by rw [← HI.out]; exact h)).mono fun _ h => h.1, hG.bel⟩

theorem perm2r {a b : Bo} : [a, b].Perm [b, a] := List.Perm.swap _ _ _
set_option maxRecDepth 100000 in
theorem nconv_any (w : World) (n N : Nat) (hnN : n ≤ N) (hN : N ≤ 400000000000) (h1n : 1 ≤ n) (l : LaV) (h : LaD n l w) (hT : Tz w) (nr nb nk ng : Nat) (hk : nk = l.kern.length) (hb : nb = l.bias.length) (C H W O KH KW ST PD R Q : Nat) (hd : C ≤ 256 ∧ H ≤ 256 ∧ W ≤ 256 ∧ KH ≤ 256 ∧ KW ≤ 256) (hd2 : O ≤ 256 ∧ ST ≤ 256 ∧ 1 ≤ ST ∧ PD < KH ∧ PD < KW) (hh : KH ≤ H + 2 * PD) (hw : KW ≤ W + 2 * PD) (hR : R = (H + 2 * PD - KH) / ST + 1) (hQ : Q = (W + 2 * PD - KW) / ST + 1) (hkl : O * (C * KH * KW) = nk) (hbl : nb = O) (he : C * KH * KW ≤ 1000) (hu : O * R * Q ≤ 100000) (Ax : Option Addr) (cx : Nat) (xs : List (RV × Rat)) (nx : Nat) (hx : LsR 4 rtcells (roD N) Ax xs w) (hnx : nx = xs.length) (hxl : nx = C * H * W) (hs1 : ∀ (k j : Nat), Sz (convP KH KW H W ST PD R Q (C * KH * KW) (l.kern.map Prod.snd) (l.bias.map Prod.snd) (xs.map Prod.snd) k j) N) (hs2 : ∀ (i : Nat) (a : Int), Sz (((l.kern.map Prod.snd)[i]?).getD 0 * xQ (xs.map Prod.snd) a) N) : Calls Tryz.prog 79 #[.agg #[.int .u8 l.kind, .slice l.Ar nr l.cr, .slice l.Ab nb l.cb, .int .i64 (C : Int), .int .i64 (H : Int), .int .i64 (W : Int), .int .i64 (O : Int), .int .i64 (KH : Int), .int .i64 (KW : Int), .int .i64 (ST : Int), .int .i64 (PD : Int), .slice l.Ak nk l.ck, .slice l.Ag ng l.cg, .slice Ax nx cx]] w (CpRes 4 (rtcells : RV × Rat → Array Value) roN Prod.snd ((List.range (O * R * Q)).map (fun k => convP KH KW H W ST PD R Q (C * KH * KW) (l.kern.map Prod.snd) (l.bias.map Prod.snd) (xs.map Prod.snd) k (C * KH * KW))) w) := by
 have hadd := adr_add
 have Hk := Lib.hid hk
 have Hb := Lib.hid hb
 have Hkl := Lib.hid hkl
 have Hbl := Lib.hid hbl
 have He := Lib.hid he
 have Hu := Lib.hid hu
 have HR := Lib.hid hR
 have HQ := Lib.hid hQ
 have Hnx := Lib.hid hnx
 have Hxl := Lib.hid hxl
 have HS1 := Lib.hid hs1
 have HS2 := Lib.hid hs2
 obtain ⟨x1, hx1⟩ : ∃ a, a = 2 * PD := ⟨_, rfl⟩
 have xe1 : IntKind.i64.wrap (2 * (PD : Int)) = (x1 : Int) := by rw [wrap_id (by omega)]; omega
 obtain ⟨x2, hx2⟩ : ∃ a, a = H + x1 := ⟨_, rfl⟩
 obtain ⟨x3, hx3⟩ : ∃ a, a = x2 - KH := ⟨_, rfl⟩
 obtain ⟨x4, hx4⟩ : ∃ a, a = x3 / ST := ⟨_, rfl⟩
 have xb : x4 ≤ x3 := by rw [hx4]; exact Nat.div_le_self _ _
 have xe2 := wadd hx2 (by omega)
 have xe3 : IntKind.i64.wrap ((x2 : Int) - (KH : Int)) = (x3 : Int) := by rw [wrap_id (by omega)]; omega
 have xe4 : (x3 : Int).tdiv (ST : Int) = (x4 : Int) := by rw [Int.tdiv_eq_ediv_of_nonneg (by omega), hx4]; rfl
 have xe5 : IntKind.i64.wrap (x4 : Int) = (x4 : Int) := wrap_id (by omega)
 have hR4 : R = x4 + 1 := by rw [hR, hx4, hx3, hx2, hx1]
 have xe6 : IntKind.i64.wrap ((x4 : Int) + 1) = (R : Int) := by rw [wrap_id (by omega)]; omega
 obtain ⟨y2, hy2⟩ : ∃ a, a = W + x1 := ⟨_, rfl⟩
 obtain ⟨y3, hy3⟩ : ∃ a, a = y2 - KW := ⟨_, rfl⟩
 obtain ⟨y4, hy4⟩ : ∃ a, a = y3 / ST := ⟨_, rfl⟩
 have yb : y4 ≤ y3 := by rw [hy4]; exact Nat.div_le_self _ _
 have ye2 := wadd hy2 (by omega)
 have ye3 : IntKind.i64.wrap ((y2 : Int) - (KW : Int)) = (y3 : Int) := by rw [wrap_id (by omega)]; omega
 have ye4 : (y3 : Int).tdiv (ST : Int) = (y4 : Int) := by rw [Int.tdiv_eq_ediv_of_nonneg (by omega), hy4]; rfl
 have ye5 : IntKind.i64.wrap (y4 : Int) = (y4 : Int) := wrap_id (by omega)
 have hQ4 : Q = y4 + 1 := by rw [hQ, hy4, hy3, hy2, hx1]
 have ye6 : IntKind.i64.wrap ((y4 : Int) + 1) = (Q : Int) := by rw [wrap_id (by omega)]; omega
 have hst0 : ¬ ST = 0 := by omega
 have hst1 : ¬ (ST : Int) = 0 := by omega
 have hst2 : ((ST : Int) == 0) = false := by simp; omega
 have hRb : R ≤ 1000 := by omega
 have hQb : Q ≤ 1000 := by omega
 have hRs : ∀ r, r < R → r * ST ≤ 1000 := fun r hr => by
  have h9 := Nat.div_mul_le_self x3 ST
  rw [← hx4] at h9
  have h8 : r * ST ≤ x4 * ST := Nat.mul_le_mul_right _ (by omega)
  omega
 have hQs : ∀ r, r < Q → r * ST ≤ 1000 := fun r hr => by
  have h9 := Nat.div_mul_le_self y3 ST
  rw [← hy4] at h9
  have h8 : r * ST ≤ y4 * ST := Nat.mul_le_mul_right _ (by omega)
  omega
 have HRs := Lib.hid hRs
 have HQs := Lib.hid hQs
 clear hR hQ hkl hbl he hu hx1 hx2 hx3 hx4 hy2 hy3 hy4 xb yb hR4 hQ4 hRs hQs hh hw hnx hxl hs1 hs2
 obtain ⟨W0, hW0⟩ : ∃ W0, W0 = (w.alloc (.cells #[.int .u8 l.kind, .slice l.Ar nr l.cr, .slice l.Ab nb l.cb, .int .i64 (C : Int), .int .i64 (H : Int), .int .i64 (W : Int), .int .i64 (O : Int), .int .i64 (KH : Int), .int .i64 (KW : Int), .int .i64 (ST : Int), .int .i64 (PD : Int), .slice l.Ak nk l.ck, .slice l.Ag ng l.cg, .slice Ax nx cx] 104)) := ⟨_, rfl⟩
 have HE := Lib.hid (Env.lay1 (Env.start (((LaD.old l w h)).and (((hx.old roD_old)).and (hT.old)))) hW0)
 subst hW0
 have c := Env.c1 HE.out
 clear h hT hk hb hx
 go_enter Tryz.func79, Tryz.ntmps79
 go_upto_region 2 with fail
 have HE2 := Lib.hid (HE.out.new_ (g := (w.heap.size + 1)) (by simp) 42 #[.int .u8 l.kind, .slice l.Ar nr l.cr, .slice l.Ab nb l.cb, .int .i64 (C : Int), .int .i64 (H : Int), .int .i64 (W : Int), .int .i64 (O : Int), .int .i64 (KH : Int), .int .i64 (KW : Int), .int .i64 (ST : Int), .int .i64 (PD : Int), .slice l.Ak nk l.ck, .slice l.Ag ng l.cg])
 clear HE c
 have HE := HE2
 clear HE2
 have cl := (HE.out.bx ⟨(w.heap.size + 1), 42, #[.int .u8 l.kind, .slice l.Ar nr l.cr, .slice l.Ab nb l.cb, .int .i64 (C : Int), .int .i64 (H : Int), .int .i64 (W : Int), .int .i64 (O : Int), .int .i64 (KH : Int), .int .i64 (KW : Int), .int .i64 (ST : Int), .int .i64 (PD : Int), .slice l.Ak nk l.ck, .slice l.Ag ng l.cg]⟩ (by simp)).cb
 go_upto_region 6 with fail
 clear xe1 xe2 xe3 xe4 xe5 xe6 ye2 ye3 ye4 ye5 ye6 hst0 hst1 hst2 cl
 have HG := Lib.hid (((GL.start (HE.out.perm perm2r)).new_ 30 4).imp (φ := fun V => (∀ b ∈ [(⟨w.heap.size, 104, #[.int .u8 l.kind, .slice l.Ar nr l.cr, .slice l.Ab nb l.cb, .int .i64 (C : Int), .int .i64 (H : Int), .int .i64 (W : Int), .int .i64 (O : Int), .int .i64 (KH : Int), .int .i64 (KW : Int), .int .i64 (ST : Int), .int .i64 (PD : Int), .slice l.Ak nk l.ck, .slice l.Ag ng l.cg, .slice Ax nx cx]⟩ : Bo), ⟨(w.heap.size + 1), 42, #[.int .u8 l.kind, .slice l.Ar nr l.cr, .slice l.Ab nb l.cb, .int .i64 (C : Int), .int .i64 (H : Int), .int .i64 (W : Int), .int .i64 (O : Int), .int .i64 (KH : Int), .int .i64 (KW : Int), .int .i64 (ST : Int), .int .i64 (PD : Int), .slice l.Ak nk l.ck, .slice l.Ag ng l.cg]⟩], Blk V b.g b.t b.cs) ∧ LaD n l V ∧ LsR 4 rtcells (roD N) Ax xs V ∧ Tz V) (ψ := fun V => ∀ zp ∈ ([] : List (RV × Rat)), roN zp V) (fun _ h => h) (fun _ _ => by simp))
 clear HE
 go_loopw [6, 40] (fun ov iv wr => ∃ (Ao : Option Addr) (co x : Nat) (os : List (RV × Rat)), ov = .slice Ao (List.length os) co ∧ iv = .int .i64 (x : Int) ∧ x ≤ O ∧ Hid (CvI (fun k => convP KH KW H W ST PD R Q (C * KH * KW) (l.kern.map Prod.snd) (l.bias.map Prod.snd) (xs.map Prod.snd) k (C * KH * KW)) (x * R * Q) os) ∧ Hid (GL w (⟨30, 4, .slice Ao (List.length os) co, List.map rtcells os⟩ :: []) (fun V => (∀ b ∈ [(⟨w.heap.size, 104, #[.int .u8 l.kind, .slice l.Ar nr l.cr, .slice l.Ab nb l.cb, .int .i64 (C : Int), .int .i64 (H : Int), .int .i64 (W : Int), .int .i64 (O : Int), .int .i64 (KH : Int), .int .i64 (KW : Int), .int .i64 (ST : Int), .int .i64 (PD : Int), .slice l.Ak nk l.ck, .slice l.Ag ng l.cg, .slice Ax nx cx]⟩ : Bo), ⟨(w.heap.size + 1), 42, #[.int .u8 l.kind, .slice l.Ar nr l.cr, .slice l.Ab nb l.cb, .int .i64 (C : Int), .int .i64 (H : Int), .int .i64 (W : Int), .int .i64 (O : Int), .int .i64 (KH : Int), .int .i64 (KW : Int), .int .i64 (ST : Int), .int .i64 (PD : Int), .slice l.Ak nk l.ck, .slice l.Ag ng l.cg]⟩], Blk V b.g b.t b.cs) ∧ LaD n l V ∧ LsR 4 rtcells (roD N) Ax xs V ∧ Tz V) (fun V => ∀ zp ∈ os, roN zp V) wr)) (fun _ iv _ => O - (intOf iv).toNat)
 case atStart => exact ⟨none, 0, 0, [], rfl, rfl, Nat.zero_le _, Lib.hid ⟨by simp⟩, HG⟩
 case round =>
  clear HG
  obtain ⟨Ao, co, o, os, rfl, rfl, ho, HI, HG⟩ := hrel
  by_cases hlo : o < O
  ·have cl := Blk.cb (HG.out.o.1 ⟨(w.heap.size + 1), 42, #[.int .u8 l.kind, .slice l.Ar nr l.cr, .slice l.Ab nb l.cb, .int .i64 (C : Int), .int .i64 (H : Int), .int .i64 (W : Int), .int .i64 (O : Int), .int .i64 (KH : Int), .int .i64 (KW : Int), .int .i64 (ST : Int), .int .i64 (PD : Int), .slice l.Ak nk l.ck, .slice l.Ag ng l.cg]⟩ (by simp))
   go_upto_region 9 with fail
   clear cl
   go_loopw [6, 44] (fun ov iv wr => ∃ (Ao : Option Addr) (co x : Nat) (os : List (RV × Rat)), ov = .slice Ao (List.length os) co ∧ iv = .int .i64 (x : Int) ∧ x ≤ R ∧ Hid (CvI (fun k => convP KH KW H W ST PD R Q (C * KH * KW) (l.kern.map Prod.snd) (l.bias.map Prod.snd) (xs.map Prod.snd) k (C * KH * KW)) ((o * R + x) * Q) os) ∧ Hid (GL w (⟨30, 4, .slice Ao (List.length os) co, List.map rtcells os⟩ :: []) (fun V => (∀ b ∈ [(⟨w.heap.size, 104, #[.int .u8 l.kind, .slice l.Ar nr l.cr, .slice l.Ab nb l.cb, .int .i64 (C : Int), .int .i64 (H : Int), .int .i64 (W : Int), .int .i64 (O : Int), .int .i64 (KH : Int), .int .i64 (KW : Int), .int .i64 (ST : Int), .int .i64 (PD : Int), .slice l.Ak nk l.ck, .slice l.Ag ng l.cg, .slice Ax nx cx]⟩ : Bo), ⟨(w.heap.size + 1), 42, #[.int .u8 l.kind, .slice l.Ar nr l.cr, .slice l.Ab nb l.cb, .int .i64 (C : Int), .int .i64 (H : Int), .int .i64 (W : Int), .int .i64 (O : Int), .int .i64 (KH : Int), .int .i64 (KW : Int), .int .i64 (ST : Int), .int .i64 (PD : Int), .slice l.Ak nk l.ck, .slice l.Ag ng l.cg]⟩], Blk V b.g b.t b.cs) ∧ LaD n l V ∧ LsR 4 rtcells (roD N) Ax xs V ∧ Tz V) (fun V => ∀ zp ∈ os, roN zp V) wr)) (fun _ iv _ => R - (intOf iv).toNat)
   case atStart => exact ⟨Ao, co, 0, os, rfl, rfl, Nat.zero_le _, Lib.hid (by rw [Nat.add_zero]; exact HI.out), HG⟩
   case round =>
    clear HG HI
    obtain ⟨Ao, co, r, os, rfl, rfl, hr, HI, HG⟩ := hrel
    by_cases hlr : r < R
    ·have cl := Blk.cb (HG.out.o.1 ⟨(w.heap.size + 1), 42, #[.int .u8 l.kind, .slice l.Ar nr l.cr, .slice l.Ab nb l.cb, .int .i64 (C : Int), .int .i64 (H : Int), .int .i64 (W : Int), .int .i64 (O : Int), .int .i64 (KH : Int), .int .i64 (KW : Int), .int .i64 (ST : Int), .int .i64 (PD : Int), .slice l.Ak nk l.ck, .slice l.Ag ng l.cg]⟩ (by simp))
     go_upto_region 12 with fail
     clear cl
     go_loopw [6, 48] (fun ov iv wr => ∃ (Ao : Option Addr) (co x : Nat) (os : List (RV × Rat)), ov = .slice Ao (List.length os) co ∧ iv = .int .i64 (x : Int) ∧ x ≤ Q ∧ Hid (CvI (fun k => convP KH KW H W ST PD R Q (C * KH * KW) (l.kern.map Prod.snd) (l.bias.map Prod.snd) (xs.map Prod.snd) k (C * KH * KW)) ((o * R + r) * Q + x) os) ∧ Hid (GL w (⟨30, 4, .slice Ao (List.length os) co, List.map rtcells os⟩ :: []) (fun V => (∀ b ∈ [(⟨w.heap.size, 104, #[.int .u8 l.kind, .slice l.Ar nr l.cr, .slice l.Ab nb l.cb, .int .i64 (C : Int), .int .i64 (H : Int), .int .i64 (W : Int), .int .i64 (O : Int), .int .i64 (KH : Int), .int .i64 (KW : Int), .int .i64 (ST : Int), .int .i64 (PD : Int), .slice l.Ak nk l.ck, .slice l.Ag ng l.cg, .slice Ax nx cx]⟩ : Bo), ⟨(w.heap.size + 1), 42, #[.int .u8 l.kind, .slice l.Ar nr l.cr, .slice l.Ab nb l.cb, .int .i64 (C : Int), .int .i64 (H : Int), .int .i64 (W : Int), .int .i64 (O : Int), .int .i64 (KH : Int), .int .i64 (KW : Int), .int .i64 (ST : Int), .int .i64 (PD : Int), .slice l.Ak nk l.ck, .slice l.Ag ng l.cg]⟩], Blk V b.g b.t b.cs) ∧ LaD n l V ∧ LsR 4 rtcells (roD N) Ax xs V ∧ Tz V) (fun V => ∀ zp ∈ os, roN zp V) wr)) (fun _ iv _ => Q - (intOf iv).toNat)
     case atStart => exact ⟨Ao, co, 0, os, rfl, rfl, Nat.zero_le _, Lib.hid (by rw [Nat.add_zero]; exact HI.out), HG⟩
     case round =>
      clear HG HI
      obtain ⟨Ao, co, q, os, rfl, rfl, hq, HI, HG⟩ := hrel
      by_cases hlq : q < Q
      ·have cl := Blk.cb (HG.out.o.1 ⟨(w.heap.size + 1), 42, #[.int .u8 l.kind, .slice l.Ar nr l.cr, .slice l.Ab nb l.cb, .int .i64 (C : Int), .int .i64 (H : Int), .int .i64 (W : Int), .int .i64 (O : Int), .int .i64 (KH : Int), .int .i64 (KW : Int), .int .i64 (ST : Int), .int .i64 (PD : Int), .slice l.Ak nk l.ck, .slice l.Ag ng l.cg]⟩ (by simp))
       have cs := Blk.cb (HG.out.o.1 ⟨w.heap.size, 104, #[.int .u8 l.kind, .slice l.Ar nr l.cr, .slice l.Ab nb l.cb, .int .i64 (C : Int), .int .i64 (H : Int), .int .i64 (W : Int), .int .i64 (O : Int), .int .i64 (KH : Int), .int .i64 (KW : Int), .int .i64 (ST : Int), .int .i64 (PD : Int), .slice l.Ak nk l.ck, .slice l.Ag ng l.cg, .slice Ax nx cx]⟩ (by simp))
       obtain ⟨t1, ht1⟩ : ∃ a, a = r * ST := ⟨_, rfl⟩
       obtain ⟨t2, ht2⟩ : ∃ a, a = q * ST := ⟨_, rfl⟩
       have hb1 : t1 ≤ 1000 := by rw [ht1]; exact HRs.out r hlr
       have hb2 : t2 ≤ 1000 := by rw [ht2]; exact HQs.out q hlq
       have e1 := wmul ht1 (by omega)
       have e2 := wmul ht2 (by omega)
       obtain ⟨row, hrow⟩ : ∃ a : Int, a = (t1 : Int) - (PD : Int) := ⟨_, rfl⟩
       obtain ⟨col, hcol⟩ : ∃ a : Int, a = (t2 : Int) - (PD : Int) := ⟨_, rfl⟩
       have e3 : IntKind.i64.wrap ((t1 : Int) - (PD : Int)) = row := by rw [hrow]; exact wrap_id' (by omega)
       have e4 : IntKind.i64.wrap ((t2 : Int) - (PD : Int)) = col := by rw [hcol]; exact wrap_id' (by omega)
       have hk9 : (o * R + r) * Q + q < O * R * Q := by
        have a1 : (o + 1) * R ≤ O * R := Nat.mul_le_mul_right _ hlo
        rw [Nat.add_mul, Nat.one_mul] at a1
        have a2 : (o * R + r + 1) * Q ≤ O * R * Q := Nat.mul_le_mul_right _ (by omega)
        rw [Nat.add_mul, Nat.one_mul] at a2
        omega
       have Hol := Lib.hid (show os.length ≤ 1000000 by have := Hu.out; have := HI.out.len; omega)
       have hob : o < l.bias.length := by rw [← Hb.out, Hbl.out]; exact hlo
       have HC := Lib.hid (show ∀ j, convP KH KW H W ST PD R Q (C * KH * KW) (l.kern.map Prod.snd) (l.bias.map Prod.snd) (xs.map Prod.snd) ((o * R + r) * Q + q) j = (l.bias[o]'hob).2 + sumK (plK KH KW (H : Int) (W : Int) row col) (kq (l.kern.map Prod.snd) (C * KH * KW) o) (xQ (xs.map Prod.snd)) j from by
        intro j
        obtain ⟨n1, n2, n3⟩ := nest (p := o) hlr hlq
        unfold convP biasF plC
        rw [n1, n2, n3, hrow, hcol, ht1, ht2, List.getElem?_map, List.getElem?_eq_getElem hob]
        rfl)
       have Ho2 := Lib.hid (show (o + 1) * (C * KH * KW) ≤ nk by rw [← Hkl.out]; exact Nat.mul_le_mul_right _ hlo)
       have hrow2 : -1000 ≤ row ∧ row ≤ 1000 := by omega
       have hcol2 : -1000 ≤ col ∧ col ≤ 1000 := by omega
       have ho256 : o ≤ 256 := by omega
       have Hrc := Lib.hid (And.intro hrow2 (And.intro hcol2 (And.intro ho256 hob)))
       clear hrow hcol ht1 ht2 hb1 hb2 hk9 hrow2 hcol2 ho256
       go_wp2_with fail
       refine (nspot_any _ n N hnN hN h1n l HG.out.o.2.1 HG.out.o.2.2.2 nr nb nk ng Hk.out Hb.out C H W O KH KW ST PD hd o Hrc.out.2.2.1 hob Ho2.out He.out row col Hrc.out.1 Hrc.out.2.1 Ax cx xs nx HG.out.o.2.2.1 Hnx.out Hxl.out (fun j => by rw [← HC.out]; exact HS1.out _ _) HS2.out).mono ?_
       rintro e wq ⟨k9, rfl, hk9, hb9⟩
       rw [← HC.out] at hk9
       replace HG := Lib.hid (HG.out.call hk9 hb9)
       clear hk9 hb9 cl cs
       have HGa := HG.out.box 30 #[.bool k9.num.neg, .slice k9.num.A k9.num.k k9.num.c, .bool k9.den.neg, .slice k9.den.A k9.den.k k9.den.c]
       obtain ⟨A', c', w8, hrun, hG⟩ := GL.appG (k := 0) (cells := rtcells) under_rats info_rat rfl (by decide) (by decide) HGa rfl ((k9, (fun k => convP KH KW H W ST PD R Q (C * KH * KW) (l.kern.map Prod.snd) (l.bias.map Prod.snd) (xs.map Prod.snd) k (C * KH * KW)) ((o * R + r) * Q + q)) : RV × Rat) rfl (rtcells_one _) HGa.n.1 Hol.out
       have Hrun := Lib.hid hrun
       have HG2 := Lib.hid hG
       clear hrun hG HGa HG
       go_wp2_with (at_builtin; refine wpList_append_eq rfl (.tmp 51) (.tmp 69) 25 _ _ _ rfl rfl rfl Hrun.out ?_)
       clear Hrun
       go_wp2_with fail
       go_roundw
       case rel => exact ⟨A', c', q + 1, os ++ [(k9, (fun k => convP KH KW H W ST PD R Q (C * KH * KW) (l.kern.map Prod.snd) (l.bias.map Prod.snd) (xs.map Prod.snd) k (C * KH * KW)) ((o * R + r) * Q + q))], by simp, by go_num, by omega, Lib.hid (HI.out.next rfl), Lib.hid (HG2.out.imp (fun _ h => h) (fun V h => fun zp hz => (List.mem_append.1 hz).elim (fun hz => h.2.2 zp hz) (fun hz => by rw [List.mem_singleton.1 hz]; exact h.2.1)))⟩
       case measure => (simp [intOf] <;> omega)
      ·obtain rfl : q = Q := by omega
       have HI2 := Lib.hid (show CvI (fun k => convP KH KW H W ST PD R q (C * KH * KW) (l.kern.map Prod.snd) (l.bias.map Prod.snd) (xs.map Prod.snd) k (C * KH * KW)) ((o * R + (r + 1)) * q) os by have h9 := HI.out; rwa [← Nat.add_assoc, Nat.add_mul (o * R + r) 1, Nat.one_mul])
       go_wp2_with fail
       go_roundw
       case rel => exact ⟨Ao, co, r + 1, os, rfl, by go_num, by omega, HI2, HG⟩
       case measure => (simp [intOf] <;> omega)
    ·obtain rfl : r = R := by omega
     have HI2 := Lib.hid (show CvI (fun k => convP KH KW H W ST PD r Q (C * KH * KW) (l.kern.map Prod.snd) (l.bias.map Prod.snd) (xs.map Prod.snd) k (C * KH * KW)) ((o + 1) * r * Q) os by have h9 := HI.out; rwa [Nat.add_mul o 1, Nat.one_mul])
     go_wp2_with fail
     go_roundw
     case rel => exact ⟨Ao, co, o + 1, os, rfl, by go_num, by omega, HI2, HG⟩
     case measure => (simp [intOf] <;> omega)
  ·obtain rfl : o = O := by omega
   obtain ⟨A', c', hv, hcc, hr⟩ := HG.out.tell (cells := rtcells) (ok := roN) (l := os) (fun V h => h)
   obtain ⟨rfl, rfl⟩ : Ao = A' ∧ co = c' := by simpa using hv
   have Hr2 := Lib.hid hr
   have Hcc := Lib.hid hcc
   have Hbel := Lib.hid HG.out.bel
   clear hr hv HG hcc
   go_wp2_with fail
   go_ret
   exact ⟨Ao, co, os, rfl, Hcc.out, HI.out.q, Hr2.out, Hbel.out⟩

theorem sliced1 {A : Option Addr} {n c : Nat} (hs : Sl A n) (h1 : 1 ≤ n) (hc : n ≤ c) : ∃ B : Option Addr, (∀ W : World, (Instr.sliceAt 51 (.slice A n c) (some (.int .i64 1)) none none).run Tryz.prog W = .ok (.slice B (n - 1) (c - 1)) W) ∧ Sl B (n - 1) ∧ ∀ k, k < n - 1 → adr B k = adr A (k + 1) := by
 obtain ⟨b, o, rfl⟩ := hs h1
 have hr : ∀ W : World, (Instr.sliceAt 51 (.slice (some ⟨b, o, none⟩) n c) (some (.int .i64 1)) none none).run Tryz.prog W = .ok (sliced (some ⟨b, o, none⟩) 1 n c 1) W := fun W => by
  have hu : Tryz.prog.underlying 51 = some (.slice (Tryz.prog.elem 51)) := by kernel_rfl
  rw [run_sliceAt_slice (h := hu), run_slice_l (ht := hu) (h0 := by decide) (h1 := by omega), size_ints W]
  rfl
 by_cases h : c = 1
 ·have hn : n = 1 := by omega
  subst h hn
  exact ⟨some ⟨b, o, none⟩, fun W => by rw [hr]; rfl, fun h => absurd h (by decide), fun k hk => absurd hk (by omega)⟩
 ·refine ⟨some ⟨b, o + 1, none⟩, fun W => ?_, Sl.some_ _ _ _, fun k _ => ?_⟩
  ·rw [hr]; unfold sliced; rw [if_neg h]; rfl
  ·rw [adr_some, adr_some]; congr 1; omega
def poolK (xs : List Rat) (g : List Int) : Nat → Rat
 | 0 => xQ xs (g[0]?.getD 0)
 | k + 1 => maxQ (poolK xs g k) (xQ xs (g[k + 1]?.getD 0))
def poolP (grs : List GrV) (xs : List Rat) (i : Nat) : Rat := poolK xs ((grs[i]?.map GrV.l).getD []) (((grs[i]?.map GrV.l).getD []).length - 1)
theorem poolK_sz {xs : List Rat} {g : List Int} {N : Nat} (h1 : 1 ≤ N) (h : ∀ q ∈ xs, Sz q N) : ∀ k, Sz (poolK xs g k) N
 | 0 => getD_sz h1 h _
 | k + 1 => by
  unfold poolK maxQ
  split
  ·exact getD_sz h1 h _
  ·exact poolK_sz h1 h k
theorem xQ_at {xs : List (RV × Rat)} {a : Nat} (h : a < xs.length) : xQ (xs.map Prod.snd) (a : Int) = xs[a].2 := by
 unfold xQ; rw [Int.toNat_natCast, List.getElem?_map, List.getElem?_eq_getElem h]; rfl
set_option maxRecDepth 100000 in
theorem npool_any (w : World) (n N : Nat) (hN : N ≤ 400000000000) (h1N : 1 ≤ N) (l : LaV) (h : LaD n l w) (nr nb nk ng : Nat) (hng : ng = l.grs.length) (hngl : ng ≤ 100000) (Ax : Option Addr) (cx : Nat) (xs : List (RV × Rat)) (hx : LsR 4 rtcells (roD N) Ax xs w) (nx : Nat) (hnx : nx = xs.length) (hgp : ∀ g ∈ l.grs, g.l ≠ [] ∧ ∀ z ∈ g.l, 0 ≤ z ∧ z < (nx : Int)) (hgc : ∀ g ∈ l.grs, g.l.length ≤ g.c) (hgm : ∀ g ∈ l.grs, g.l.length ≤ 100000) (hT : Tz w) : Calls Tryz.prog 80 #[.agg #[.int .u8 l.kind, .slice l.Ar nr l.cr, .slice l.Ab nb l.cb, .int .i64 l.ch, .int .i64 l.high, .int .i64 l.wide, .int .i64 l.out, .int .i64 l.kh, .int .i64 l.kw, .int .i64 l.st, .int .i64 l.pad, .slice l.Ak nk l.ck, .slice l.Ag ng l.cg, .slice Ax nx cx]] w (CpRes 4 (rtcells : RV × Rat → Array Value) roN Prod.snd ((List.range l.grs.length).map (poolP l.grs (xs.map Prod.snd))) w) := by
 have slg := h.grs.sl
 rw [← hng] at slg
 have slx := hx.sl
 rw [← hnx] at slx
 have szg := size_grs
 have szi := size_ints
 have szr := size_rats
 have hadd := adr_add
 have Hg := Lib.hid hng
 have Hn := Lib.hid hnx
 have hgb : ng ≤ 100000 := hngl
 have HXS := Lib.hid (show ∀ q ∈ xs.map Prod.snd, Sz q N from fun q hq => by
  obtain ⟨p, hp, rfl⟩ := List.mem_map.1 hq
  exact RatD.sz (show RatD p.1 p.2 N w from hx.ok p hp) h1N)
 obtain ⟨W0, hW0⟩ : ∃ W0, W0 = (w.alloc (.cells #[.int .u8 l.kind, .slice l.Ar nr l.cr, .slice l.Ab nb l.cb, .int .i64 l.ch, .int .i64 l.high, .int .i64 l.wide, .int .i64 l.out, .int .i64 l.kh, .int .i64 l.kw, .int .i64 l.st, .int .i64 l.pad, .slice l.Ak nk l.ck, .slice l.Ag ng l.cg, .slice Ax nx cx] 104)) := ⟨_, rfl⟩
 have HE := Lib.hid (Env.lay1 (Env.start (((LaD.old l w h)).and (((hx.old roD_old)).and (hT.old)))) hW0)
 subst hW0
 have c := Env.c1 HE.out
 clear h hx hT hnx hng hngl
 go_enter Tryz.func80, Tryz.ntmps80
 go_wp2_with fail
 have HG := Lib.hid (GL.start HE.out)
 clear HE
 rw [make_rats99 _ ng (by omega)]
 obtain ⟨W4, gx, hW4, hgx, HG2⟩ := HG.out.al4 ng (by omega)
 rw [hW4, hgx]
 clear hW4 hgx HG c
 obtain ⟨Ao, hAo⟩ : ∃ A : Option Addr, A = some ⟨gx, 0, none⟩ := ⟨_, rfl⟩
 rw [← hAo] at HG2 ⊢
 have HAo := Lib.hid hAo
 have slo : Sl Ao ng := by rw [hAo]; exact Sl.some_ _ _ _
 clear hAo
 have HG := Lib.hid (show GL w (⟨30, 4, .slice Ao ng ng, List.map rtcells (zerosX ng)⟩ :: []) (fun V => (∀ b ∈ [(⟨w.heap.size, 104, #[.int .u8 l.kind, .slice l.Ar nr l.cr, .slice l.Ab nb l.cb, .int .i64 l.ch, .int .i64 l.high, .int .i64 l.wide, .int .i64 l.out, .int .i64 l.kh, .int .i64 l.kw, .int .i64 l.st, .int .i64 l.pad, .slice l.Ak nk l.ck, .slice l.Ag ng l.cg, .slice Ax nx cx]⟩ : Bo)], Blk V b.g b.t b.cs) ∧ LaD n l V ∧ LsR 4 rtcells (roD N) Ax xs V ∧ Tz V) (fun V => ∀ zp ∈ (zerosX ng), roN zp V) _ from HG2.out.imp (fun _ h => h) (fun V _ => roN_zeros ng V))
 clear HG2
 have c := Blk.cb (HG.out.o.1 _ (List.mem_singleton_self _))
 go_upto_region 3 with fail
 clear c
 go_loopw [17] (fun iv wr => ∃ (i : Nat) (os : List (RV × Rat)), iv = .int .i64 (i : Int) ∧ i ≤ ng ∧ Hid (SetI (poolP l.grs (xs.map Prod.snd)) ng i os) ∧ Hid (GL w (⟨30, 4, .slice Ao ng ng, List.map rtcells os⟩ :: []) (fun V => (∀ b ∈ [(⟨w.heap.size, 104, #[.int .u8 l.kind, .slice l.Ar nr l.cr, .slice l.Ab nb l.cb, .int .i64 l.ch, .int .i64 l.high, .int .i64 l.wide, .int .i64 l.out, .int .i64 l.kh, .int .i64 l.kw, .int .i64 l.st, .int .i64 l.pad, .slice l.Ak nk l.ck, .slice l.Ag ng l.cg, .slice Ax nx cx]⟩ : Bo)], Blk V b.g b.t b.cs) ∧ LaD n l V ∧ LsR 4 rtcells (roD N) Ax xs V ∧ Tz V) (fun V => ∀ zp ∈ os, roN zp V) wr)) (fun iv _ => ng - (intOf iv).toNat)
 case atStart => exact ⟨0, zerosX ng, rfl, Nat.zero_le _, Lib.hid (SetI.start _ _), HG⟩
 case round =>
  clear HG
  obtain ⟨i, os, rfl, hi, HI, HG⟩ := hrel
  by_cases hlt : i < ng
  ·have hlg : i < l.grs.length := by rw [← Hg.out]; exact hlt
   have hlo : i < os.length := by rw [HI.out.n]; exact hlt
   have c0 := HG.out.o.2.1.grs.gc i hlg
   have HF := Lib.hid (show poolK (xs.map Prod.snd) (l.grs[i]).l ((l.grs[i]).l.length - 1) = (poolP l.grs (xs.map Prod.snd)) i from by unfold poolP; simp [hlg])
   have HGD := Lib.hid (show ∀ V, LaD n l V → LsR 1 icells okI (l.grs[i]).A (l.grs[i]).l V from fun V h => h.grs.ok _ (List.getElem_mem hlg))
   have HGP := Lib.hid (hgp _ (List.getElem_mem hlg))
   have HGC := Lib.hid (hgc _ (List.getElem_mem hlg))
   have HGM := Lib.hid (hgm _ (List.getElem_mem hlg))
   obtain ⟨g, hg⟩ : ∃ g, g = l.grs[i] := ⟨_, rfl⟩
   rw [← hg] at c0 HF HGD HGP HGC HGM
   clear hg hlg
   have slg2 := (HGD.out _ HG.out.o.2.1).sl
   obtain ⟨m, hm⟩ : ∃ m, m = g.l.length := ⟨_, rfl⟩
   rw [← hm] at c0 slg2 HF HGC HGM
   have Hm := Lib.hid hm
   have hmb : m ≤ 100000 := HGM.out
   have h1m : 0 < m := by rw [hm]; exact List.length_pos_iff.2 HGP.out.1
   have hl1 : 0 < g.l.length := by rw [← hm]; exact h1m
   obtain ⟨a0, ha0⟩ : ∃ a : Nat, g.l[0] = (a : Int) := ⟨(g.l[0]).toNat, by have := (HGP.out.2 _ (List.getElem_mem hl1)).1; omega⟩
   have hax : a0 < nx := by have := (HGP.out.2 _ (List.getElem_mem hl1)).2; omega
   have hax2 : a0 < xs.length := by rw [← Hn.out]; exact hax
   have cg0 := (HGD.out _ HG.out.o.2.1).ic 0 hl1
   rw [ha0] at cg0
   have HG0 := Lib.hid (show ∀ V, LaD n l V → V.cell? (adr g.A 0) = some (.int .i64 (a0 : Int)) from fun V h => by have h9 := (HGD.out _ h).ic 0 hl1; rw [ha0] at h9; exact h9)
   have HK0 := Lib.hid (show (xs[a0]).2 = poolK (xs.map Prod.snd) g.l 0 from by unfold poolK; rw [List.getElem?_eq_getElem hl1, ha0]; exact (xQ_at hax2).symm)
   have HXE := Lib.hid (show ∀ V, LsR 4 rtcells (roD N) Ax xs V → RC Ax a0 (xs[a0]) V ∧ RatD (xs[a0]).1 (xs[a0]).2 N V from fun V h => ⟨h.rc a0 hax2, h.ok _ (List.getElem_mem hax2)⟩)
   obtain ⟨v, hv⟩ : ∃ v, v = xs[a0] := ⟨_, rfl⟩
   rw [← hv] at HK0 HXE
   clear hv ha0 hl1 hm hax2
   go_upto_region 5 with fail
   clear c0 cg0
   refine wp_region_noPanic ?_
   refine wp_region_G 11 (fun V => CB (w.heap.size) #[.int .u8 l.kind, .slice l.Ar nr l.cr, .slice l.Ab nb l.cb, .int .i64 l.ch, .int .i64 l.high, .int .i64 l.wide, .int .i64 l.out, .int .i64 l.kh, .int .i64 l.kw, .int .i64 l.st, .int .i64 l.pad, .slice l.Ak nk l.ck, .slice l.Ag ng l.cg, .slice Ax nx cx] V ∧ V.cell? (adr g.A 0) = some (.int .i64 (a0 : Int)) ∧ RC Ax a0 v V) (by kernel_rfl) (by with_reducible first | exact ⟨Blk.cb (HG.out.o.1 _ (List.mem_singleton_self _)), HG0.out _ HG.out.o.2.1, (HXE.out _ HG.out.o.2.2.1).1⟩ | exact ⟨Blk.cb (HG.out.drew.o.1 _ (List.mem_singleton_self _)), HG0.out _ HG.out.drew.o.2.1, (HXE.out _ HG.out.drew.o.2.2.1).1⟩) (fun hHeld => ?_)
   replace HG := Lib.hid HG.out.drew
   refine gTa 0 22 hHeld ?_
   refine gTa 1 23 hHeld ?_
   refine gTa 2 24 hHeld ?_
   refine gTa 3 25 hHeld ?_
   refine gTa 4 26 hHeld ?_
   refine gTa 5 27 hHeld ?_
   refine gTa 6 28 hHeld ?_
   refine gTa 7 29 hHeld ?_
   refine gTa 8 30 hHeld ?_
   refine gC 9 rfl (by kernel_rfl) (by rfl) (fun K hK => ?_)
   clear hHeld
   simp only [q1, q2, q3]
   go_simp
   refine (rnorm_any _ v.1 v.2 N (by omega) h1N (HXE.out _ HG.out.o.2.2.1).2 HG.out.o.2.2.2).mono ?_
   rintro e wq ⟨k0, rfl, hk9, hb9⟩
   rw [HK0.out] at hk9
   replace HG := Lib.hid (HG.out.call hk9 hb9)
   clear hk9 hb9
   (try (go_wp2_with fail))
   refine hK.out _ _ (by with_reducible first | exact ⟨Blk.cb (HG.out.o.1 _ (List.mem_singleton_self _)), HG0.out _ HG.out.o.2.1, (HXE.out _ HG.out.o.2.2.1).1⟩ | exact ⟨Blk.cb (HG.out.drew.o.1 _ (List.mem_singleton_self _)), HG0.out _ HG.out.drew.o.2.1, (HXE.out _ HG.out.drew.o.2.2.1).1⟩) (fun hHeld => ?_)
   clear hK K
   try simp only [p1, p2, p3, p4]
   refine gTa 10 32 hHeld ?_
   have fr := HG.out.free HAo.out (k := 0) rfl
   have rcx := HG.out.rc (k := 0) rfl hlo
   have hadd2 : ∀ (n j : Nat), (⟨(adr Ao n).block, (adr Ao n).off + j, none⟩ : Addr) = adr Ao (n + j) := fun n j => by unfold adr; simp [Nat.add_assoc]
   have hs01 := cell_ne9 Ao (show i * 4 ≠ i * 4 + 1 by omega)
   have hs02 := cell_ne9 Ao (show i * 4 ≠ i * 4 + 2 by omega)
   have hs03 := cell_ne9 Ao (show i * 4 ≠ i * 4 + 3 by omega)
   have hs12 := cell_ne9 Ao (show i * 4 + 1 ≠ i * 4 + 2 by omega)
   have hs13 := cell_ne9 Ao (show i * 4 + 1 ≠ i * 4 + 3 by omega)
   have hs23 := cell_ne9 Ao (show i * 4 + 2 ≠ i * 4 + 3 by omega)
   refine gL rfl (by kernel_rfl) (by kernel_rfl) (by rfl) (fun K hK => ?_)
   clear hHeld
   simp only [q1, q2, q3]
   go_simp
   (try (go_wp2_with fail))
   refine hK.out _ _ ?_
   clear hK K
   try simp only [p1, p2, p3, p4]
   refine NoPanic.normal ?_
   clear rcx fr hadd2 hs01 hs02 hs03 hs12 hs13 hs23
   replace HG := Lib.hid (HG.out.putR HAo.out (k := 0) rfl hlo k0 (poolK (xs.map Prod.snd) g.l 0))
   obtain ⟨B, hsl, slB, hadB⟩ := sliced1 slg2 h1m HGC.out
   have HadB := Lib.hid hadB
   clear hadB
   have HG9 := Lib.hid (show GL w (⟨30, 4, .slice Ao ng ng, List.map rtcells (os.set i (k0, poolK (xs.map Prod.snd) g.l 0))⟩ :: []) (fun V => (∀ b ∈ [(⟨w.heap.size, 104, #[.int .u8 l.kind, .slice l.Ar nr l.cr, .slice l.Ab nb l.cb, .int .i64 l.ch, .int .i64 l.high, .int .i64 l.wide, .int .i64 l.out, .int .i64 l.kh, .int .i64 l.kw, .int .i64 l.st, .int .i64 l.pad, .slice l.Ak nk l.ck, .slice l.Ag ng l.cg, .slice Ax nx cx]⟩ : Bo)], Blk V b.g b.t b.cs) ∧ LaD n l V ∧ LsR 4 rtcells (roD N) Ax xs V ∧ Tz V) (fun V => ∀ zp ∈ (os.set i (k0, poolK (xs.map Prod.snd) g.l 0)), roN zp V) _ from HG.out.imp (fun _ h => h) (fun V h => all_set8 (P := fun p => roN p V) h.2 h.1))
   clear HG
   have HG := HG9
   clear HG9
   go_upto_region 7 with fail
   clear hsl
   go_loopw [36] (fun kv wr => ∃ (k : Nat) (r : RV), kv = .int .i64 (k : Int) ∧ k ≤ m - 1 ∧ Hid (GL w (⟨30, 4, .slice Ao ng ng, List.map rtcells (os.set i (r, poolK (xs.map Prod.snd) g.l k))⟩ :: []) (fun V => (∀ b ∈ [(⟨w.heap.size, 104, #[.int .u8 l.kind, .slice l.Ar nr l.cr, .slice l.Ab nb l.cb, .int .i64 l.ch, .int .i64 l.high, .int .i64 l.wide, .int .i64 l.out, .int .i64 l.kh, .int .i64 l.kw, .int .i64 l.st, .int .i64 l.pad, .slice l.Ak nk l.ck, .slice l.Ag ng l.cg, .slice Ax nx cx]⟩ : Bo)], Blk V b.g b.t b.cs) ∧ LaD n l V ∧ LsR 4 rtcells (roD N) Ax xs V ∧ Tz V) (fun V => ∀ zp ∈ (os.set i (r, poolK (xs.map Prod.snd) g.l k)), roN zp V) wr)) (fun kv _ => (m - 1) - (intOf kv).toNat)
   case atStart => exact ⟨0, k0, rfl, Nat.zero_le _, HG⟩
   case round =>
    clear HG
    obtain ⟨k, r, rfl, hk, HG⟩ := hrel
    by_cases hlk : k < m - 1
    ·have hk1 : k + 1 < g.l.length := by rw [← Hm.out]; omega
     obtain ⟨a1, ha1⟩ : ∃ a : Nat, g.l[k + 1] = (a : Int) := ⟨(g.l[k + 1]).toNat, by have := (HGP.out.2 _ (List.getElem_mem hk1)).1; omega⟩
     have hax1 : a1 < nx := by have := (HGP.out.2 _ (List.getElem_mem hk1)).2; omega
     have hax3 : a1 < xs.length := by rw [← Hn.out]; exact hax1
     have cg1 := (HGD.out _ HG.out.o.2.1).ic (k + 1) hk1
     rw [ha1, ← HadB.out k hlk] at cg1
     have HKM := Lib.hid (show maxQ (poolK (xs.map Prod.snd) g.l k) (xs[a1]).2 = poolK (xs.map Prod.snd) g.l (k + 1) from by rw [poolK, List.getElem?_eq_getElem hk1, ha1]; exact congrArg _ (xQ_at hax3).symm)
     have HXE1 := Lib.hid (show ∀ V, LsR 4 rtcells (roD N) Ax xs V → RC Ax a1 (xs[a1]) V ∧ RatD (xs[a1]).1 (xs[a1]).2 N V from fun V h => ⟨h.rc a1 hax3, h.ok _ (List.getElem_mem hax3)⟩)
     obtain ⟨u, hu⟩ : ∃ u, u = xs[a1] := ⟨_, rfl⟩
     rw [← hu] at HKM HXE1
     have hlo2 : i < (os.set i (r, poolK (xs.map Prod.snd) g.l k)).length := by rw [List.length_set]; exact hlo
     have HRC := Lib.hid (show ∀ (ls' : List Ow) (nw : World → Prop) (V : World), GL w ls' (fun V => (∀ b ∈ [(⟨w.heap.size, 104, #[.int .u8 l.kind, .slice l.Ar nr l.cr, .slice l.Ab nb l.cb, .int .i64 l.ch, .int .i64 l.high, .int .i64 l.wide, .int .i64 l.out, .int .i64 l.kh, .int .i64 l.kw, .int .i64 l.st, .int .i64 l.pad, .slice l.Ak nk l.ck, .slice l.Ag ng l.cg, .slice Ax nx cx]⟩ : Bo)], Blk V b.g b.t b.cs) ∧ LaD n l V ∧ LsR 4 rtcells (roD N) Ax xs V ∧ Tz V) nw V → ls'[0]? = some ⟨30, 4, .slice Ao ng ng, List.map rtcells (os.set i (r, poolK (xs.map Prod.snd) g.l k))⟩ → RC Ao i (r, poolK (xs.map Prod.snd) g.l k) V from fun ls' nw V h h0 => by have h9 := h.rc h0 hlo2; rw [List.getElem_set_self] at h9; exact h9)
     have hrm : (r, poolK (xs.map Prod.snd) g.l k) ∈ (os.set i (r, poolK (xs.map Prod.snd) g.l k)) := by rw [List.mem_iff_getElem]; exact ⟨i, hlo2, List.getElem_set_self ..⟩
     have Hrm := Lib.hid hrm
     have HKS := Lib.hid (show Sz (poolK (xs.map Prod.snd) g.l k) N from poolK_sz h1N HXS.out k)
     clear hu ha1 hk1 hax3 hrm
     go_upto_region 9 with fail
     clear cg1
     refine wp_region_noPanic ?_
     refine wp_region_G 13 (fun V => RC Ao i (r, poolK (xs.map Prod.snd) g.l k) V ∧ CB (w.heap.size) #[.int .u8 l.kind, .slice l.Ar nr l.cr, .slice l.Ab nb l.cb, .int .i64 l.ch, .int .i64 l.high, .int .i64 l.wide, .int .i64 l.out, .int .i64 l.kh, .int .i64 l.kw, .int .i64 l.st, .int .i64 l.pad, .slice l.Ak nk l.ck, .slice l.Ag ng l.cg, .slice Ax nx cx] V ∧ RC Ax a1 u V) (by kernel_rfl) (by with_reducible first | exact ⟨HRC.out _ _ _ HG.out rfl, Blk.cb (HG.out.o.1 _ (List.mem_singleton_self _)), (HXE1.out _ HG.out.o.2.2.1).1⟩ | exact ⟨HRC.out _ _ _ HG.out.drew rfl, Blk.cb (HG.out.drew.o.1 _ (List.mem_singleton_self _)), (HXE1.out _ HG.out.drew.o.2.2.1).1⟩) (fun hHeld => ?_)
     replace HG := Lib.hid HG.out.drew
     refine gTa 0 40 hHeld ?_
     refine gTa 1 41 hHeld ?_
     refine gTa 2 42 hHeld ?_
     refine gTa 3 43 hHeld ?_
     refine gTa 4 44 hHeld ?_
     refine gTa 5 45 hHeld ?_
     refine gTa 6 46 hHeld ?_
     refine gTa 7 47 hHeld ?_
     refine gTa 8 48 hHeld ?_
     refine gTa 9 49 hHeld ?_
     refine gTa 10 50 hHeld ?_
     refine gC 11 rfl (by kernel_rfl) (by rfl) (fun K hK => ?_)
     clear hHeld
     simp only [q1, q2, q3]
     go_simp
     refine (rmax_any _ r u.1 (poolK (xs.map Prod.snd) g.l k) u.2 N hN h1N (RatN.rat (HG.out.n _ Hrm.out) HKS.out) (HXE1.out _ HG.out.o.2.2.1).2 HG.out.o.2.2.2).mono ?_
     rintro e wq ⟨r2, rfl, hk9, hb9⟩
     rw [HKM.out] at hk9
     replace HG := Lib.hid (HG.out.call hk9 hb9)
     clear hk9 hb9
     (try (go_wp2_with fail))
     refine hK.out _ _ (by with_reducible first | exact ⟨HRC.out _ _ _ HG.out rfl, Blk.cb (HG.out.o.1 _ (List.mem_singleton_self _)), (HXE1.out _ HG.out.o.2.2.1).1⟩ | exact ⟨HRC.out _ _ _ HG.out.drew rfl, Blk.cb (HG.out.drew.o.1 _ (List.mem_singleton_self _)), (HXE1.out _ HG.out.drew.o.2.2.1).1⟩) (fun hHeld => ?_)
     clear hK K
     try simp only [p1, p2, p3, p4]
     refine gTa 12 52 hHeld ?_
     have rcy := HRC.out _ _ _ HG.out rfl
     have fr := HG.out.free HAo.out (k := 0) rfl
     have hadd2 : ∀ (n j : Nat), (⟨(adr Ao n).block, (adr Ao n).off + j, none⟩ : Addr) = adr Ao (n + j) := fun n j => by unfold adr; simp [Nat.add_assoc]
     have hs01 := cell_ne9 Ao (show i * 4 ≠ i * 4 + 1 by omega)
     have hs02 := cell_ne9 Ao (show i * 4 ≠ i * 4 + 2 by omega)
     have hs03 := cell_ne9 Ao (show i * 4 ≠ i * 4 + 3 by omega)
     have hs12 := cell_ne9 Ao (show i * 4 + 1 ≠ i * 4 + 2 by omega)
     have hs13 := cell_ne9 Ao (show i * 4 + 1 ≠ i * 4 + 3 by omega)
     have hs23 := cell_ne9 Ao (show i * 4 + 2 ≠ i * 4 + 3 by omega)
     refine gL rfl (by kernel_rfl) (by kernel_rfl) (by rfl) (fun K hK => ?_)
     clear hHeld
     simp only [q1, q2, q3]
     go_simp
     (try (go_wp2_with fail))
     refine hK.out _ _ ?_
     clear hK K
     try simp only [p1, p2, p3, p4]
     refine NoPanic.normal ?_
     clear rcy fr hadd2 hs01 hs02 hs03 hs12 hs13 hs23
     have HG9 := Lib.hid (show GL w (⟨30, 4, .slice Ao ng ng, List.map rtcells (os.set i (r2, poolK (xs.map Prod.snd) g.l (k + 1)))⟩ :: []) (fun V => (∀ b ∈ [(⟨w.heap.size, 104, #[.int .u8 l.kind, .slice l.Ar nr l.cr, .slice l.Ab nb l.cb, .int .i64 l.ch, .int .i64 l.high, .int .i64 l.wide, .int .i64 l.out, .int .i64 l.kh, .int .i64 l.kw, .int .i64 l.st, .int .i64 l.pad, .slice l.Ak nk l.ck, .slice l.Ag ng l.cg, .slice Ax nx cx]⟩ : Bo)], Blk V b.g b.t b.cs) ∧ LaD n l V ∧ LsR 4 rtcells (roD N) Ax xs V ∧ Tz V) (fun V => ∀ zp ∈ (os.set i (r2, poolK (xs.map Prod.snd) g.l (k + 1))), roN zp V) _ from by
      have hg := HG.out.putR HAo.out (k := 0) rfl hlo2 r2 (poolK (xs.map Prod.snd) g.l (k + 1))
      have hg2 := hg.imp (φ := fun V => (∀ b ∈ [(⟨w.heap.size, 104, #[.int .u8 l.kind, .slice l.Ar nr l.cr, .slice l.Ab nb l.cb, .int .i64 l.ch, .int .i64 l.high, .int .i64 l.wide, .int .i64 l.out, .int .i64 l.kh, .int .i64 l.kw, .int .i64 l.st, .int .i64 l.pad, .slice l.Ak nk l.ck, .slice l.Ag ng l.cg, .slice Ax nx cx]⟩ : Bo)], Blk V b.g b.t b.cs) ∧ LaD n l V ∧ LsR 4 rtcells (roD N) Ax xs V ∧ Tz V) (ψ := fun V => ∀ zp ∈ (os.set i (r, poolK (xs.map Prod.snd) g.l k)).set i (r2, poolK (xs.map Prod.snd) g.l (k + 1)), roN zp V) (fun _ h => h) (fun V h => all_set8 (P := fun p => roN p V) h.2 h.1)
      rw [List.set_set] at hg2
      exact hg2)
     clear HG
     have HG := HG9
     clear HG9
     go_wp2_with fail
     go_roundw
     case rel => exact ⟨k + 1, r2, by go_num, by omega, HG⟩
     case measure => (simp [intOf] <;> omega)
    ·obtain rfl : k = m - 1 := by omega
     go_wp2_with fail
     go_roundw
     case rel => exact ⟨i + 1, os.set i (r, (poolP l.grs (xs.map Prod.snd)) i), by go_num, by omega, Lib.hid (HI.out.next rfl), by have h9 := HG; rw [HF.out] at h9; exact h9⟩
     case measure => (simp [intOf] <;> omega)
  ·obtain rfl : i = ng := by omega
   have hol := HI.out.n
   have hr := HG.out.els9 (k := 0) rfl
   go_wp2_with fail
   go_ret
   exact ⟨Ao, i, os, (by show Ending.returned (Value.slice Ao i i) = _; rw [hol]), by omega, by rw [HI.out.done, Hg.out], (hr.and (HG.out.rsn.mono fun _ h => h.1)).imp fun V h => ⟨h.1, h.2⟩, HG.out.bel⟩
end Go.Proofs.YtplhmeiciiajcaaGreatDoor
