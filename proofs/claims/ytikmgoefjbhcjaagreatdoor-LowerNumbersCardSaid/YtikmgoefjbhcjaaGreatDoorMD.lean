/-
 tripwireref13.Conv. The plain law of the reference's Affine: what a Conv says of zeros and of a unit. tripwireref14.Affine.
-/
import Derived.Test.YtikmgoefjbhcjaaGreatDoorMA
import Derived.Test.YtikmgoefjbhcjaaGreatDoorNO
import Derived.Test.YtikmgoefjbhcjaaGreatDoorNU
namespace Go.Proofs.YtikmgoefjbhcjaaGreatDoor
set_option maxHeartbeats 16000000
open Go.RowKit

section
variable {w W : World} {ls : List Ow} {old new : World → Prop}
theorem GL.alb (h : GL w ls old new W) (t : TypeId) (cs : Array Value) : ∃ W' g, W.alloc (.cells cs t) = W' ∧ W.heap.size = g ∧ Hid (GL w (bow g t cs.size cs :: ls) old new W') := ⟨_, _, rfl, rfl, zmZ (h.addb t cs)⟩
end
def plC (KH KW H W ST PD R Q k : Nat) : Nat → Option Int := plK KH KW (H : Int) (W : Int) (((k / Q % R * ST : Nat) : Int) - (PD : Int)) (((k % Q * ST : Nat) : Int) - (PD : Int))
def xQ (xs : List Rat) (a : Int) : Rat := (xs[a.toNat]?).getD 0
def zcg (KH KW H W ST PD R Q E : Nat) (ks bs xs : List Rat) (k j : Nat) : Rat := zd3 R Q bs k + sumK (plC KH KW H W ST PD R Q k) (kq ks E (k / Q / R)) (xQ xs) j
structure CvI (F : Nat → Rat) (k : Nat) (os : List (RV × Rat)) : Prop where
 q : os.map Prod.snd = (List.range k).map F
theorem CvI.len {F : Nat → Rat} {k : Nat} {os : List (RV × Rat)} (h : CvI F k os) : os.length = k := by simpa using congrArg List.length h.q
theorem CvI.next {F : Nat → Rat} {k : Nat} {os : List (RV × Rat)} (h : CvI F k os) {z : RV × Rat} (hz : z.2 = F k) : CvI F (k + 1) (os ++ [z]) := ⟨by rw [List.map_append, h.q, List.range_succ, List.map_append]; simp [hz]⟩
def zqI (qs : List Rat) (bs : List (RV × Rat)) (w : World) (e : Ending) (w' : World) : Prop :=
 ∃ A c ps, e = .returned (.slice A (List.length ps) c) ∧ ps.map Prod.snd = qs ∧ Rests w' (w.heap.size ≤ ·) (fun V => El V 4 A (List.map rtcells ps) ∧ ∀ p ∈ ps, p ∈ bs ∨ RatN p.1 p.2 V) ∧ Below w.heap.size w w'
theorem RatN.orD {p : RV × Rat} {n N : Nat} {l : LaV} {V : World} (h : p ∈ l.bias ∨ RatN p.1 p.2 V) (hl : LaD n l V) (hn : n ≤ N) (hs : Sz p.2 N) : RatD p.1 p.2 N V := by
 rcases h with h | h
 ·exact (show RatD p.1 p.2 n V from hl.bias.ok _ h).mono hn
 ·exact h.rat hs
theorem zoP (w : World) (l : LaV) (nr nb nk ng : Nat) (C H W O KH KW ST PD R Q : Nat) (hD : Dims l C H W O KH KW ST PD) (hP : PicOk l) (hR : zbA l = (R : Int)) (hQ : zbx l = (Q : Int)) : Calls Tryz.prog 105 #[.agg #[.int .u8 l.kind, .slice l.Ar nr l.cr, .slice l.Ab nb l.cb, .int .i64 (C : Int), .int .i64 (H : Int), .int .i64 (W : Int), .int .i64 (O : Int), .int .i64 (KH : Int), .int .i64 (KW : Int), .int .i64 (ST : Int), .int .i64 (PD : Int), .slice l.Ak nk l.ck, .slice l.Ag ng l.cg]] w fun e w' => e = .returned (.tuple #[.int .i64 (R : Int), .int .i64 (Q : Int), .bool true]) ∧ Below w.heap.size w w' := by
 have h := znT w l nr nb nk ng
 unfold lA at h
 rw [hD.ch, hD.high, hD.wide, hD.out, hD.kh, hD.kw, hD.st, hD.pad] at h
 refine h.mono ?_
 rintro e w' ⟨h1, h2⟩
 refine ⟨?_, h2⟩
 rcases h1 with ⟨-, h1⟩ | ⟨h1, -⟩
 ·rw [h1, hR, hQ]
 ·exact absurd hP h1
theorem zp6 (a b c : Nat) (h : c = a / b) : (a : Int).tdiv (b : Int) = (c : Int) := by
 rw [Int.tdiv_eq_ediv_of_nonneg (by omega), h]; rfl
theorem zp4 (a b c : Nat) (h : c = a % b) : (a : Int).tmod (b : Int) = (c : Int) := by
 rw [Int.tmod_eq_emod_of_nonneg (by omega), h]; rfl
set_option maxRecDepth 100000 in
theorem zpv (w : World) (n N : Nat) (hnN : n ≤ N) (hN : N ≤ 3000) (h1n : 1 ≤ n) (l : LaV) (h : LaD n l w) (nr nb nk ng : Nat) (hk : nk = l.kern.length) (hb : nb = l.bias.length) (C H W O KH KW ST PD R Q : Nat) (hD : Dims l C H W O KH KW ST PD) (hd : C ≤ 256 ∧ H ≤ 256 ∧ W ≤ 256 ∧ KH ≤ 256 ∧ KW ≤ 256) (hd2 : O ≤ 256 ∧ ST ≤ 256 ∧ 1 ≤ ST ∧ PD ≤ 256 ∧ 1 ≤ KH ∧ 1 ≤ KW) (hP : PicOk l) (hR : zbA l = (R : Int)) (hQ : zbx l = (Q : Int)) (hrb : R ≤ 1000 ∧ Q ≤ 1000) (hkl : O * (C * KH * KW) = nk) (hbl : nb = O) (he : C * KH * KW ≤ 1000) (hu : O * R * Q ≤ 100000) (Ax : Option Addr) (cx : Nat) (xs : List (RV × Rat)) (nx : Nat) (hx : LsR 4 rtcells (roD n) Ax xs w) (hnx : nx = xs.length) (hxl : nx = C * H * W) (hs1 : ∀ (k j : Nat), Sz (zcg KH KW H W ST PD R Q (C * KH * KW) (l.kern.map Prod.snd) (l.bias.map Prod.snd) (xs.map Prod.snd) k j) N) (hs2 : ∀ (i : Nat) (a : Int), Sz (((l.kern.map Prod.snd)[i]?).getD 0 * xQ (xs.map Prod.snd) a) N) : Calls Tryz.prog 64 #[dA l nr nb C H W O KH KW ST PD nk ng, .slice Ax nx cx] w (zqI ((List.range (O * R * Q)).map (fun k => zcg KH KW H W ST PD R Q (C * KH * KW) (l.kern.map Prod.snd) (l.bias.map Prod.snd) (xs.map Prod.snd) k (C * KH * KW))) l.bias w) := by
 have sl1 := h.kern.sl
 have sl2 := h.bias.sl
 have sl3 := hx.sl
 rw [← hk] at sl1
 rw [← hb] at sl2
 rw [← hnx] at sl3
 have hszr := zak
 have hadd := za3
 have Hk := zmZ hk
 have Hb := zmZ hb
 have Hkl := zmZ hkl
 have Hbl := zmZ hbl
 have He := zmZ he
 have Hu := zmZ hu
 have Hnx := zmZ hnx
 have Hxl := zmZ hxl
 have HS1 := zmZ hs1
 have HS2 := zmZ hs2
 have HPD := zmZ (zoP · l nr nb nk ng C H W O KH KW ST PD R Q hD hP hR hQ)
 obtain ⟨m0, hm0⟩ : ∃ a, a = C * KH := ⟨_, rfl⟩
 obtain ⟨E, hE⟩ : ∃ a, a = C * KH * KW := ⟨_, rfl⟩
 obtain ⟨m1, hm1⟩ : ∃ a, a = KH * KW := ⟨_, rfl⟩
 have hm0b : m0 ≤ 256 * 256 := by rw [hm0]; exact Nat.mul_le_mul hd.1 hd.2.2.2.1
 have hm1b : m1 ≤ 256 * 256 := by rw [hm1]; exact Nat.mul_le_mul hd.2.2.2.1 hd.2.2.2.2
 have hEb : E ≤ 1000 := by rw [hE]; exact he
 have hE0 : E = m0 * KW := by rw [hE, hm0]
 have v0 := wmul hm0 (by omega)
 have v1 := wmul hE0 (by omega)
 have v2 := wmul hm1 (by omega)
 have hm1p : 1 ≤ m1 := by rw [hm1]; exact Nat.mul_pos hd2.2.2.2.2.1 hd2.2.2.2.2.2
 have z0a : ¬ m1 = 0 := by omega
 have z0b : ¬ (m1 : Int) = 0 := by omega
 have z0c : ((m1 : Int) == 0) = false := by simp; omega
 have z1a : ¬ KW = 0 := by omega
 have z1b : ¬ (KW : Int) = 0 := by omega
 have z1c : ((KW : Int) == 0) = false := by simp; omega
 have z2a : ¬ KH = 0 := by omega
 have z2b : ¬ (KH : Int) = 0 := by omega
 have z2c : ((KH : Int) == 0) = false := by simp; omega
 have HE9 := zmZ hE
 have HM1 := zmZ hm1
 clear hP hR hQ hkl hbl he hu hnx hxl hs1 hs2 hD hm0 hE0
 have HE := zmZ (layD l nr nb C H W O KH KW ST PD nk ng (((LaD.old l w h)).and ((hx.old zaq))))
 have c := Env.c1 HE.out
 clear h hx hk hb hE hm1
 unfold dA
 go_enter Tryz.func64, Tryz.ntmps64
 go_wp2_with fail
 refine (HPD.out _).mono ?_
 rintro e w1 ⟨rfl, hb9⟩
 replace HE := zmZ (Env.call HE.out hb9)
 replace c := Env.c1 HE.out
 clear hb9 HPD
 go_wp2_with fail
 have HG := zmZ (((GL.start HE.out).new_ 41 4).imp (φ := fun V => oD w l nr nb C H W O KH KW ST PD nk ng V ∧ LaD n l V ∧ LsR 4 rtcells (roD n) Ax xs V) (ψ := fun V => (∀ p ∈ ([] : List (RV × Rat)), p ∈ l.bias ∨ RatN p.1 p.2 V)) (fun _ h => h) (fun _ _ => by simp))
 clear HE c
 go_loopw [8, 9] (fun ov iv wr => ∃ (Ao : Option Addr) (co x : Nat) (os : List (RV × Rat)), ov = .slice Ao (List.length os) co ∧ iv = .int .i64 (x : Int) ∧ x ≤ O ∧ Hid (CvI (fun k => zcg KH KW H W ST PD R Q (C * KH * KW) (l.kern.map Prod.snd) (l.bias.map Prod.snd) (xs.map Prod.snd) k (C * KH * KW)) (x * R * Q) os) ∧ Hid (GL w [⟨41, 4, .slice Ao (List.length os) co, List.map rtcells os⟩] (fun V => oD w l nr nb C H W O KH KW ST PD nk ng V ∧ LaD n l V ∧ LsR 4 rtcells (roD n) Ax xs V) (fun V => (∀ p ∈ os, p ∈ l.bias ∨ RatN p.1 p.2 V)) wr)) (fun _ iv _ => O - (intOf iv).toNat)
 case atStart => exact ⟨none, 0, 0, [], rfl, rfl, Nat.zero_le _, zmZ ⟨by simp⟩, HG⟩
 case round =>
  clear HG
  obtain ⟨Ao, co, o, os, rfl, rfl, ho, HI, HG⟩ := hrel
  by_cases hlo : o < O
  ·have cb := Blk.cb (HG.out.o.1 _ (List.mem_singleton_self _))
   go_upto_region 7 with fail
   clear cb
   go_loopw [8, 10] (fun ov iv wr => ∃ (Ao : Option Addr) (co x : Nat) (os : List (RV × Rat)), ov = .slice Ao (List.length os) co ∧ iv = .int .i64 (x : Int) ∧ x ≤ R ∧ Hid (CvI (fun k => zcg KH KW H W ST PD R Q (C * KH * KW) (l.kern.map Prod.snd) (l.bias.map Prod.snd) (xs.map Prod.snd) k (C * KH * KW)) ((o * R + x) * Q) os) ∧ Hid (GL w [⟨41, 4, .slice Ao (List.length os) co, List.map rtcells os⟩] (fun V => oD w l nr nb C H W O KH KW ST PD nk ng V ∧ LaD n l V ∧ LsR 4 rtcells (roD n) Ax xs V) (fun V => (∀ p ∈ os, p ∈ l.bias ∨ RatN p.1 p.2 V)) wr)) (fun _ iv _ => R - (intOf iv).toNat)
   case atStart => exact ⟨Ao, co, 0, os, rfl, rfl, Nat.zero_le _, zmZ (by rw [Nat.add_zero]; exact HI.out), HG⟩
   case round =>
    clear HG HI
    obtain ⟨Ao, co, r, os, rfl, rfl, hr, HI, HG⟩ := hrel
    by_cases hlr : r < R
    ·have cb := Blk.cb (HG.out.o.1 _ (List.mem_singleton_self _))
     go_upto_region 10 with fail
     clear cb
     go_loopw [8, 11] (fun ov iv wr => ∃ (Ao : Option Addr) (co x : Nat) (os : List (RV × Rat)), ov = .slice Ao (List.length os) co ∧ iv = .int .i64 (x : Int) ∧ x ≤ Q ∧ Hid (CvI (fun k => zcg KH KW H W ST PD R Q (C * KH * KW) (l.kern.map Prod.snd) (l.bias.map Prod.snd) (xs.map Prod.snd) k (C * KH * KW)) ((o * R + r) * Q + x) os) ∧ Hid (GL w [⟨41, 4, .slice Ao (List.length os) co, List.map rtcells os⟩] (fun V => oD w l nr nb C H W O KH KW ST PD nk ng V ∧ LaD n l V ∧ LsR 4 rtcells (roD n) Ax xs V) (fun V => (∀ p ∈ os, p ∈ l.bias ∨ RatN p.1 p.2 V)) wr)) (fun _ iv _ => Q - (intOf iv).toNat)
     case atStart => exact ⟨Ao, co, 0, os, rfl, rfl, Nat.zero_le _, zmZ (by rw [Nat.add_zero]; exact HI.out), HG⟩
     case round =>
      clear HG HI
      obtain ⟨Ao, co, q, os, rfl, rfl, hq, HI, HG⟩ := hrel
      by_cases hlq : q < Q
      ·have cb := Blk.cb (HG.out.o.1 _ (List.mem_singleton_self _))
       obtain ⟨t1, ht1⟩ : ∃ a, a = r * ST := ⟨_, rfl⟩
       obtain ⟨t2, ht2⟩ : ∃ a, a = q * ST := ⟨_, rfl⟩
       have hb1 : t1 ≤ 1000 * 256 := by rw [ht1]; exact Nat.mul_le_mul (by omega) hd2.2.1
       have hb2 : t2 ≤ 1000 * 256 := by rw [ht2]; exact Nat.mul_le_mul (by omega) hd2.2.1
       have e1 := wmul ht1 (by omega)
       have e2 := wmul ht2 (by omega)
       have hk9 : (o * R + r) * Q + q < O * R * Q := by
        have a1 : (o + 1) * R ≤ O * R := Nat.mul_le_mul_right _ hlo
        rw [Nat.add_mul, Nat.one_mul] at a1
        have a2 : (o * R + r + 1) * Q ≤ O * R * Q := Nat.mul_le_mul_right _ (by omega)
        rw [Nat.add_mul, Nat.one_mul] at a2
        omega
       have Hol := zmZ (show os.length ≤ 1000000 by have := Hu.out; have := HI.out.len; omega)
       have hob : o < l.bias.length := by rw [← Hb.out, Hbl.out]; exact hlo
       have hon : o < nb := by rw [Hbl.out]; exact hlo
       have HC := zmZ (show ∀ j, zcg KH KW H W ST PD R Q (C * KH * KW) (l.kern.map Prod.snd) (l.bias.map Prod.snd) (xs.map Prod.snd) ((o * R + r) * Q + q) j = (l.bias[o]'hob).2 + sumK (plK KH KW (H : Int) (W : Int) ((t1 : Int) - (PD : Int)) ((t2 : Int) - (PD : Int))) (kq (l.kern.map Prod.snd) E o) (xQ (xs.map Prod.snd)) j from by
        intro j
        obtain ⟨n1, n2, n3⟩ := nest (p := o) hlr hlq
        unfold zcg zd3 plC
        rw [n1, n2, n3, ht1, ht2, List.getElem?_map, List.getElem?_eq_getElem hob, HE9.out]
        rfl)
       have HSZ := zmZ (fun j => (HC.out j) ▸ HS1.out ((o * R + r) * Q + q) j)
       have HFF := zmZ (show (fun k => zcg KH KW H W ST PD R Q (C * KH * KW) (l.kern.map Prod.snd) (l.bias.map Prod.snd) (xs.map Prod.snd) k (C * KH * KW)) ((o * R + r) * Q + q) = (l.bias[o]'hob).2 + sumK (plK KH KW (H : Int) (W : Int) ((t1 : Int) - (PD : Int)) ((t2 : Int) - (PD : Int))) (kq (l.kern.map Prod.snd) E o) (xQ (xs.map Prod.snd)) E from (HC.out (C * KH * KW)).trans (by rw [← HE9.out]))
       have Ho2 := zmZ (show (o + 1) * E ≤ nk by rw [← Hkl.out, HE9.out]; exact Nat.mul_le_mul_right _ hlo)
       have HBE := zmZ (show ∀ V, LaD n l V → RC l.Ab o (l.bias[o]'hob) V from fun V h => h.bias.rc o hob)
       have Hpm := zmZ (List.getElem_mem hob)
       obtain ⟨p, hp⟩ : ∃ p, p = l.bias[o] := ⟨_, rfl⟩
       rw [← hp] at HBE HC HSZ HFF Hpm
       have cr0 := HBE.out _ HG.out.o.2.1
       clear hp ht1 ht2 hk9 hob HC
       go_upto_region 13 with fail
       obtain ⟨W2, gs, hW2, hgs, HG2⟩ := HG.out.alb 41 #[.bool p.1.num.neg, .slice p.1.num.A p.1.num.k p.1.num.c, .bool p.1.den.neg, .slice p.1.den.A p.1.den.k p.1.den.c]
       rw [hW2, hgs]
       clear hW2 hgs cr0 cb HBE HG
       replace HG := zmZ (show GL w [bow gs 41 4 #[.bool p.1.num.neg, .slice p.1.num.A p.1.num.k p.1.num.c, .bool p.1.den.neg, .slice p.1.den.A p.1.den.k p.1.den.c], ⟨41, 4, .slice Ao (List.length os) co, List.map rtcells os⟩] (fun V => oD w l nr nb C H W O KH KW ST PD nk ng V ∧ LaD n l V ∧ LsR 4 rtcells (roD n) Ax xs V) (fun V => (p ∈ l.bias ∨ RatN p.1 p.2 V) ∧ (∀ p ∈ os, p ∈ l.bias ∨ RatN p.1 p.2 V)) W2 from HG2.out.imp (fun _ h => h) (fun _ h => ⟨.inl Hpm.out, h⟩))
       clear HG2 Hpm
       go_upto_region 14 with fail
       go_loopw [13] (fun iv wr => ∃ (k : Nat) (z : RV × Rat), iv = .int .i64 (k : Int) ∧ k ≤ E ∧ Hid (z.2 = p.2 + sumK (plK KH KW (H : Int) (W : Int) ((t1 : Int) - (PD : Int)) ((t2 : Int) - (PD : Int))) (kq (l.kern.map Prod.snd) E o) (xQ (xs.map Prod.snd)) k) ∧ Hid (GL w [bow gs 41 4 #[.bool z.1.num.neg, .slice z.1.num.A z.1.num.k z.1.num.c, .bool z.1.den.neg, .slice z.1.den.A z.1.den.k z.1.den.c], ⟨41, 4, .slice Ao (List.length os) co, List.map rtcells os⟩] (fun V => oD w l nr nb C H W O KH KW ST PD nk ng V ∧ LaD n l V ∧ LsR 4 rtcells (roD n) Ax xs V) (fun V => (z ∈ l.bias ∨ RatN z.1 z.2 V) ∧ (∀ p ∈ os, p ∈ l.bias ∨ RatN p.1 p.2 V)) wr)) (fun iv _ => E - (intOf iv).toNat)
       case atStart => exact ⟨0, p, rfl, Nat.zero_le _, zmZ (Rat.add_zero _).symm, HG⟩
       case round =>
        clear HG
        obtain ⟨k, z, rfl, hk, HZ, HG⟩ := hrel
        have HZD := zmZ (show ∀ V, LaD n l V → (z ∈ l.bias ∨ RatN z.1 z.2 V) → RatD z.1 z.2 N V from fun V h1 h2 => RatN.orD h2 h1 hnN (by rw [HZ.out]; exact HSZ.out k))
        have cb := Blk.cb (HG.out.o.1 _ (List.mem_singleton_self _))
        by_cases hlk : k < E
        ·have hsk := trivial
         clear hsk
         obtain ⟨i1, hi1⟩ : ∃ a, a = k / m1 := ⟨_, rfl⟩
         obtain ⟨i2, hi2⟩ : ∃ a, a = k / KW := ⟨_, rfl⟩
         obtain ⟨i3, hi3⟩ : ∃ a, a = i2 % KH := ⟨_, rfl⟩
         obtain ⟨i4, hi4⟩ : ∃ a, a = k % KW := ⟨_, rfl⟩
         have y1 := zp6 k m1 i1 hi1
         have y2 := zp6 k KW i2 hi2
         have y3 := zp4 i2 KH i3 hi3
         have y4 := zp4 k KW i4 hi4
         have b1 : i1 ≤ k := by rw [hi1]; exact Nat.div_le_self _ _
         have b2 : i2 ≤ k := by rw [hi2]; exact Nat.div_le_self _ _
         have b3 : i3 ≤ i2 := by rw [hi3]; exact Nat.mod_le _ _
         have b4 : i4 ≤ k := by rw [hi4]; exact Nat.mod_le _ _
         have x1 : IntKind.i64.wrap (i1 : Int) = (i1 : Int) := zad (by omega)
         have x2 : IntKind.i64.wrap (i2 : Int) = (i2 : Int) := zad (by omega)
         have x3 : IntKind.i64.wrap (i3 : Int) = (i3 : Int) := zad (by omega)
         have x4 : IntKind.i64.wrap (i4 : Int) = (i4 : Int) := zad (by omega)
         obtain ⟨s1, hs1⟩ : ∃ a, a = t1 + i3 := ⟨_, rfl⟩
         obtain ⟨s2, hs2⟩ : ∃ a, a = t2 + i4 := ⟨_, rfl⟩
         have e3 := wadd hs1 (by omega)
         have e4 := wadd hs2 (by omega)
         obtain ⟨D, hDn⟩ : ∃ a : Int, a = (s1 : Int) - (PD : Int) := ⟨_, rfl⟩
         obtain ⟨A, hAc⟩ : ∃ a : Int, a = (s2 : Int) - (PD : Int) := ⟨_, rfl⟩
         have e5 : IntKind.i64.wrap ((s1 : Int) - (PD : Int)) = D := by rw [hDn]; exact zaH (by omega)
         have e6 : IntKind.i64.wrap ((s2 : Int) - (PD : Int)) = A := by rw [hAc]; exact zaH (by omega)
         have HPL := zmZ (show (plK KH KW (H : Int) (W : Int) ((t1 : Int) - (PD : Int)) ((t2 : Int) - (PD : Int))) k = if 0 ≤ D ∧ D < (H : Int) ∧ 0 ≤ A ∧ A < (W : Int) then some (((i1 : Int) * (H : Int) + D) * (W : Int) + A) else none from by
          have a1 : k / KW / KH = i1 := by rw [Nat.div_div_eq_div_mul, Nat.mul_comm KW KH, ← HM1.out, hi1]
          unfold plK
          rw [a1, ← hi2, ← hi3, ← hi4, show (t1 : Int) - (PD : Int) + (i3 : Int) = D from by omega, show (t2 : Int) - (PD : Int) + (i4 : Int) = A from by omega])
         clear hi1 hi2 hi3 hi4 hs1 hs2 hDn hAc
         go_upto_region 17 with fail
         go_quiet (fail)
         obtain ⟨W7, hW7⟩ : ∃ X, X = World.drewN wr nq := ⟨_, rfl⟩
         replace HG := zmZ (HG.out.after (Env.of_below (Below.drewN (Below.refl _ _) nq)))
         rw [← hW7] at HG ⊢
         clear hW7
         replace cb := Blk.cb (HG.out.o.1 _ (List.mem_singleton_self _))
         go_upto_region 18 with fail
         go_quiet (fail)
         obtain ⟨W8, hW8⟩ : ∃ X, X = World.drewN W7 nq := ⟨_, rfl⟩
         replace HG := zmZ (HG.out.after (Env.of_below (Below.drewN (Below.refl _ _) nq)))
         rw [← hW8] at HG ⊢
         clear hW8
         replace cb := Blk.cb (HG.out.o.1 _ (List.mem_singleton_self _))
         rcases Classical.em (0 ≤ D) with p0 | p0
         rotate_left
         ·have Hp0 := zmZ p0
          have HZ2 := zmZ (show z.2 = p.2 + sumK (plK KH KW (H : Int) (W : Int) ((t1 : Int) - (PD : Int)) ((t2 : Int) - (PD : Int))) (kq (l.kern.map Prod.snd) E o) (xQ (xs.map Prod.snd)) (k + 1) from by rw [HZ.out, sumK, (HPL.out.trans (if_neg (fun h => by have := Hp0.out; omega)))]; exact (congrArg _ (Rat.add_zero _)).symm)
          go_wp2_with fail
          go_roundw
          case rel => exact ⟨k + 1, z, by go_num, by omega, HZ2, HG⟩
          case measure => (simp [intOf] <;> omega)
         rcases Classical.em (D < (H : Int)) with p1 | p1
         rotate_left
         ·have Hp1 := zmZ p1
          have HZ2 := zmZ (show z.2 = p.2 + sumK (plK KH KW (H : Int) (W : Int) ((t1 : Int) - (PD : Int)) ((t2 : Int) - (PD : Int))) (kq (l.kern.map Prod.snd) E o) (xQ (xs.map Prod.snd)) (k + 1) from by rw [HZ.out, sumK, (HPL.out.trans (if_neg (fun h => by have := Hp1.out; omega)))]; exact (congrArg _ (Rat.add_zero _)).symm)
          go_wp2_with fail
          go_roundw
          case rel => exact ⟨k + 1, z, by go_num, by omega, HZ2, HG⟩
          case measure => (simp [intOf] <;> omega)
         rcases Classical.em (0 ≤ A) with p2 | p2
         rotate_left
         ·have Hp2 := zmZ p2
          have HZ2 := zmZ (show z.2 = p.2 + sumK (plK KH KW (H : Int) (W : Int) ((t1 : Int) - (PD : Int)) ((t2 : Int) - (PD : Int))) (kq (l.kern.map Prod.snd) E o) (xQ (xs.map Prod.snd)) (k + 1) from by rw [HZ.out, sumK, (HPL.out.trans (if_neg (fun h => by have := Hp2.out; omega)))]; exact (congrArg _ (Rat.add_zero _)).symm)
          go_wp2_with fail
          go_roundw
          case rel => exact ⟨k + 1, z, by go_num, by omega, HZ2, HG⟩
          case measure => (simp [intOf] <;> omega)
         rcases Classical.em (A < (W : Int)) with p3 | p3
         rotate_left
         ·have Hp3 := zmZ p3
          have HZ2 := zmZ (show z.2 = p.2 + sumK (plK KH KW (H : Int) (W : Int) ((t1 : Int) - (PD : Int)) ((t2 : Int) - (PD : Int))) (kq (l.kern.map Prod.snd) E o) (xQ (xs.map Prod.snd)) (k + 1) from by rw [HZ.out, sumK, (HPL.out.trans (if_neg (fun h => by have := Hp3.out; omega)))]; exact (congrArg _ (Rat.add_zero _)).symm)
          go_wp2_with fail
          go_roundw
          case rel => exact ⟨k + 1, z, by go_num, by omega, HZ2, HG⟩
          case measure => (simp [intOf] <;> omega)
         obtain ⟨rn, rfl⟩ : ∃ rn : Nat, D = rn := ⟨D.toNat, by omega⟩
         obtain ⟨cn, rfl⟩ : ∃ cn : Nat, A = cn := ⟨A.toNat, by omega⟩
         have HP2 := zmZ (HPL.out.trans (if_pos ⟨p0, p1, p2, p3⟩))
         have hk0 : o * E + k < nk := by
          have h1 := Ho2.out
          rw [Nat.add_mul, Nat.one_mul] at h1
          omega
         obtain ⟨a1, ha1⟩ : ∃ a, a = o * C := ⟨_, rfl⟩
         obtain ⟨a2, ha2⟩ : ∃ a, a = a1 * KH := ⟨_, rfl⟩
         obtain ⟨a3, ha3⟩ : ∃ a, a = a2 * KW := ⟨_, rfl⟩
         obtain ⟨a4, ha4⟩ : ∃ a, a = a3 + k := ⟨_, rfl⟩
         have c1 : a1 ≤ 256 * 256 := by rw [ha1]; exact Nat.mul_le_mul (by omega) hd.1
         have c2 : a2 ≤ 65536 * 256 := by rw [ha2]; exact Nat.mul_le_mul (by omega) hd.2.2.2.1
         have c3 : a3 ≤ 16777216 * 256 := by rw [ha3]; exact Nat.mul_le_mul (by omega) hd.2.2.2.2
         have f1 := wmul ha1 (by omega)
         have f2 := wmul ha2 (by omega)
         have f3 := wmul ha3 (by omega)
         have f4 := wadd ha4 (by omega)
         obtain ⟨d1, hd1⟩ : ∃ a, a = i1 * H := ⟨_, rfl⟩
         obtain ⟨d2, hd2'⟩ : ∃ a, a = d1 + rn := ⟨_, rfl⟩
         obtain ⟨d3, hd3⟩ : ∃ a, a = d2 * W := ⟨_, rfl⟩
         obtain ⟨d4, hd4⟩ : ∃ a, a = d3 + cn := ⟨_, rfl⟩
         have c4 : d1 ≤ 1000 * 256 := by rw [hd1]; exact Nat.mul_le_mul (by omega) hd.2.1
         have c5 : d3 ≤ 257000 * 256 := by rw [hd3]; exact Nat.mul_le_mul (by omega) hd.2.2.1
         have g1 := wmul hd1 (by omega)
         have g2 := wadd hd2' (by omega)
         have g3 := wmul hd3 (by omega)
         have g4 := wadd hd4 (by omega)
         have hpl : ((i1 : Int) * (H : Int) + (rn : Int)) * (W : Int) + (cn : Int) = (d4 : Int) := by rw [hd4, hd3, hd2', hd1]; simp only [Int.natCast_add, Int.natCast_mul]
         have HP3 := zmZ (HP2.out.trans (congrArg some hpl))
         have hdx : d4 < nx := by
          have h1 := zfD (ch := C) (by rw [← HE9.out]; exact hlk) HP3.out
          rw [Hxl.out]
          have h2 := h1.2
          rw [show (C : Int) * (H : Int) * (W : Int) = ((C * H * W : Nat) : Int) from by simp only [Int.natCast_mul]] at h2
          omega
         have hdx2 : d4 < xs.length := by rw [← Hnx.out]; exact hdx
         have hidx : a4 = o * E + k := by rw [ha4, ha3, ha2, ha1, HE9.out]; simp only [Nat.mul_assoc]
         have hia : a4 < l.kern.length := by rw [← Hk.out, hidx]; exact hk0
         have hin : a4 < nk := by rw [Hk.out]; exact hia
         have HZ2 := zmZ (show z.2 + (l.kern[a4]'hia).2 * (xs[d4]'hdx2).2 = p.2 + sumK (plK KH KW (H : Int) (W : Int) ((t1 : Int) - (PD : Int)) ((t2 : Int) - (PD : Int))) (kq (l.kern.map Prod.snd) E o) (xQ (xs.map Prod.snd)) (k + 1) from by
          rw [HZ.out, sumK, HP3.out, Rat.add_assoc]
          have k1 : kq (l.kern.map Prod.snd) E o k = (l.kern[a4]'hia).2 := by
           unfold kq
           rw [← hidx, List.getElem?_map, List.getElem?_eq_getElem hia]
           rfl
          have k2 : xQ (xs.map Prod.snd) (d4 : Int) = (xs[d4]'hdx2).2 := by
           unfold xQ
           rw [Int.toNat_natCast, List.getElem?_map, List.getElem?_eq_getElem hdx2]
           rfl
          simp only [k1, k2])
         have HSM := zmZ (show Sz ((l.kern[a4]'hia).2 * (xs[d4]'hdx2).2) N from by
          have k9 := HS2.out a4 (d4 : Int)
          unfold xQ at k9
          rw [Int.toNat_natCast, List.getElem?_map, List.getElem?_map, List.getElem?_eq_getElem hdx2, List.getElem?_eq_getElem hia] at k9
          exact k9)
         have HKE := zmZ (show ∀ V, LaD n l V → RC l.Ak a4 (l.kern[a4]'hia) V ∧ RatD (l.kern[a4]'hia).1 (l.kern[a4]'hia).2 n V from fun V h => ⟨h.kern.rc a4 hia, h.kern.ok _ (List.getElem_mem hia)⟩)
         have HXE := zmZ (show ∀ V, LsR 4 rtcells (roD n) Ax xs V → RC Ax d4 (xs[d4]'hdx2) V ∧ RatD (xs[d4]'hdx2).1 (xs[d4]'hdx2).2 n V from fun V h => ⟨h.rc d4 hdx2, h.ok _ (List.getElem_mem hdx2)⟩)
         obtain ⟨u, hu⟩ : ∃ u, u = l.kern[a4] := ⟨_, rfl⟩
         obtain ⟨v, hv⟩ : ∃ v, v = xs[d4] := ⟨_, rfl⟩
         rw [← hu, ← hv] at HZ2 HSM
         rw [← hu] at HKE
         rw [← hv] at HXE
         clear hu hv ha1 ha2 ha3 ha4 hd1 hd2' hd3 hd4 c1 c2 c3 c4 c5 hpl hidx hk0 hia hdx2 HPL HP2 HP3 HZ
         go_upto_region 20 with fail
         clear cb
         refine wp_region_noPanic ?_
         refine zaX 33 (fun V => CB gs #[.bool z.1.num.neg, .slice z.1.num.A z.1.num.k z.1.num.c, .bool z.1.den.neg, .slice z.1.den.A z.1.den.k z.1.den.c] V ∧ CB (w.heap.size) #[.int .u8 l.kind, .slice l.Ar nr l.cr, .slice l.Ab nb l.cb, .int .i64 (C : Int), .int .i64 (H : Int), .int .i64 (W : Int), .int .i64 (O : Int), .int .i64 (KH : Int), .int .i64 (KW : Int), .int .i64 (ST : Int), .int .i64 (PD : Int), .slice l.Ak nk l.ck, .slice l.Ag ng l.cg] V ∧ RC l.Ak a4 u V ∧ RC Ax d4 v V) (by kernel_rfl) (by with_reducible first | exact ⟨HG.out.cb (k := 0) rfl, Blk.cb (HG.out.o.1 _ (List.mem_singleton_self _)), (HKE.out _ HG.out.o.2.1).1, (HXE.out _ HG.out.o.2.2).1⟩ | exact ⟨HG.out.drew.cb (k := 0) rfl, Blk.cb (HG.out.drew.o.1 _ (List.mem_singleton_self _)), (HKE.out _ HG.out.drew.o.2.1).1, (HXE.out _ HG.out.drew.o.2.2).1⟩) (fun hHeld => ?_)
         replace HG := zmZ HG.out.drew
         refine gTa 0 108 hHeld ?_
         refine gTa 1 109 hHeld ?_
         refine gTa 2 110 hHeld ?_
         refine gTa 3 111 hHeld ?_
         refine gTa 4 112 hHeld ?_
         refine gTa 5 113 hHeld ?_
         refine gTa 6 114 hHeld ?_
         refine gTa 7 115 hHeld ?_
         refine gTa 8 116 hHeld ?_
         refine gTa 9 117 hHeld ?_
         refine gTa 10 118 hHeld ?_
         refine gTa 11 119 hHeld ?_
         refine gTa 12 120 hHeld ?_
         refine gTa 13 121 hHeld ?_
         refine gTa 14 122 hHeld ?_
         refine gTa 15 123 hHeld ?_
         refine gTa 16 124 hHeld ?_
         refine gTa 17 125 hHeld ?_
         refine gTa 18 126 hHeld ?_
         refine gTa 19 127 hHeld ?_
         refine gTa 20 128 hHeld ?_
         refine gTa 21 129 hHeld ?_
         refine gTa 22 130 hHeld ?_
         refine gTa 23 131 hHeld ?_
         refine gTa 24 132 hHeld ?_
         refine gTa 25 133 hHeld ?_
         refine gTa 26 134 hHeld ?_
         refine gTa 27 135 hHeld ?_
         refine gTa 28 136 hHeld ?_
         refine gTa 29 137 hHeld ?_
         refine gTa 30 138 hHeld ?_
         refine gC 31 rfl (by kernel_rfl) (by rfl) (fun K hK => ?_)
         clear hHeld
         simp only [q1, q2, q3]
         go_simp
         refine (zo2 _ u.1 v.1 u.2 v.2 N hN (by omega) ((HKE.out _ HG.out.o.2.1).2.mono hnN) ((HXE.out _ HG.out.o.2.2).2.mono hnN)).mono ?_
         rintro e wq ⟨k9, rfl, hk9, hb9⟩
         replace HG := zmZ (HG.out.call hk9 hb9)
         clear hk9 hb9
         (try (go_wp2_with fail))
         refine hK.out _ _ (by with_reducible first | exact ⟨HG.out.cb (k := 0) rfl, Blk.cb (HG.out.o.1 _ (List.mem_singleton_self _)), (HKE.out _ HG.out.o.2.1).1, (HXE.out _ HG.out.o.2.2).1⟩ | exact ⟨HG.out.drew.cb (k := 0) rfl, Blk.cb (HG.out.drew.o.1 _ (List.mem_singleton_self _)), (HKE.out _ HG.out.drew.o.2.1).1, (HXE.out _ HG.out.drew.o.2.2).1⟩) (fun hHeld => ?_)
         clear hK K
         try simp only [p1, p2, p3, p4]
         refine gC 32 rfl (by kernel_rfl) (by rfl) (fun K hK => ?_)
         clear hHeld
         simp only [q1, q2, q3]
         go_simp
         refine (znw _ z.1 k9 z.2 (u.2 * v.2) N hN (by omega) (HZD.out _ HG.out.o.2.1 HG.out.n.2.1) (HG.out.n.1.rat HSM.out)).mono ?_
         rintro e wq ⟨k8, rfl, hk9, hb9⟩
         replace HG := zmZ (HG.out.call hk9 hb9)
         clear hk9 hb9
         (try (go_wp2_with fail))
         refine hK.out _ _ (by with_reducible first | exact ⟨HG.out.cb (k := 0) rfl, Blk.cb (HG.out.o.1 _ (List.mem_singleton_self _)), (HKE.out _ HG.out.o.2.1).1, (HXE.out _ HG.out.o.2.2).1⟩ | exact ⟨HG.out.drew.cb (k := 0) rfl, Blk.cb (HG.out.drew.o.1 _ (List.mem_singleton_self _)), (HKE.out _ HG.out.drew.o.2.1).1, (HXE.out _ HG.out.drew.o.2.2).1⟩) (fun hHeld => ?_)
         clear hK K
         try simp only [p1, p2, p3, p4]
         have cc := HG.out.cb (k := 0) rfl
         refine gL rfl (by kernel_rfl) (by kernel_rfl) (by rfl) (fun K hK => ?_)
         clear hHeld
         simp only [q1, q2, q3]
         go_simp
         (try (go_wp2_with fail))
         refine hK.out _ _ ?_
         clear hK K
         try simp only [p1, p2, p3, p4]
         refine NoPanic.normal ?_
         clear cc
         have HG3 := HG.out.put4 (k := 0) rfl (.bool k8.num.neg) (.slice k8.num.A k8.num.k k8.num.c) (.bool k8.den.neg) (.slice k8.den.A k8.den.k k8.den.c)
         replace HG := zmZ (show GL w [bow gs 41 4 #[.bool ((k8, z.2 + u.2 * v.2) : RV × Rat).1.num.neg, .slice ((k8, z.2 + u.2 * v.2) : RV × Rat).1.num.A ((k8, z.2 + u.2 * v.2) : RV × Rat).1.num.k ((k8, z.2 + u.2 * v.2) : RV × Rat).1.num.c, .bool ((k8, z.2 + u.2 * v.2) : RV × Rat).1.den.neg, .slice ((k8, z.2 + u.2 * v.2) : RV × Rat).1.den.A ((k8, z.2 + u.2 * v.2) : RV × Rat).1.den.k ((k8, z.2 + u.2 * v.2) : RV × Rat).1.den.c], ⟨41, 4, .slice Ao (List.length os) co, List.map rtcells os⟩] (fun V => oD w l nr nb C H W O KH KW ST PD nk ng V ∧ LaD n l V ∧ LsR 4 rtcells (roD n) Ax xs V) (fun V => (((k8, z.2 + u.2 * v.2) : RV × Rat) ∈ l.bias ∨ RatN ((k8, z.2 + u.2 * v.2) : RV × Rat).1 ((k8, z.2 + u.2 * v.2) : RV × Rat).2 V) ∧ (∀ p ∈ os, p ∈ l.bias ∨ RatN p.1 p.2 V)) _ from HG3.imp (fun _ h => h) (fun V h => ⟨.inr h.1, h.2.2.2⟩))
         clear HG3
         go_wp2_with fail
         go_roundw
         case rel => exact ⟨k + 1, (k8, z.2 + u.2 * v.2), by go_num, by omega, HZ2, HG⟩
         case measure => (simp [intOf] <;> omega)
        ·obtain rfl : k = E := by omega
         replace HG := zmZ HG.out.drop_
         have c5 := Blk.cb HG.out.n.1
         have HI2 := zmZ (HI.out.next (z := z) (by rw [HFF.out, HZ.out]))
         clear HI HFF HZ HZD HSZ
         have hE := HG.out.env
         obtain ⟨A', c', w8, hrun, hG⟩ := GL.appX (cells := rtcells) zb0 zbO rfl (by decide) (by decide) HG.out hE z rfl (zbQ _) Hol.out
         have Hrun := zmZ hrun
         have HG2 := zmZ hG
         clear hrun hG hE
         go_wp2_with (at_builtin; refine za1 rfl (.tmp 141) (.tmp 143) 33 _ _ _ rfl rfl rfl Hrun.out ?_)
         clear Hrun cb c5
         go_wp2_with fail
         go_roundw
         case rel => exact ⟨A', c', q + 1, os ++ [z], by simp, by go_num, by omega, HI2, zmZ (HG2.out.imp (fun _ h => h) (fun V h => fun v hv => (List.mem_append.1 hv).elim (fun hv => h.2.2.2 v hv) (fun hv => by rw [List.mem_singleton.1 hv]; exact h.2.2.1)))⟩
         case measure => (simp [intOf] <;> omega)
      ·obtain rfl : q = Q := by omega
       have cb := Blk.cb (HG.out.o.1 _ (List.mem_singleton_self _))
       have HI2 := zmZ (show CvI (fun k => zcg KH KW H W ST PD R q (C * KH * KW) (l.kern.map Prod.snd) (l.bias.map Prod.snd) (xs.map Prod.snd) k (C * KH * KW)) ((o * R + (r + 1)) * q) os by have h9 := HI.out; rwa [← Nat.add_assoc, Nat.add_mul (o * R + r) 1, Nat.one_mul])
       go_wp2_with fail
       go_roundw
       case rel => exact ⟨Ao, co, r + 1, os, rfl, by go_num, by omega, HI2, HG⟩
       case measure => (simp [intOf] <;> omega)
    ·obtain rfl : r = R := by omega
     have cb := Blk.cb (HG.out.o.1 _ (List.mem_singleton_self _))
     have HI2 := zmZ (show CvI (fun k => zcg KH KW H W ST PD r Q (C * KH * KW) (l.kern.map Prod.snd) (l.bias.map Prod.snd) (xs.map Prod.snd) k (C * KH * KW)) ((o + 1) * r * Q) os by have h9 := HI.out; rwa [Nat.add_mul o 1, Nat.one_mul])
     go_wp2_with fail
     go_roundw
     case rel => exact ⟨Ao, co, o + 1, os, rfl, by go_num, by omega, HI2, HG⟩
     case measure => (simp [intOf] <;> omega)
  ·obtain rfl : o = O := by omega
   have cb := Blk.cb (HG.out.o.1 _ (List.mem_singleton_self _))
   go_wp2_with fail
   go_ret
   exact ⟨Ao, co, os, rfl, HI.out.q, ((HG.out.els9 (k := 0) rfl).and (HG.out.rsn.mono fun _ h => h.1)).imp fun V h => h, HG.out.bel⟩

theorem zdK (pl : Nat → Option Int) (K : Nat → Rat) {x y : Int → Rat} : ∀ n, (∀ k a, k < n → pl k = some a → x a = y a) → sumK pl K x n = sumK pl K y n
 | 0, _ => rfl
 | n + 1, h => by
  rw [sumK, sumK, zdK pl K n fun k a hk e => h k a (by omega) e]
  congr 1
  cases e : pl n with
  | none => rfl
  | some a => show K n * x a = K n * y a; rw [h n a (by omega) e]
theorem zoj {P : Rat → Prop} (h0 : P 0) : ∀ {Z : List (Int × Rat)}, Z.Pairwise (fun x y => x.1 < y.1) → (∀ z ∈ Z, P z.2) → ∀ a, P (getQ Z a)
 | [], _, _, _ => h0
 | z :: Z, hr, h, a => by
  rw [zn9]
  have h1 := List.pairwise_cons.1 hr
  by_cases e : z.1 = a
  ·rw [if_pos e, zc7 (fun p hp e2 => by have := h1.1 p hp; omega), Rat.add_zero]
   exact h z (List.mem_cons_self ..)
  ·rw [if_neg e, Rat.zero_add]
   exact zoj h0 h1.2 (fun z hz => h z (List.mem_cons_of_mem _ hz)) a
theorem zrt {kh kw : Nat} {high wide row col : Int} {k : Nat} {a : Int} (e : plK kh kw high wide row col k = some a) : 0 ≤ a := by
 unfold plK at e
 split at e
 ·rename_i hb
  injection e with e
  subst e
  generalize (k / kw / kh) = P
  generalize row + ((k / kw % kh : Nat) : Int) = R at hb ⊢
  generalize col + ((k % kw : Nat) : Int) = C at hb ⊢
  obtain ⟨h1, h2, h3, h4⟩ := hb
  have g0 : 0 ≤ (P : Int) * high := Int.mul_nonneg (by omega) (by omega)
  have g1 : 0 ≤ ((P : Int) * high + R) * wide := Int.mul_nonneg (by omega) (by omega)
  omega
 ·cases e
def zaW (n : Nat) : List (RV × Rat) := List.replicate n (zfi, 0)
def znW (n k : Nat) (r : RV) : List (RV × Rat) := (zaW n).set k (r, 1)
theorem zpR (n : Nat) (a : Int) : xQ ((zaW n).map Prod.snd) a = 0 := by
 unfold xQ zaW
 rw [List.map_replicate, List.getElem?_replicate]
 split <;> rfl
theorem zqU {n k : Nat} (r : RV) {a : Int} (ha : 0 ≤ a) (hk : k < n) : xQ ((znW n k r).map Prod.snd) a = if a = (k : Int) then 1 else 0 := by
 unfold xQ znW zaW
 rw [List.map_set, List.map_replicate, List.getElem?_set]
 by_cases e : a = (k : Int)
 ·rw [if_pos e, if_pos (by omega), if_pos (by simpa using hk)]; rfl
 ·rw [if_neg e, if_neg (by omega), List.getElem?_replicate]
  split <;> rfl
section
variable {KH KW H W ST PD R Q E : Nat} {ks bs : List Rat}
theorem zo5 (n k j : Nat) : zcg KH KW H W ST PD R Q E ks bs ((zaW n).map Prod.snd) k j = zd3 R Q bs k := by
 unfold zcg
 rw [zoD _ _ (zpR n), Rat.add_zero]
theorem zop {n c : Nat} (r : RV) (hc : c < n) (k j : Nat) : zcg KH KW H W ST PD R Q E ks bs ((znW n c r).map Prod.snd) k j = zd3 R Q bs k + getQ (zcP (plC KH KW H W ST PD R Q k) (kq ks E (k / Q / R)) j) (c : Int) := by
 unfold zcg
 congr 1
 refine (zdK (plC KH KW H W ST PD R Q k) (kq ks E (k / Q / R)) (y := fun a => if a = (c : Int) then 1 else 0) j fun k' a _ e => zqU r (zrt (show plK _ _ _ _ _ _ k' = some a from e)) hc).trans ?_
 exact zoz _ _ (fun _ => rfl) j
theorem zjq (k : Nat) (K : Nat → Rat) (j : Nat) : (zcP (plC KH KW H W ST PD R Q k) K j).Pairwise fun x y => x.1 < y.1 := zcS (fun _ _ _ _ h e e' => zjQ h e e') _ _
theorem zed {qs : List Rat} {n : Nat} (h1 : 1 ≤ n) (h : ∀ q ∈ qs, Sz q n) (i : Nat) : Sz ((qs[i]?).getD 0) n := by
 cases e : qs[i]? with
 | none => exact zfA.up h1
 | some q => exact h q (List.mem_of_getElem? e)
theorem znS {m : Nat} (h1 : 1 ≤ m) (hb : ∀ q ∈ bs, Sz q m) (n k j : Nat) : Sz (zcg KH KW H W ST PD R Q E ks bs ((zaW n).map Prod.snd) k j) m := by
 rw [zo5]; exact zed h1 hb _
theorem znV {m : Nat} (h1 : 1 ≤ m) (hb : ∀ q ∈ bs, Sz q m) (hk : ∀ q ∈ ks, Sz q m) {n c : Nat} (r : RV) (hc : c < n) (k j : Nat) : Sz (zcg KH KW H W ST PD R Q E ks bs ((znW n c r).map Prod.snd) k j) (m + m + 1) := by
 rw [zop r hc]
 refine (show Sz (zd3 R Q bs k) m from zed h1 hb _).add (zoj (P := fun q => Sz q m) (zfA.up h1) (zjq k _ j) (fun z hz => ?_) _)
 obtain ⟨i, -, -, e⟩ := zdC hz
 rw [e]
 exact zed h1 hk _
theorem zoV {m : Nat} (h1 : 1 ≤ m) (n : Nat) (q : Rat) (a : Int) : Sz (q * xQ ((zaW n).map Prod.snd) a) m := by
 rw [zpR, Rat.mul_zero]; exact zfA.up h1
theorem zoN {m n c : Nat} (h1 : 1 ≤ m) (r : RV) {q : Rat} (hq : Sz q m) (a : Int) : Sz (q * xQ ((znW n c r).map Prod.snd) a) m := by
 have h : xQ ((znW n c r).map Prod.snd) a = 0 ∨ xQ ((znW n c r).map Prod.snd) a = 1 := by
  unfold xQ znW zaW
  rw [List.map_set, List.map_replicate, List.getElem?_set]
  split
  ·split
   ·exact .inr rfl
   ·exact .inl rfl
  ·rw [List.getElem?_replicate]
   split
   ·exact .inl rfl
   ·exact .inl rfl
 rcases h with h | h
 ·rw [h, Rat.mul_zero]; exact zfA.up h1
 ·rw [h, Rat.mul_one]; exact hq
theorem zqS (a b : Rat) : a + b - a = b := by grind
end

theorem zq4 (L k j : Nat) (hk : k < L) (hj : j < 4) : (madeCells ratZ.cells (L * 4))[k * 4 + j]? = (rtcells (zfi, (0 : Rat)))[j]? := by
 have h1 : k * 4 + j < L * 4 := by omega
 have e : (madeCells ratZ.cells (L * 4))[k * 4 + j]? = some (ratZ.cells[(k * 4 + j) % ratZ.cells.size]!) := by
  simp [madeCells, h1]
 rw [e, show (k * 4 + j) % ratZ.cells.size = j from by rw [show ratZ.cells.size = 4 from rfl]; omega]
 match j, hj with
 | 0, _ => rfl
 | 1, _ => rfl
 | 2, _ => rfl
 | 3, _ => rfl
theorem zoI {g L n : Nat} {W : World} {t : TypeId} (h : Blk W g t (madeCells ratZ.cells (L * 4))) : LsR 4 rtcells (roD n) (some ⟨g, 0, none⟩) (zaW L) W := by
 unfold zaW
 refine ⟨⟨Sl.some_ _ _ _, fun i hi => ?_, fun i hi j hj => ?_⟩, fun p hp => ?_⟩
 ·rw [List.getElem_map]; rfl
 ·rw [List.length_map, List.length_replicate] at hi
  rw [za4, Nat.zero_add, List.getElem_map, List.getElem_replicate, ← zq4 L i j hi hj]
  exact h.cell _
 ·rw [List.eq_of_mem_replicate hp]
  exact RatD.zero_ _ _
theorem zpD : Tryz.prog.underlying 99 = some (.slice 42) := by kernel_rfl
theorem zqV : (Tryz.prog.info? 42).map (fun i => (i.zero, i.size, i.bytes)) = some (some (.slice none 0 0), 1, 24) := by kernel_rfl
theorem zqj (w : World) (L : Nat) (hL : L ≤ 100000) : (Instr.makeSlice 99 (.int .i64 (L : Int)) (.int .i64 (L : Int))).run Tryz.prog w = .ok (.slice (some ⟨w.heap.size, 0, none⟩) L L) (w.alloc (.cells (madeCells (Value.slice none 0 0).cells (L * 1)) 42)) := by
 obtain ⟨i0, hi0, hz0, hz1, hz2⟩ := info_parts zqV
 have h := run_makeSlice (P := Tryz.prog) w 99 42 i0 (.slice none 0 0) zpD hi0 hz0 .i64 .i64 (L : Int) (L : Int) (by omega) (by omega) (by rw [hz1, Int.toNat_natCast]; omega) (by rw [hz2]; omega) (by omega)
 rw [Int.toNat_natCast, hz1] at h
 exact h
theorem zbL (w : World) (L : Nat) (hL : L ≤ 100000) : (Instr.makeSlice 33 (.int .i64 (L : Int)) (.int .i64 (L : Int))).run Tryz.prog w = .ok (.slice (some ⟨w.heap.size, 0, none⟩) L L) (w.alloc (.cells (madeCells ratZ.cells (L * 4)) 41)) := by
 obtain ⟨i0, hi0, hz0, hz1, hz2⟩ := info_parts zbO
 have h := run_makeSlice (P := Tryz.prog) w 33 41 i0 ratZ zb0 hi0 hz0 .i64 .i64 (L : Int) (L : Int) (by omega) (by omega) (by rw [hz1, Int.toNat_natCast]; omega) (by rw [hz2]; omega) (by omega)
 rw [Int.toNat_natCast, hz1] at h
 exact h
section
variable {w W : World} {ls : List Ow} {old new : World → Prop}
theorem GL.appW {k g : Nat} {v : VeV} (h : GL w ls old new W) (hk : ls[k]? = some (znA v)) (x : TeV) (hd : Blk W g 45 (tecells x)) (hl : v.ts.length ≤ 1000000) :
 ∃ A' c' w', (Builtin.append_ #[42, 42] 42 #[.slice v.A v.ts.length v.c, .slice (some ⟨g, 0, none⟩) 1 1]).run Tryz.prog W = .ok (.slice A' (v.ts ++ [x]).length c') w' ∧ GL w (ls.set k (znA ⟨A', c', v.ts ++ [x]⟩)) old new w' :=
 GL.appG (cells := tecells) zaK zbz rfl (by decide) (by decide) h hk x rfl (zcr x) hd hl
theorem GL.al0 (h : GL w ls old new W) (L : Nat) (hL : L ≤ 100000) : ∃ W' g, W.alloc (.cells (madeCells (Value.slice none 0 0).cells (L * 1)) 42) = W' ∧ W.heap.size = g ∧ Hid (GL w (⟨42, 1, .slice (some ⟨g, 0, none⟩) L L, (List.replicate L (⟨none, 0, []⟩ : VeV)).map vecells⟩ :: (ls ++ (List.replicate L (⟨none, 0, []⟩ : VeV)).map znA)) old new W') := by
 refine ⟨_, _, rfl, rfl, zmZ ?_⟩
 have h1 := (h.addz (e := 42) (sz := 1) (z := (Value.slice none 0 0).cells) rfl (by decide) L (by simp [maxLen]; omega)).nils 45 5 L
 rw [List.map_replicate, List.map_replicate]
 exact h1
theorem GL.al4 (h : GL w ls old new W) (L : Nat) (hL : L ≤ 100000) : ∃ W' g, W.alloc (.cells (madeCells ratZ.cells (L * 4)) 41) = W' ∧ W.heap.size = g ∧ Hid (GL w (⟨41, 4, .slice (some ⟨g, 0, none⟩) L L, List.map rtcells (zaW L)⟩ :: ls) old new W') := by
 refine ⟨_, _, rfl, rfl, zmZ ?_⟩
 have h1 := h.addz (e := 41) (sz := 4) (z := ratZ.cells) rfl (by decide) L (by simp [maxLen]; omega)
 unfold zaW
 rw [List.map_replicate]
 exact h1
theorem GL.putW {k i : Nat} {e : TypeId} {g n cap : Nat} {A : Option Addr} (hA : A = some ⟨g, 0, none⟩) {l : List VeV} (h : GL w ls old new W) (hk : ls[k]? = some ⟨e, 1, .slice A n cap, l.map vecells⟩) (hi : i < l.length) (v : VeV) :
 GL w (ls.set k ⟨e, 1, .slice A n cap, (l.set i v).map vecells⟩) old new (W.setCell (adr A i) (.slice v.A v.ts.length v.c)) := h.putV hA hk hi v
end
theorem zon {α : Type} {l : List α} {f : α → Rat} {n : Nat} {F : Nat → Rat} (h : l.map f = (List.range n).map F) {j : Nat} (hj : j < l.length) : f l[j] = F j := by
 have h1 := congrArg List.length h
 rw [List.length_map, List.length_map, List.length_range] at h1
 have h2 := congrArg (fun x => x[j]?) h
 simp only [List.getElem?_map, List.getElem?_eq_getElem hj, List.getElem?_range (show j < n by omega), Option.map_some, Option.some.injEq] at h2
 exact h2
theorem El.rc9 {A : Option Addr} {l : List (RV × Rat)} {V : World} (h : El V 4 A (l.map rtcells)) (i : Nat) (hi : i < l.length) : RC A i l[i] V :=
 LsR.rc (LsR.mk' (ok := fun _ _ => True) h (fun _ _ => trivial)) i hi
theorem za5 (A : Option Addr) {n m : Nat} (h : n ≠ m) (V : World) (v : Value) : (V.setCell (adr A n) v).cell? (adr A m) = V.cell? (adr A m) :=
 World.cell?_setCell_other _ _ _ _ (fun e => by injection e; omega)
theorem ziw {α : Type} {P : α → Prop} {l : List α} {i : Nat} {x : α} (h : ∀ y ∈ l, P y) (hx : P x) : ∀ y ∈ l.set i x, P y := fun y hy => by
 rcases List.mem_or_eq_of_mem_set hy with h1 | rfl
 ·exact h y h1
 ·exact hx
theorem zqK {n : Nat} (h : 1 ≤ n) : Sz 1 n := by
 refine Sz.up (show Sz 1 1 from ⟨?_, ?_⟩) h <;> decide
def rowD (C KH KW H W ST PD R Q : Nat) (ks : List Rat) (i c : Nat) : Rat := getQ (zcP (plC KH KW H W ST PD R Q i) (kq ks (C * KH * KW) (i / Q / R)) (C * KH * KW)) (c : Int)
structure AfI (D : Nat → Nat → Rat) (M k j : Nat) (rs : List VeV) : Prop where
 n : rs.length = M
 q : ∀ i (h : i < rs.length), rs[i].ts.map plq = (List.range (if i < j then k + 1 else k)).map fun c : Nat => ((c : Int), D i c)
theorem AfI.start (D : Nat → Nat → Rat) (M : Nat) : AfI D M 0 0 (List.replicate M ⟨none, 0, []⟩) := ⟨by simp, fun i h => by rw [List.getElem_replicate, if_neg (by omega)]; rfl⟩
theorem AfI.turn {D : Nat → Nat → Rat} {M k : Nat} {rs : List VeV} (h : AfI D M k M rs) : AfI D M (k + 1) 0 rs := ⟨h.n, fun i hi => by rw [h.q i hi, if_pos (by rw [← h.n]; exact hi), if_neg (by omega)]⟩
theorem AfI.next {D : Nat → Nat → Rat} {M k j : Nat} {rs : List VeV} (h : AfI D M k j rs) (hj : j < rs.length) (A : Option Addr) (c : Nat) (r : RV) : AfI D M k (j + 1) (rs.set j ⟨A, c, rs[j].ts ++ [⟨(k : Int), r, D j k⟩]⟩) := by
 refine ⟨by rw [List.length_set]; exact h.n, fun i hi => ?_⟩
 rw [List.length_set] at hi
 rw [List.getElem_set]
 by_cases e : j = i
 ·subst e
  rw [if_pos rfl, if_pos (by omega), List.range_succ, List.map_append, List.map_append, h.q j hj, if_neg (by omega)]
  rfl
 ·rw [if_neg e, h.q i hi]
  by_cases h1 : i < j
  ·rw [if_pos h1, if_pos (by omega)]
  ·rw [if_neg h1, if_neg (by omega)]
theorem AfI.len {D : Nat → Nat → Rat} {M k j : Nat} {rs : List VeV} (h : AfI D M k j rs) {i : Nat} (hi : i < rs.length) : rs[i].ts.length ≤ k + 1 := by
 have h1 := congrArg List.length (h.q i hi)
 rw [List.length_map, List.length_map, List.length_range] at h1
 rw [h1]
 split <;> omega
theorem AfI.mem {D : Nat → Nat → Rat} {M k j : Nat} {rs : List VeV} (h : AfI D M k j rs) {i : Nat} (hi : i < rs.length) {t : TeV} (ht : t ∈ rs[i].ts) : ∃ c : Nat, t.q = D i c := by
 have h1 : plq t ∈ rs[i].ts.map plq := List.mem_map_of_mem (f := plq) ht
 rw [h.q i hi] at h1
 obtain ⟨c, -, hc⟩ := List.mem_map.1 h1
 exact ⟨c, (congrArg Prod.snd hc).symm⟩
theorem zqR {C KH KW H W ST PD R Q m : Nat} {ks : List Rat} (h1 : 1 ≤ m) (hk : ∀ q ∈ ks, Sz q m) (i c : Nat) : Sz (rowD C KH KW H W ST PD R Q ks i c) m := by
 unfold rowD
 refine zoj (P := fun q => Sz q m) (zfA.up h1) (zjq i _ _) (fun z hz => ?_) _
 obtain ⟨i, -, -, e⟩ := zdC hz
 rw [e]
 exact zed h1 hk _
theorem zpY {C KH KW H W ST PD R Q nx : Nat} {ks : List Rat} (hx : nx = C * H * W) (i : Nat) {P : List (Int × Rat)} (hP : P = (List.range nx).map fun c : Nat => ((c : Int), rowD C KH KW H W ST PD R Q ks i c)) {us : List (Int × Rat)} (h1 : us.Pairwise fun p q => p.1 < q.1) (h2 : ∀ p ∈ us, nzP p = true) (h3 : ∀ a, getQ us a = getQ P a) : us = rowF KH KW H W ST PD R Q (C * KH * KW) ks i := by
 have h := zqy (zjq (KH := KH) (KW := KW) (H := H) (W := W) (ST := ST) (PD := PD) (R := R) (Q := Q) i (kq ks (C * KH * KW) (i / Q / R)) (C * KH * KW)) (n := C * H * W) fun x hx => by
  obtain ⟨k, hk, e, -⟩ := zdC hx
  have h1 := zfD (ch := C) hk e
  simpa only [Int.natCast_mul] using h1
 have h' : P.filter nzP = rowF KH KW H W ST PD R Q (C * KH * KW) ks i := by rw [hP, hx]; exact h
 rw [← h']
 refine zo0 h1 ?_ h2 (fun p hp => (List.mem_filter.1 hp).2) fun a => by rw [zde, h3]
 refine List.Pairwise.filter _ ?_
 rw [hP, List.pairwise_map]
 exact List.pairwise_lt_range.imp fun h => by dsimp only; omega
set_option maxRecDepth 100000 in
theorem zor (w : World) (n : Nat) (h1n : 1 ≤ n) (l : LaV) (h : LaD n l w) (nr nb nk ng : Nat) (hk : nk = l.kern.length) (hb : nb = l.bias.length) (C H W O KH KW ST PD R Q : Nat) (hD : Dims l C H W O KH KW ST PD) (hd : C ≤ 256 ∧ H ≤ 256 ∧ W ≤ 256 ∧ KH ≤ 256 ∧ KW ≤ 256) (hd2 : O ≤ 256 ∧ ST ≤ 256 ∧ 1 ≤ ST ∧ PD ≤ 256 ∧ 1 ≤ KH ∧ 1 ≤ KW) (hP : PicOk l) (hR : zbA l = (R : Int)) (hQ : zbx l = (Q : Int)) (hrb : R ≤ 1000 ∧ Q ≤ 1000) (hkl : O * (C * KH * KW) = nk) (hbl : nb = O) (he : C * KH * KW ≤ 1000) (hu : O * R * Q ≤ 256) (nx : Nat) (hxl : nx = C * H * W) (hxb : nx ≤ 256) (hsz : 1 + nx * (n + 1) ≤ 3000) (hn2 : 2 * n + 1 ≤ 3000) : Calls Tryz.prog 38 #[dA l nr nb C H W O KH KW ST PD nk ng] w (zgh (zjx C H W O KH KW ST PD R Q (l.kern.map Prod.snd) (l.bias.map Prod.snd)) w) := by
 obtain ⟨d0, hd0⟩ : ∃ a, a = C * H := ⟨_, rfl⟩
 have hd0b : d0 ≤ 256 * 256 := by rw [hd0]; exact Nat.mul_le_mul hd.1 hd.2.1
 have hx0 : nx = d0 * W := by rw [hxl, hd0]
 have v0 := wmul hd0 (by omega)
 have v1 := wmul hx0 (by omega)
 have HBQ := zmZ (show ∀ q ∈ l.bias.map Prod.snd, Sz q n from fun q hq => by
  obtain ⟨p, hp, rfl⟩ := List.mem_map.1 hq
  exact RatD.sz (h.bias.ok p hp) h1n)
 have HKQ := zmZ (show ∀ q ∈ l.kern.map Prod.snd, Sz q n from fun q hq => by
  obtain ⟨p, hp, rfl⟩ := List.mem_map.1 hq
  exact RatD.sz (h.kern.ok p hp) h1n)
 have HCV := zmZ (fun (V : World) (hl : LaD n l V) (Ax : Option Addr) (cx : Nat) (xs : List (RV × Rat)) (hx : LsR 4 rtcells (roD n) Ax xs V) (hxn : nx = xs.length) h1 h2 => zpv V n (2 * n + 1) (by omega) hn2 h1n l hl nr nb nk ng hk hb C H W O KH KW ST PD R Q hD hd hd2 hP hR hQ hrb hkl hbl he (by omega) Ax cx xs nx hx hxn hxl h1 h2)
 have hub := zmZ hu
 have Hsz := zmZ hsz
 have Hxl := zmZ hxl
 clear hu hsz hk hb hD hP hR hQ hkl hbl he hd0 hx0 hxl hrb hd hd2
 have HE := zmZ (zmV l nr nb C H W O KH KW ST PD nk ng ((LaD.old l w h)))
 have c := Env.c2 HE.out
 have dd := Env.d2 HE.out
 clear h
 unfold dA
 go_enter Tryz.func38, Tryz.ntmps38
 go_upto_region 2 with fail
 refine wp_region_noPanic ?_
 refine wp_region_held_drew (S := (fun V => CB (w.heap.size) #[.int .u8 l.kind, .slice l.Ar nr l.cr, .slice l.Ab nb l.cb, .int .i64 (C : Int), .int .i64 (H : Int), .int .i64 (W : Int), .int .i64 (O : Int), .int .i64 (KH : Int), .int .i64 (KW : Int), .int .i64 (ST : Int), .int .i64 (PD : Int), .slice l.Ak nk l.ck, .slice l.Ag ng l.cg] V)) (by kernel_rfl) (by with_reducible first | exact (Env.c2 HE.out).2 | exact (Env.c2 HE.out.drew).2 | exact (Env.c3 HE.out).2.2) (fun hHeld => ?_)
 replace HE := zmZ HE.out.drew
 refine hT 0 20 hHeld ?_
 refine hT 1 21 hHeld ?_
 refine zcD (i := 2) rfl (by kernel_rfl) (by rfl) (fun K hK => ?_)
 clear hHeld
 simp only [q1, q2, q3]
 refine zpz (.tmp 21) (.tmp 21) 33 rfl (vl := .int .i64 (nx : Int)) (vc := .int .i64 (nx : Int)) rfl rfl (zbL _ nx (by omega)) ?_
 obtain ⟨W7, gm, hW7, hgm, HE⟩ := Env.al HE.out 41 (madeCells ratZ.cells (nx * 4))
 rw [hW7, hgm]
 clear hW7 hgm
 (try (go_wp2_with fail))
 refine hK.out _ _ (by with_reducible first | exact (Env.c2 HE.out).2 | exact (Env.c2 HE.out.drew).2 | exact (Env.c3 HE.out).2.2) (fun hHeld => ?_)
 clear hK K
 try simp only [p1, p2, p3, p4]
 refine zcD (i := 3) rfl (by kernel_rfl) (by rfl) (fun K hK => ?_)
 clear hHeld
 simp only [q1, q2, q3]
 go_simp
 refine (HCV.out _ HE.out.o (some ⟨gm, 0, none⟩) nx (zaW nx) (zoI (HE.out.bx ⟨gm, 41, madeCells ratZ.cells (nx * 4)⟩ (by simp))) (by simp [zaW]) (fun k j => (znS h1n HBQ.out nx k j).up (by omega)) (fun i a => zoV (by omega) nx _ a)).mono ?_
 rintro e w3 ⟨A0, c0, zs, rfl, hz9, hk9, hb9⟩
 have HZ := zmZ hz9
 replace HE := zmZ (Env.ret HE.out hk9 hb9)
 clear hz9 hk9 hb9
 (try (go_wp2_with fail))
 refine hK.out _ _ (by with_reducible first | exact (Env.c2 HE.out).2 | exact (Env.c2 HE.out.drew).2 | exact (Env.c3 HE.out).2.2) (fun hHeld => ?_)
 clear hK K
 try simp only [p1, p2, p3, p4]
 refine hT 4 4 hHeld ?_
 refine wpAnyH_done (by kernel_rfl) ?_ _
 refine NoPanic.normal ?_
 have hzl : zs.length = O * R * Q := by simpa using congrArg List.length HZ.out
 obtain ⟨M, hM⟩ : ∃ x, x = zs.length := ⟨_, rfl⟩
 rw [← hM]
 have hMb : M ≤ 256 := by rw [hM, hzl]; exact hub.out
 have HM := zmZ hM
 have HZL := zmZ (show M = O * R * Q by rw [hM, hzl])
 clear hM hzl hub
 have HG := zmZ (GL.ofEnv (bs1 := [⟨gm, 41, madeCells ratZ.cells (nx * 4)⟩, ⟨w.heap.size + 1, 36, #[.int .u8 0, .slice none 0 0, .slice none 0 0, .int .i64 0, .int .i64 0, .int .i64 0, .int .i64 0, .int .i64 0, .int .i64 0, .int .i64 0, .int .i64 0, .slice none 0 0, .slice none 0 0]⟩]) (bs2 := [⟨w.heap.size, 36, #[.int .u8 l.kind, .slice l.Ar nr l.cr, .slice l.Ab nb l.cb, .int .i64 (C : Int), .int .i64 (H : Int), .int .i64 (W : Int), .int .i64 (O : Int), .int .i64 (KH : Int), .int .i64 (KW : Int), .int .i64 (ST : Int), .int .i64 (PD : Int), .slice l.Ak nk l.ck, .slice l.Ag ng l.cg]⟩]) HE.out)
 replace HG := zmZ (GL.drop_ HG.out)
 clear HE
 go_wp2_with fail
 rw [zqj _ M (by omega)]
 obtain ⟨W3, gr, hW3, hgr, HG2⟩ := HG.out.al0 M (by omega)
 rw [hW3, hgr]
 clear hW3 hgr HG
 obtain ⟨Ar, hAr⟩ : ∃ A : Option Addr, A = some ⟨gr, 0, none⟩ := ⟨_, rfl⟩
 rw [← hAr] at HG2 ⊢
 have HAR := zmZ hAr
 have slr : Sl Ar M := by rw [hAr]; exact Sl.some_ _ _ _
 clear hAr
 go_upto_region 5 with fail
 have HG := zmZ (show GL w (⟨42, 1, .slice Ar M M, List.map vecells (List.replicate M (⟨none, 0, []⟩ : VeV))⟩ :: ([bow (w.heap.size + 1) 36 13 #[.int .u8 0, .slice none 0 0, .slice none 0 0, .int .i64 0, .int .i64 0, .int .i64 0, .int .i64 0, .int .i64 0, .int .i64 0, .int .i64 0, .int .i64 0, .slice none 0 0, .slice none 0 0]] ++ List.map znA (List.replicate M (⟨none, 0, []⟩ : VeV)))) (fun V => oD w l nr nb C H W O KH KW ST PD nk ng V ∧ LaD n l V) (fun V => (∀ zv ∈ (List.replicate M (⟨none, 0, []⟩ : VeV)), ∀ t ∈ zv.ts, teN t V) ∧ (El V 4 A0 (List.map rtcells zs) ∧ ∀ p ∈ zs, p ∈ l.bias ∨ RatN p.1 p.2 V)) _ from HG2.out.imp (fun _ h => h) (fun V h => ⟨fun v hv t ht => by rw [List.eq_of_mem_replicate hv] at ht; simp at ht, h.2.1⟩))
 clear HG2 c
 have slz := HG.out.n.2.1.sl
 rw [List.length_map, ← HM.out] at slz
 have szr := zak
 have hadd := za3
 go_loopw [6] (fun iv wr => ∃ (k : Nat) (rs : List VeV), iv = .int .i64 (k : Int) ∧ k ≤ nx ∧ Hid (AfI (rowD C KH KW H W ST PD R Q (l.kern.map Prod.snd)) M k 0 rs) ∧ Hid (GL w (⟨42, 1, .slice Ar M M, List.map vecells rs⟩ :: ([bow (w.heap.size + 1) 36 13 #[.int .u8 0, .slice none 0 0, .slice none 0 0, .int .i64 0, .int .i64 0, .int .i64 0, .int .i64 0, .int .i64 0, .int .i64 0, .int .i64 0, .int .i64 0, .slice none 0 0, .slice none 0 0]] ++ List.map znA rs)) (fun V => oD w l nr nb C H W O KH KW ST PD nk ng V ∧ LaD n l V) (fun V => (∀ zv ∈ rs, ∀ t ∈ zv.ts, teN t V) ∧ (El V 4 A0 (List.map rtcells zs) ∧ ∀ p ∈ zs, p ∈ l.bias ∨ RatN p.1 p.2 V)) wr)) (fun iv _ => nx - (intOf iv).toNat)
 case atStart => exact ⟨0, (List.replicate M (⟨none, 0, []⟩ : VeV)), rfl, Nat.zero_le _, zmZ (AfI.start _ _), HG⟩
 case round =>
  clear HG
  obtain ⟨k, rs, rfl, hk, HI, HG⟩ := hrel
  by_cases hlk : k < nx
  ·go_wp2_with fail
   rw [zbL _ nx (by omega)]
   obtain ⟨W4, gx, hW4, hgx, HG2⟩ := HG.out.al4 nx (by omega)
   rw [hW4, hgx]
   clear hW4 hgx HG
   obtain ⟨Ax, hAx⟩ : ∃ A : Option Addr, A = some ⟨gx, 0, none⟩ := ⟨_, rfl⟩
   rw [← hAx] at HG2 ⊢
   have HAX := zmZ hAx
   have slx : Sl Ax nx := by rw [hAx]; exact Sl.some_ _ _ _
   clear hAx
   go_wp2_with fail
   refine (zpk _ 1 1 (by decide) (by decide) (by decide) (by decide)).mono ?_
   rintro e w5 ⟨r, rfl, hk9, hb9⟩
   rw [show Rat.divInt 1 1 = 1 from by decide] at hk9
   replace HG2 := zmZ (HG2.out.call hk9 hb9)
   clear hk9 hb9
   have hkz : k < (zaW nx).length := by simpa [zaW] using hlk
   have fr := HG2.out.free HAX.out (k := 0) rfl
   have rcx := HG2.out.rc (k := 0) rfl hkz
   have hadd2 : ∀ (n j : Nat), ({ block := (adr Ax n).block, off := (adr Ax n).off + j } : Addr) = adr Ax (n + j) := fun n j => by unfold adr; simp [Nat.add_assoc]
   have hs01 := za5 Ax (show k * 4 ≠ k * 4 + 1 by omega)
   have hs02 := za5 Ax (show k * 4 ≠ k * 4 + 2 by omega)
   have hs03 := za5 Ax (show k * 4 ≠ k * 4 + 3 by omega)
   have hs12 := za5 Ax (show k * 4 + 1 ≠ k * 4 + 2 by omega)
   have hs13 := za5 Ax (show k * 4 + 1 ≠ k * 4 + 3 by omega)
   have hs23 := za5 Ax (show k * 4 + 2 ≠ k * 4 + 3 by omega)
   go_upto_region 9 with fail
   have HG5 := HG2.out.putR HAX.out (k := 0) rfl hkz r 1
   obtain ⟨W6, hW6⟩ : ∃ W', ((((World.setCell w5 (adr Ax (k * 4)) (.bool r.num.neg)).setCell (adr Ax (k * 4 + 1)) (.slice r.num.A r.num.k r.num.c)).setCell (adr Ax (k * 4 + 2)) (.bool r.den.neg)).setCell (adr Ax (k * 4 + 3)) (.slice r.den.A r.den.k r.den.c)) = W' := ⟨_, rfl⟩
   rw [hW6] at HG5 ⊢
   have HG := zmZ (show GL w (⟨41, 4, .slice Ax nx nx, List.map rtcells (znW nx k r)⟩ :: (⟨42, 1, .slice Ar M M, List.map vecells rs⟩ :: ([bow (w.heap.size + 1) 36 13 #[.int .u8 0, .slice none 0 0, .slice none 0 0, .int .i64 0, .int .i64 0, .int .i64 0, .int .i64 0, .int .i64 0, .int .i64 0, .int .i64 0, .int .i64 0, .slice none 0 0, .slice none 0 0]] ++ List.map znA rs))) (fun V => oD w l nr nb C H W O KH KW ST PD nk ng V ∧ LaD n l V) (fun V => RatN r 1 V ∧ ((∀ zv ∈ rs, ∀ t ∈ zv.ts, teN t V) ∧ (El V 4 A0 (List.map rtcells zs) ∧ ∀ p ∈ zs, p ∈ l.bias ∨ RatN p.1 p.2 V))) W6 from HG5)
   clear HG5 HG2 hW6 rcx fr hadd2 hs01 hs02 hs03 hs12 hs13 hs23
   have cb := Blk.cb (HG.out.o.1 _ (List.mem_singleton_self _))
   go_wp2_with fail
   refine (HCV.out _ HG.out.o.2 Ax nx (znW nx k r) ⟨(HG.out.els9 (k := 0) rfl).now, fun p hp => ?_⟩ (by simp [znW, zaW]) (fun k' j => (znV h1n HBQ.out HKQ.out r hlk k' j).up (by omega)) (fun i a => (zoN h1n r (zed h1n HKQ.out i) a).up (by omega))).mono ?_
   ·rcases List.mem_or_eq_of_mem_set (show p ∈ (zaW nx).set k (r, 1) from hp) with h | rfl
    ·unfold zaW at h
     rw [List.eq_of_mem_replicate h]
     exact RatD.zero_ _ _
    ·exact RatN.rat HG.out.n.1 (zqK h1n)
   rintro e w6 ⟨A1, c1, ys, rfl, hz9, hk9, hb9⟩
   have HY := zmZ hz9
   replace HG := zmZ (HG.out.call hk9 hb9)
   replace HG := zmZ (HG.out.dropL)
   clear hz9 hk9 hb9 cb
   replace HG := zmZ (show GL w (⟨42, 1, .slice Ar M M, List.map vecells rs⟩ :: ([bow (w.heap.size + 1) 36 13 #[.int .u8 0, .slice none 0 0, .slice none 0 0, .int .i64 0, .int .i64 0, .int .i64 0, .int .i64 0, .int .i64 0, .int .i64 0, .int .i64 0, .int .i64 0, .slice none 0 0, .slice none 0 0]] ++ List.map znA rs)) (fun V => oD w l nr nb C H W O KH KW ST PD nk ng V ∧ LaD n l V) (fun V => (El V 4 A1 (List.map rtcells ys) ∧ ∀ p ∈ ys, p ∈ l.bias ∨ RatN p.1 p.2 V) ∧ (∀ zv ∈ rs, ∀ t ∈ zv.ts, teN t V) ∧ (El V 4 A0 (List.map rtcells zs) ∧ ∀ p ∈ zs, p ∈ l.bias ∨ RatN p.1 p.2 V)) _ from HG.out.imp (fun _ h => h) (fun V h => ⟨h.2.1, h.2.2.2⟩))
   have hyl : ys.length = M := by have h9 := congrArg List.length HY.out; simp at h9; rw [h9]; exact HZL.out.symm
   rw [hyl]
   have Hyl := zmZ hyl
   have sly := HG.out.n.1.1.sl
   rw [List.length_map, hyl] at sly
   clear hyl
   go_upto_region 11 with fail
   go_loopw [9] (fun jv wr => ∃ (j : Nat) (rs : List VeV), jv = .int .i64 (j : Int) ∧ j ≤ M ∧ Hid (AfI (rowD C KH KW H W ST PD R Q (l.kern.map Prod.snd)) M k j rs) ∧ Hid (GL w (⟨42, 1, .slice Ar M M, List.map vecells rs⟩ :: ([bow (w.heap.size + 1) 36 13 #[.int .u8 0, .slice none 0 0, .slice none 0 0, .int .i64 0, .int .i64 0, .int .i64 0, .int .i64 0, .int .i64 0, .int .i64 0, .int .i64 0, .int .i64 0, .slice none 0 0, .slice none 0 0]] ++ List.map znA rs)) (fun V => oD w l nr nb C H W O KH KW ST PD nk ng V ∧ LaD n l V) (fun V => (El V 4 A1 (List.map rtcells ys) ∧ ∀ p ∈ ys, p ∈ l.bias ∨ RatN p.1 p.2 V) ∧ (∀ zv ∈ rs, ∀ t ∈ zv.ts, teN t V) ∧ (El V 4 A0 (List.map rtcells zs) ∧ ∀ p ∈ zs, p ∈ l.bias ∨ RatN p.1 p.2 V)) wr)) (fun jv _ => M - (intOf jv).toNat)
   case atStart => exact ⟨0, rs, rfl, Nat.zero_le _, HI, HG⟩
   case round =>
    clear HG HI
    obtain ⟨j, rs, rfl, hj, HI, HG⟩ := hrel
    by_cases hlj : j < M
    ·have hjr : j < rs.length := by rw [HI.out.n]; exact hlj
     have hjz : j < zs.length := by rw [← HM.out]; exact hlj
     have hjy : j < ys.length := by rw [Hyl.out]; exact hlj
     have HNX := zmZ (fun (A : Option Addr) (c : Nat) (q : RV) => HI.out.next hjr A c q)
     have HLV := zmZ (HI.out.len hjr)
     have HZ2 := zmZ (zon (f := Prod.snd) (F := fun k => (zcg KH KW H W ST PD R Q (C * KH * KW) (l.kern.map Prod.snd) (l.bias.map Prod.snd) ((zaW nx).map Prod.snd) k (C * KH * KW))) HZ.out hjz)
     have HY2 := zmZ (zon (f := Prod.snd) (F := fun k' => (zcg KH KW H W ST PD R Q (C * KH * KW) (l.kern.map Prod.snd) (l.bias.map Prod.snd) ((znW nx k r).map Prod.snd) k' (C * KH * KW))) HY.out hjy)
     have HZC := zmZ (fun (V : World) (h : El V 4 A0 (List.map rtcells zs)) => h.rc9 j hjz)
     have HYC := zmZ (fun (V : World) (h : El V 4 A1 (List.map rtcells ys)) => h.rc9 j hjy)
     have Hmz := zmZ (List.getElem_mem hjz)
     have Hmy := zmZ (List.getElem_mem hjy)
     obtain ⟨z, hz⟩ : ∃ z, z = zs[j] := ⟨_, rfl⟩
     obtain ⟨y, hy⟩ : ∃ y, y = ys[j] := ⟨_, rfl⟩
     obtain ⟨v, hv⟩ : ∃ v, v = rs[j] := ⟨_, rfl⟩
     rw [← hz] at HZ2 HZC Hmz
     rw [← hy] at HY2 HYC Hmy
     rw [← hv] at HNX HLV
     have Hv := zmZ hv
     clear hz hy hv
     have HZS := zmZ (show Sz z.2 (2 * n + 1) from by rw [HZ2.out]; exact (znS h1n HBQ.out nx j _).up (by omega))
     have HYS := zmZ (show Sz y.2 (2 * n + 1) from by rw [HY2.out]; exact (znV h1n HBQ.out HKQ.out r hlk j _).up (by omega))
     have HQ := zmZ (show y.2 - z.2 = (rowD C KH KW H W ST PD R Q (l.kern.map Prod.snd)) j k from by rw [HY2.out, HZ2.out, zo5, zop r hlk, zqS]; rfl)
     have HVC := zmZ (show ∀ (ls' : List Ow) (new' : World → Prop) (V : World), GL w ls' (fun V => oD w l nr nb C H W O KH KW ST PD nk ng V ∧ LaD n l V) new' V → ls'[0]? = some ⟨42, 1, .slice Ar M M, List.map vecells rs⟩ → V.cell? (adr Ar j) = some (.slice v.A v.ts.length v.c) from fun ls' new' V h h0 => by rw [Hv.out]; exact h.vc h0 hjr)
     clear HZ2 HY2
     have hlv2 : v.ts.length ≤ 1000000 := by have := HLV.out; omega
     have HL2 := zmZ hlv2
     clear hlv2
     go_upto_region 13 with fail
     refine wp_region_noPanic ?_
     refine zaX 20 (fun V => RC A1 j y V ∧ RC A0 j z V ∧ V.cell? (adr Ar j) = some (.slice v.A v.ts.length v.c)) (by kernel_rfl) (by with_reducible first | exact ⟨HYC.out _ HG.out.n.1.1, HZC.out _ HG.out.n.2.2.1, HVC.out _ _ _ HG.out rfl⟩ | exact ⟨HYC.out _ HG.out.drew.n.1.1, HZC.out _ HG.out.drew.n.2.2.1, HVC.out _ _ _ HG.out.drew rfl⟩ | exact ⟨HYC.out _ HG.out.n.2.1.1, HZC.out _ HG.out.n.2.2.2.1, HVC.out _ _ _ HG.out rfl⟩ | exact ⟨HYC.out _ HG.out.drew.n.2.1.1, HZC.out _ HG.out.drew.n.2.2.2.1, HVC.out _ _ _ HG.out.drew rfl⟩ | exact ⟨HYC.out _ HG.out.n.2.2.1.1, HZC.out _ HG.out.n.2.2.2.2.1, HVC.out _ _ _ HG.out rfl⟩ | exact ⟨HYC.out _ HG.out.drew.n.2.2.1.1, HZC.out _ HG.out.drew.n.2.2.2.2.1, HVC.out _ _ _ HG.out.drew rfl⟩) (fun hHeld => ?_)
     replace HG := zmZ HG.out.drew
     refine gTa 0 47 hHeld ?_
     refine gTa 1 48 hHeld ?_
     refine gTa 2 49 hHeld ?_
     refine gTa 3 50 hHeld ?_
     refine gTa 4 51 hHeld ?_
     refine gTa 5 52 hHeld ?_
     refine gTa 6 53 hHeld ?_
     refine gTa 7 54 hHeld ?_
     refine gTa 8 55 hHeld ?_
     refine gTa 9 56 hHeld ?_
     refine gTa 10 57 hHeld ?_
     refine gTa 11 58 hHeld ?_
     refine gTa 12 59 hHeld ?_
     refine gTa 13 60 hHeld ?_
     refine gTa 14 61 hHeld ?_
     refine gC 15 rfl (by kernel_rfl) (by rfl) (fun K hK => ?_)
     clear hHeld
     simp only [q1, q2, q3]
     go_simp
     refine (zoH _ y.1 z.1 y.2 z.2 (2 * n + 1) hn2 (by omega) (RatN.orD (HG.out.n.1.2 y Hmy.out) HG.out.o.2 (by omega) HYS.out) (RatN.orD (HG.out.n.2.2.2 z Hmz.out) HG.out.o.2 (by omega) HZS.out)).mono ?_
     rintro e wq ⟨q9, rfl, hk9, hb9⟩
     rw [HQ.out] at hk9
     replace HG := zmZ (HG.out.call hk9 hb9)
     clear hk9 hb9
     (try (go_wp2_with fail))
     refine hK.out _ _ (by with_reducible first | exact ⟨HYC.out _ HG.out.n.1.1, HZC.out _ HG.out.n.2.2.1, HVC.out _ _ _ HG.out rfl⟩ | exact ⟨HYC.out _ HG.out.drew.n.1.1, HZC.out _ HG.out.drew.n.2.2.1, HVC.out _ _ _ HG.out.drew rfl⟩ | exact ⟨HYC.out _ HG.out.n.2.1.1, HZC.out _ HG.out.n.2.2.2.1, HVC.out _ _ _ HG.out rfl⟩ | exact ⟨HYC.out _ HG.out.drew.n.2.1.1, HZC.out _ HG.out.drew.n.2.2.2.1, HVC.out _ _ _ HG.out.drew rfl⟩ | exact ⟨HYC.out _ HG.out.n.2.2.1.1, HZC.out _ HG.out.n.2.2.2.2.1, HVC.out _ _ _ HG.out rfl⟩ | exact ⟨HYC.out _ HG.out.drew.n.2.2.1.1, HZC.out _ HG.out.drew.n.2.2.2.2.1, HVC.out _ _ _ HG.out.drew rfl⟩) (fun hHeld => ?_)
     clear hK K
     try simp only [p1, p2, p3, p4]
     refine gTa 16 63 hHeld ?_
     refine gC 17 rfl (by kernel_rfl) (by rfl) (fun K hK => ?_)
     clear hHeld
     simp only [q1, q2, q3]
     go_simp
     (try (go_wp2_with fail))
     obtain ⟨W7, gb, hW7, hgb, HG⟩ := HG.out.al 45 #[.int .i64 (k : Int), .bool q9.num.neg, .slice q9.num.A q9.num.k q9.num.c, .bool q9.den.neg, .slice q9.den.A q9.den.k q9.den.c]
     rw [hW7, hgb]
     clear hW7 hgb
     (try (go_wp2_with fail))
     refine hK.out _ _ (by with_reducible first | exact ⟨HYC.out _ HG.out.n.1.1, HZC.out _ HG.out.n.2.2.1, HVC.out _ _ _ HG.out rfl⟩ | exact ⟨HYC.out _ HG.out.drew.n.1.1, HZC.out _ HG.out.drew.n.2.2.1, HVC.out _ _ _ HG.out.drew rfl⟩ | exact ⟨HYC.out _ HG.out.n.2.1.1, HZC.out _ HG.out.n.2.2.2.1, HVC.out _ _ _ HG.out rfl⟩ | exact ⟨HYC.out _ HG.out.drew.n.2.1.1, HZC.out _ HG.out.drew.n.2.2.2.1, HVC.out _ _ _ HG.out.drew rfl⟩ | exact ⟨HYC.out _ HG.out.n.2.2.1.1, HZC.out _ HG.out.n.2.2.2.2.1, HVC.out _ _ _ HG.out rfl⟩ | exact ⟨HYC.out _ HG.out.drew.n.2.2.1.1, HZC.out _ HG.out.drew.n.2.2.2.2.1, HVC.out _ _ _ HG.out.drew rfl⟩) (fun hHeld => ?_)
     clear hK K
     try simp only [p1, p2, p3, p4]
     obtain ⟨A2, c2, W8, hrun, HG2⟩ := HG.out.appW (k := j + 2) (v := v) (show (rs.map znA)[j]? = some (znA v) from by rw [List.getElem?_map, List.getElem?_eq_getElem hjr, ← Hv.out]; rfl) ⟨(k : Int), q9, (rowD C KH KW H W ST PD R Q (l.kern.map Prod.snd)) j k⟩ HG.out.n.1 HL2.out
     refine gC 18 rfl (by kernel_rfl) (by rfl) (fun K hK => ?_)
     clear hHeld
     simp only [q1, q2, q3]
     refine zeC (.tmp 52) (.tmp 64) 42 _ _ _ rfl rfl rfl hrun ?_
     clear hrun
     replace HG := zmZ HG2
     clear HG2
     refine hK.out _ _ (by with_reducible first | exact ⟨HYC.out _ HG.out.n.1.1, HZC.out _ HG.out.n.2.2.1, HVC.out _ _ _ HG.out rfl⟩ | exact ⟨HYC.out _ HG.out.drew.n.1.1, HZC.out _ HG.out.drew.n.2.2.1, HVC.out _ _ _ HG.out.drew rfl⟩ | exact ⟨HYC.out _ HG.out.n.2.1.1, HZC.out _ HG.out.n.2.2.2.1, HVC.out _ _ _ HG.out rfl⟩ | exact ⟨HYC.out _ HG.out.drew.n.2.1.1, HZC.out _ HG.out.drew.n.2.2.2.1, HVC.out _ _ _ HG.out.drew rfl⟩ | exact ⟨HYC.out _ HG.out.n.2.2.1.1, HZC.out _ HG.out.n.2.2.2.2.1, HVC.out _ _ _ HG.out rfl⟩ | exact ⟨HYC.out _ HG.out.drew.n.2.2.1.1, HZC.out _ HG.out.drew.n.2.2.2.2.1, HVC.out _ _ _ HG.out.drew rfl⟩) (fun hHeld => ?_)
     clear hK K
     try simp only [p1, p2, p3, p4]
     refine gTa 19 66 hHeld ?_
     have cc := HVC.out _ _ _ HG.out rfl
     have fc := HG.out.free HAR.out (k := 0) rfl
     refine gL rfl (by kernel_rfl) (by kernel_rfl) (by rfl) (fun K hK => ?_)
     clear hHeld
     simp only [q1, q2, q3]
     go_simp
     (try (go_wp2_with fail))
     refine hK.out _ _ ?_
     clear hK K
     try simp only [p1, p2, p3, p4]
     refine NoPanic.normal ?_
     clear cc fc
     replace HG := zmZ (HG.out.putW HAR.out (k := 0) rfl hjr ⟨A2, c2, v.ts ++ [⟨(k : Int), q9, (rowD C KH KW H W ST PD R Q (l.kern.map Prod.snd)) j k⟩]⟩)
     go_wp2_with fail
     go_roundw
     case rel => exact ⟨j + 1, rs.set j ⟨A2, c2, v.ts ++ [⟨(k : Int), q9, (rowD C KH KW H W ST PD R Q (l.kern.map Prod.snd)) j k⟩]⟩, by go_num, by omega, zmZ (HNX.out A2 c2 q9), zmZ (show GL w (⟨42, 1, .slice Ar M M, List.map vecells (rs.set j ⟨A2, c2, v.ts ++ [⟨(k : Int), q9, (rowD C KH KW H W ST PD R Q (l.kern.map Prod.snd)) j k⟩]⟩)⟩ :: ([bow (w.heap.size + 1) 36 13 #[.int .u8 0, .slice none 0 0, .slice none 0 0, .int .i64 0, .int .i64 0, .int .i64 0, .int .i64 0, .int .i64 0, .int .i64 0, .int .i64 0, .int .i64 0, .slice none 0 0, .slice none 0 0]] ++ List.map znA (rs.set j ⟨A2, c2, v.ts ++ [⟨(k : Int), q9, (rowD C KH KW H W ST PD R Q (l.kern.map Prod.snd)) j k⟩]⟩))) (fun V => oD w l nr nb C H W O KH KW ST PD nk ng V ∧ LaD n l V) (fun V => (El V 4 A1 (List.map rtcells ys) ∧ ∀ p ∈ ys, p ∈ l.bias ∨ RatN p.1 p.2 V) ∧ (∀ zv ∈ (rs.set j ⟨A2, c2, v.ts ++ [⟨(k : Int), q9, (rowD C KH KW H W ST PD R Q (l.kern.map Prod.snd)) j k⟩]⟩), ∀ t ∈ zv.ts, teN t V) ∧ (El V 4 A0 (List.map rtcells zs) ∧ ∀ p ∈ zs, p ∈ l.bias ∨ RatN p.1 p.2 V)) _ from by
      have hn9 : ∀ V, (RatN q9 ((rowD C KH KW H W ST PD R Q (l.kern.map Prod.snd)) j k) V ∧ True) → (∀ zv ∈ rs, ∀ t ∈ zv.ts, teN t V) → ∀ zv ∈ rs.set j ⟨A2, c2, v.ts ++ [⟨(k : Int), q9, (rowD C KH KW H W ST PD R Q (l.kern.map Prod.snd)) j k⟩]⟩, ∀ t ∈ zv.ts, teN t V := fun V h0 h => ziw (P := fun zv : VeV => ∀ t ∈ zv.ts, teN t V) (i := j) (x := ⟨A2, c2, v.ts ++ [⟨(k : Int), q9, (rowD C KH KW H W ST PD R Q (l.kern.map Prod.snd)) j k⟩]⟩) h (by
       intro x hx
       rcases List.mem_append.1 (show x ∈ v.ts ++ [⟨(k : Int), q9, (rowD C KH KW H W ST PD R Q (l.kern.map Prod.snd)) j k⟩] from hx) with hx | hx
       ·exact h v (by rw [Hv.out]; exact List.getElem_mem hjr) x hx
       ·rw [List.mem_singleton.1 hx]; exact h0.1)
      have hg := HG.out.imp (φ := fun V => oD w l nr nb C H W O KH KW ST PD nk ng V ∧ LaD n l V) (ψ := fun V => (El V 4 A1 (List.map rtcells ys) ∧ ∀ p ∈ ys, p ∈ l.bias ∨ RatN p.1 p.2 V) ∧ (∀ zv ∈ (rs.set j ⟨A2, c2, v.ts ++ [⟨(k : Int), q9, (rowD C KH KW H W ST PD R Q (l.kern.map Prod.snd)) j k⟩]⟩), ∀ t ∈ zv.ts, teN t V) ∧ (El V 4 A0 (List.map rtcells zs) ∧ ∀ p ∈ zs, p ∈ l.bias ∨ RatN p.1 p.2 V)) (fun V h => h) (fun V h => ⟨h.2.2.1, hn9 V ⟨h.2.1, trivial⟩ h.2.2.2.1, h.2.2.2.2⟩)
      rw [List.map_set (f := znA)]
      dsimp only at hg
      rw [List.length_append] at hg
      exact hg)⟩
     case measure => (simp [intOf] <;> omega)
    ·obtain rfl : j = M := by omega
     have HI2 := zmZ HI.out.turn
     go_wp2_with fail
     go_roundw
     case rel => exact ⟨k + 1, rs, by go_num, by omega, HI2, zmZ (HG.out.imp (fun _ h => h) (fun V h => h.2))⟩
     case measure => (simp [intOf] <;> omega)
  ·obtain rfl : k = nx := by omega
   go_upto_region 16 with fail
   obtain ⟨W5, g5, hW5, hg5, HG2⟩ := HG.out.alb 36 #[.int .u8 1, .slice none 0 0, .slice none 0 0, .int .i64 0, .int .i64 0, .int .i64 0, .int .i64 0, .int .i64 0, .int .i64 0, .int .i64 0, .int .i64 0, .slice none 0 0, .slice none 0 0]
   rw [hW5, hg5]
   clear hW5 hg5
   replace HG := zmZ (((HG2.out.new_ 41 4).new_ 43 1).imp (φ := fun V => oD w l nr nb C H W O KH KW ST PD nk ng V ∧ LaD n l V) (ψ := (fun V => (∀ zv ∈ ([] : List VeV), veF teN zv V) ∧ (∀ zp ∈ ([] : List (RV × Rat)), roN zp V) ∧ (∀ zv ∈ rs, ∀ t ∈ zv.ts, teN t V) ∧ (El V 4 A0 (List.map rtcells zs) ∧ ∀ p ∈ zs, p ∈ l.bias ∨ RatN p.1 p.2 V))) (fun _ h => h) (fun _ h => ⟨by simp, by simp, h⟩))
   clear HG2
   go_loopw [11] (fun iv wr => ∃ (i : Nat) (Ao Ab : Option Addr) (co cb : Nat) (os : List VeV) (bs : List (RV × Rat)), iv = .int .i64 (i : Int) ∧ i ≤ M ∧ Hid (SmI (rowF KH KW H W ST PD R Q (C * KH * KW) (l.kern.map Prod.snd)) (zd3 R Q (l.bias.map Prod.snd)) i i os bs) ∧ Hid (GL w (⟨43, 1, .slice Ao (List.length os) co, List.map vecells os⟩ :: ⟨41, 4, .slice Ab (List.length bs) cb, List.map rtcells bs⟩ :: bow g5 36 13 #[.int .u8 1, .slice Ao (List.length os) co, .slice Ab (List.length bs) cb, .int .i64 0, .int .i64 0, .int .i64 0, .int .i64 0, .int .i64 0, .int .i64 0, .int .i64 0, .int .i64 0, .slice none 0 0, .slice none 0 0] :: (⟨42, 1, .slice Ar M M, List.map vecells rs⟩ :: ([bow (w.heap.size + 1) 36 13 #[.int .u8 0, .slice none 0 0, .slice none 0 0, .int .i64 0, .int .i64 0, .int .i64 0, .int .i64 0, .int .i64 0, .int .i64 0, .int .i64 0, .int .i64 0, .slice none 0 0, .slice none 0 0]] ++ List.map znA rs))) (fun V => oD w l nr nb C H W O KH KW ST PD nk ng V ∧ LaD n l V) (fun V => (∀ zv ∈ os, veF teN zv V) ∧ (∀ zp ∈ bs, roN zp V) ∧ (∀ zv ∈ rs, ∀ t ∈ zv.ts, teN t V) ∧ (El V 4 A0 (List.map rtcells zs) ∧ ∀ p ∈ zs, p ∈ l.bias ∨ RatN p.1 p.2 V)) wr)) (fun iv _ => M - (intOf iv).toNat)
   case atStart => exact ⟨0, none, none, 0, 0, [], [], rfl, Nat.zero_le _, zmZ ⟨by simp, by simp⟩, HG⟩
   case round =>
    clear HG
    obtain ⟨i, Ao, Ab, co, cb, os, bs, rfl, hi, HS, HG⟩ := hrel
    by_cases hli : i < M
    ·have hir : i < rs.length := by rw [HI.out.n]; exact hli
     have hiz : i < zs.length := by rw [← HM.out]; exact hli
     have Hlr := zmZ HS.out.lr
     have HRQ := zmZ (HI.out.q i hir)
     have HRQ := zmZ (show rs[i].ts.map plq = (List.range k).map (fun c : Nat => ((c : Int), (rowD C KH KW H W ST PD R Q (l.kern.map Prod.snd)) i c)) from by have h9 := HI.out.q i hir; rwa [if_neg (Nat.not_lt_zero _)] at h9)
     have HMEM := zmZ (fun (t : TeV) (ht : t ∈ rs[i].ts) => HI.out.mem hir ht)
     have HB1 := zmZ (show zs[i].2 = (zd3 R Q (l.bias.map Prod.snd)) i from by rw [zon (f := Prod.snd) (F := fun k' => (zcg KH KW H W ST PD R Q (C * KH * KW) (l.kern.map Prod.snd) (l.bias.map Prod.snd) ((zaW k).map Prod.snd) k' (C * KH * KW))) HZ.out hiz, zo5])
     have HZC := zmZ (fun (V : World) (h : El V 4 A0 (List.map rtcells zs)) => h.rc9 i hiz)
     have Hmz := zmZ (List.getElem_mem hiz)
     obtain ⟨z, hz⟩ : ∃ z, z = zs[i] := ⟨_, rfl⟩
     obtain ⟨v, hv⟩ : ∃ v, v = rs[i] := ⟨_, rfl⟩
     rw [← hz] at HB1 HZC Hmz
     rw [← hv] at HRQ HMEM
     have Hv := zmZ hv
     clear hz hv
     have HVL := zmZ (show v.ts.length = k from by have h9 := congrArg List.length HRQ.out; simpa using h9)
     have HNM := zmZ (fun (us : List (Int × Rat)) h1 h2 h3 => zpY Hxl.out i HRQ.out (us := us) h1 h2 h3)
     have HVC := zmZ (show ∀ (ls' : List Ow) (new' : World → Prop) (V : World), GL w ls' (fun V => oD w l nr nb C H W O KH KW ST PD nk ng V ∧ LaD n l V) new' V → ls'[3]? = some ⟨42, 1, .slice Ar M M, List.map vecells rs⟩ → V.cell? (adr Ar i) = some (.slice v.A v.ts.length v.c) from fun ls' new' V h h0 => by rw [Hv.out]; exact h.vc h0 hir)
     have HZS := zmZ (show Sz z.2 n from by rw [HB1.out]; exact zed h1n HBQ.out _)
     go_upto_region 18 with fail
     refine wp_region_noPanic ?_
     refine zaX 10 (fun V => CB g5 #[.int .u8 1, .slice Ao (List.length os) co, .slice Ab (List.length bs) cb, .int .i64 0, .int .i64 0, .int .i64 0, .int .i64 0, .int .i64 0, .int .i64 0, .int .i64 0, .int .i64 0, .slice none 0 0, .slice none 0 0] V ∧ V.cell? (adr Ar i) = some (.slice v.A v.ts.length v.c)) (by kernel_rfl) (by with_reducible first | exact ⟨HG.out.cb (k := 2) rfl, HVC.out _ _ _ HG.out rfl⟩ | exact ⟨HG.out.drew.cb (k := 2) rfl, HVC.out _ _ _ HG.out.drew rfl⟩) (fun hHeld => ?_)
     replace HG := zmZ HG.out.drew
     refine gTa 0 74 hHeld ?_
     refine gTa 1 75 hHeld ?_
     refine gTa 2 76 hHeld ?_
     refine gTa 3 77 hHeld ?_
     refine gTa 4 78 hHeld ?_
     refine gTa 5 79 hHeld ?_
     refine gC 6 rfl (by kernel_rfl) (by rfl) (fun K hK => ?_)
     clear hHeld
     simp only [q1, q2, q3]
     go_simp
     refine (zox _ n 3000 (by omega) h1n v.A v.c v.ts (LsR.mk' (HG.out.els9 (k := i + 5) (show (rs.map znA)[i]? = some (znA v) from by rw [List.getElem?_map, List.getElem?_eq_getElem hir, ← Hv.out]; rfl)).now (fun t ht => ?_)) (by rw [HVL.out]; omega) (by omega) (by rw [HVL.out]; exact Hsz.out)).mono ?_
     ·obtain ⟨c9, hc9⟩ := HMEM.out t ht
      exact RatN.rat (HG.out.n.2.2.1 v (by rw [Hv.out]; exact List.getElem_mem hir) t ht) (by rw [hc9]; exact zqR h1n HKQ.out i c9)
     rintro e wq ⟨us9, hp1, hp2, hp3, hp4, A9, c9, ts9, rfl, -, hm9, hk9, hb9⟩
     have Hm9 := zmZ (hm9.trans (HNM.out us9 hp1 (fun p hp => (hp2 p hp).1) hp4))
     replace HG := zmZ (HG.out.call hk9 hb9)
     clear hm9 hk9 hb9 hp1 hp2 hp3 hp4
     (try (go_wp2_with fail))
     refine hK.out _ _ (by with_reducible first | exact ⟨HG.out.cb (k := 2) rfl, HVC.out _ _ _ HG.out rfl⟩ | exact ⟨HG.out.drew.cb (k := 2) rfl, HVC.out _ _ _ HG.out.drew rfl⟩) (fun hHeld => ?_)
     clear hK K
     try simp only [p1, p2, p3, p4]
     refine gC 7 rfl (by kernel_rfl) (by rfl) (fun K hK => ?_)
     clear hHeld
     simp only [q1, q2, q3]
     go_simp
     (try (go_wp2_with fail))
     obtain ⟨W7, gb, hW7, hgb, HG⟩ := HG.out.al 43 #[.slice A9 (List.length ts9) c9]
     rw [hW7, hgb]
     clear hW7 hgb
     (try (go_wp2_with fail))
     refine hK.out _ _ (by with_reducible first | exact ⟨HG.out.cb (k := 2) rfl, HVC.out _ _ _ HG.out rfl⟩ | exact ⟨HG.out.drew.cb (k := 2) rfl, HVC.out _ _ _ HG.out.drew rfl⟩) (fun hHeld => ?_)
     clear hK K
     try simp only [p1, p2, p3, p4]
     obtain ⟨A2, c2, W8, hrun, HG2⟩ := GL.appG (k := 0) (cells := vecells) zce zd6 rfl (by decide) (by decide) HG.out rfl (⟨A9, c9, ts9⟩ : VeV) rfl (zdl _) HG.out.n.1 (by have := Hlr.out; omega)
     refine gC 8 rfl (by kernel_rfl) (by rfl) (fun K hK => ?_)
     clear hHeld
     simp only [q1, q2, q3]
     refine zeC (.tmp 75) (.tmp 81) 32 _ _ _ rfl rfl rfl hrun ?_
     clear hrun
     replace HG := zmZ HG2
     clear HG2
     refine hK.out _ _ (by with_reducible first | exact ⟨HG.out.cb (k := 2) rfl, HVC.out _ _ _ HG.out rfl⟩ | exact ⟨HG.out.drew.cb (k := 2) rfl, HVC.out _ _ _ HG.out.drew rfl⟩) (fun hHeld => ?_)
     clear hK K
     try simp only [p1, p2, p3, p4]
     refine gTa 9 83 hHeld ?_
     have cc := HG.out.cb (k := 2) rfl
     refine gL rfl (by kernel_rfl) (by kernel_rfl) (by rfl) (fun K hK => ?_)
     clear hHeld
     simp only [q1, q2, q3]
     go_simp
     (try (go_wp2_with fail))
     refine hK.out _ _ ?_
     clear hK K
     try simp only [p1, p2, p3, p4]
     refine NoPanic.normal ?_
     clear cc
     have HG3 := HG.out.putc (k := 2) (i := 1) rfl (by decide) (.slice A2 (List.length (os ++ [⟨A9, c9, ts9⟩])) c2)
     replace HG := zmZ (show GL w (⟨43, 1, .slice A2 (List.length (os ++ [⟨A9, c9, ts9⟩])) c2, List.map vecells (os ++ [⟨A9, c9, ts9⟩])⟩ :: ⟨41, 4, .slice Ab (List.length bs) cb, List.map rtcells bs⟩ :: bow g5 36 13 #[.int .u8 1, .slice A2 (List.length (os ++ [⟨A9, c9, ts9⟩])) c2, .slice Ab (List.length bs) cb, .int .i64 0, .int .i64 0, .int .i64 0, .int .i64 0, .int .i64 0, .int .i64 0, .int .i64 0, .int .i64 0, .slice none 0 0, .slice none 0 0] :: (⟨42, 1, .slice Ar M M, List.map vecells rs⟩ :: ([bow (w.heap.size + 1) 36 13 #[.int .u8 0, .slice none 0 0, .slice none 0 0, .int .i64 0, .int .i64 0, .int .i64 0, .int .i64 0, .int .i64 0, .int .i64 0, .int .i64 0, .int .i64 0, .slice none 0 0, .slice none 0 0]] ++ List.map znA rs))) (fun V => oD w l nr nb C H W O KH KW ST PD nk ng V ∧ LaD n l V) (fun V => (∀ zv ∈ (os ++ [⟨A9, c9, ts9⟩]), veF teN zv V) ∧ (∀ zp ∈ bs, roN zp V) ∧ (∀ zv ∈ rs, ∀ t ∈ zv.ts, teN t V) ∧ (El V 4 A0 (List.map rtcells zs) ∧ ∀ p ∈ zs, p ∈ l.bias ∨ RatN p.1 p.2 V)) _ from HG3.imp (fun _ h => h) (fun V h => ⟨fun v hv => (List.mem_append.1 hv).elim (fun hv => h.2.2.1 v hv) (fun hv => by rw [List.mem_singleton.1 hv]; exact h.2.1), h.2.2.2⟩))
     clear HG3
     have HS1 := zmZ (HS.out.row (v := ⟨A9, c9, ts9⟩) Hm9.out)
     clear HS Hm9
     obtain ⟨os1, hos1⟩ : ∃ x, x = (os ++ [⟨A9, c9, ts9⟩]) := ⟨_, rfl⟩
     have hlen1 : List.length os + 1 = List.length os1 := by rw [hos1]; simp
     rw [← hos1] at HG HS1
     rw [hlen1]
     have Hlr1 := zmZ HS1.out.lr
     clear hos1 hlen1
     go_upto_region 19 with fail
     refine wp_region_noPanic ?_
     refine zaX 10 (fun V => CB g5 #[.int .u8 1, .slice A2 (List.length os1) c2, .slice Ab (List.length bs) cb, .int .i64 0, .int .i64 0, .int .i64 0, .int .i64 0, .int .i64 0, .int .i64 0, .int .i64 0, .int .i64 0, .slice none 0 0, .slice none 0 0] V ∧ RC A0 i z V) (by kernel_rfl) (by with_reducible first | exact ⟨HG.out.cb (k := 2) rfl, HZC.out _ HG.out.n.2.2.2.1⟩ | exact ⟨HG.out.drew.cb (k := 2) rfl, HZC.out _ HG.out.drew.n.2.2.2.1⟩ | exact ⟨HG.out.cb (k := 2) rfl, HZC.out _ HG.out.n.2.2.2.2.1⟩ | exact ⟨HG.out.drew.cb (k := 2) rfl, HZC.out _ HG.out.drew.n.2.2.2.2.1⟩ | exact ⟨HG.out.cb (k := 2) rfl, HZC.out _ HG.out.n.2.2.2.2.2.1⟩ | exact ⟨HG.out.drew.cb (k := 2) rfl, HZC.out _ HG.out.drew.n.2.2.2.2.2.1⟩) (fun hHeld => ?_)
     replace HG := zmZ HG.out.drew
     refine gTa 0 84 hHeld ?_
     refine gTa 1 85 hHeld ?_
     refine gTa 2 86 hHeld ?_
     refine gTa 3 87 hHeld ?_
     refine gTa 4 88 hHeld ?_
     refine gTa 5 89 hHeld ?_
     refine gC 6 rfl (by kernel_rfl) (by rfl) (fun K hK => ?_)
     clear hHeld
     simp only [q1, q2, q3]
     go_simp
     refine (znC _ z.1 z.2 n (by omega) h1n (RatN.orD (HG.out.n.2.2.2.2 z Hmz.out) HG.out.o.2 (Nat.le_refl n) HZS.out)).mono ?_
     rintro e wq ⟨k9, rfl, hk9, hb9⟩
     replace HG := zmZ (HG.out.call hk9 hb9)
     clear hk9 hb9
     (try (go_wp2_with fail))
     refine hK.out _ _ (by with_reducible first | exact ⟨HG.out.cb (k := 2) rfl, HZC.out _ HG.out.n.2.2.2.1⟩ | exact ⟨HG.out.drew.cb (k := 2) rfl, HZC.out _ HG.out.drew.n.2.2.2.1⟩ | exact ⟨HG.out.cb (k := 2) rfl, HZC.out _ HG.out.n.2.2.2.2.1⟩ | exact ⟨HG.out.drew.cb (k := 2) rfl, HZC.out _ HG.out.drew.n.2.2.2.2.1⟩ | exact ⟨HG.out.cb (k := 2) rfl, HZC.out _ HG.out.n.2.2.2.2.2.1⟩ | exact ⟨HG.out.drew.cb (k := 2) rfl, HZC.out _ HG.out.drew.n.2.2.2.2.2.1⟩) (fun hHeld => ?_)
     clear hK K
     try simp only [p1, p2, p3, p4]
     refine gC 7 rfl (by kernel_rfl) (by rfl) (fun K hK => ?_)
     clear hHeld
     simp only [q1, q2, q3]
     go_simp
     (try (go_wp2_with fail))
     obtain ⟨W7, gb, hW7, hgb, HG⟩ := HG.out.al 41 #[.bool k9.num.neg, .slice k9.num.A k9.num.k k9.num.c, .bool k9.den.neg, .slice k9.den.A k9.den.k k9.den.c]
     rw [hW7, hgb]
     clear hW7 hgb
     (try (go_wp2_with fail))
     refine hK.out _ _ (by with_reducible first | exact ⟨HG.out.cb (k := 2) rfl, HZC.out _ HG.out.n.2.2.2.1⟩ | exact ⟨HG.out.drew.cb (k := 2) rfl, HZC.out _ HG.out.drew.n.2.2.2.1⟩ | exact ⟨HG.out.cb (k := 2) rfl, HZC.out _ HG.out.n.2.2.2.2.1⟩ | exact ⟨HG.out.drew.cb (k := 2) rfl, HZC.out _ HG.out.drew.n.2.2.2.2.1⟩ | exact ⟨HG.out.cb (k := 2) rfl, HZC.out _ HG.out.n.2.2.2.2.2.1⟩ | exact ⟨HG.out.drew.cb (k := 2) rfl, HZC.out _ HG.out.drew.n.2.2.2.2.2.1⟩) (fun hHeld => ?_)
     clear hK K
     try simp only [p1, p2, p3, p4]
     obtain ⟨A3, c3, W8, hrun, HG2⟩ := GL.appG (k := 1) (cells := rtcells) zb0 zbO rfl (by decide) (by decide) HG.out rfl ((k9, z.2) : RV × Rat) rfl (zbQ _) HG.out.n.1 (by have := Hlr1.out; omega)
     refine gC 8 rfl (by kernel_rfl) (by rfl) (fun K hK => ?_)
     clear hHeld
     simp only [q1, q2, q3]
     refine zeC (.tmp 85) (.tmp 91) 33 _ _ _ rfl rfl rfl hrun ?_
     clear hrun
     replace HG := zmZ HG2
     clear HG2
     refine hK.out _ _ (by with_reducible first | exact ⟨HG.out.cb (k := 2) rfl, HZC.out _ HG.out.n.2.2.2.1⟩ | exact ⟨HG.out.drew.cb (k := 2) rfl, HZC.out _ HG.out.drew.n.2.2.2.1⟩ | exact ⟨HG.out.cb (k := 2) rfl, HZC.out _ HG.out.n.2.2.2.2.1⟩ | exact ⟨HG.out.drew.cb (k := 2) rfl, HZC.out _ HG.out.drew.n.2.2.2.2.1⟩ | exact ⟨HG.out.cb (k := 2) rfl, HZC.out _ HG.out.n.2.2.2.2.2.1⟩ | exact ⟨HG.out.drew.cb (k := 2) rfl, HZC.out _ HG.out.drew.n.2.2.2.2.2.1⟩) (fun hHeld => ?_)
     clear hK K
     try simp only [p1, p2, p3, p4]
     refine gTa 9 93 hHeld ?_
     have cc := HG.out.cb (k := 2) rfl
     refine gL rfl (by kernel_rfl) (by kernel_rfl) (by rfl) (fun K hK => ?_)
     clear hHeld
     simp only [q1, q2, q3]
     go_simp
     (try (go_wp2_with fail))
     refine hK.out _ _ ?_
     clear hK K
     try simp only [p1, p2, p3, p4]
     refine NoPanic.normal ?_
     clear cc
     have HG3 := HG.out.putc (k := 2) (i := 2) rfl (by decide) (.slice A3 (List.length (bs ++ [(k9, z.2)])) c3)
     replace HG := zmZ (show GL w (⟨43, 1, .slice A2 (List.length os1) c2, List.map vecells os1⟩ :: ⟨41, 4, .slice A3 (List.length (bs ++ [(k9, z.2)])) c3, List.map rtcells (bs ++ [(k9, z.2)])⟩ :: bow g5 36 13 #[.int .u8 1, .slice A2 (List.length os1) c2, .slice A3 (List.length (bs ++ [(k9, z.2)])) c3, .int .i64 0, .int .i64 0, .int .i64 0, .int .i64 0, .int .i64 0, .int .i64 0, .int .i64 0, .int .i64 0, .slice none 0 0, .slice none 0 0] :: (⟨42, 1, .slice Ar M M, List.map vecells rs⟩ :: ([bow (w.heap.size + 1) 36 13 #[.int .u8 0, .slice none 0 0, .slice none 0 0, .int .i64 0, .int .i64 0, .int .i64 0, .int .i64 0, .int .i64 0, .int .i64 0, .int .i64 0, .int .i64 0, .slice none 0 0, .slice none 0 0]] ++ List.map znA rs))) (fun V => oD w l nr nb C H W O KH KW ST PD nk ng V ∧ LaD n l V) (fun V => (∀ zv ∈ os1, veF teN zv V) ∧ (∀ zp ∈ (bs ++ [(k9, z.2)]), roN zp V) ∧ (∀ zv ∈ rs, ∀ t ∈ zv.ts, teN t V) ∧ (El V 4 A0 (List.map rtcells zs) ∧ ∀ p ∈ zs, p ∈ l.bias ∨ RatN p.1 p.2 V)) _ from HG3.imp (fun _ h => h) (fun V h => ⟨h.2.2.1, fun v hv => (List.mem_append.1 hv).elim (fun hv => h.2.2.2.1 v hv) (fun hv => by rw [List.mem_singleton.1 hv]; exact h.2.1), h.2.2.2.2⟩))
     clear HG3
     have HS2 := zmZ (HS1.out.num (p := (k9, z.2)) HB1.out)
     obtain ⟨bs1, hbs1⟩ : ∃ x, x = (bs ++ [(k9, z.2)]) := ⟨_, rfl⟩
     have hlen2 : List.length bs + 1 = List.length bs1 := by rw [hbs1]; simp
     rw [← hbs1] at HG HS2
     rw [hlen2]
     clear hbs1 hlen2
     go_wp2_with fail
     go_roundw
     case rel => exact ⟨i + 1, A2, A3, c2, c3, os1, bs1, by go_num, by omega, HS2, HG⟩
     case measure => (simp [intOf] <;> omega)
    ·obtain rfl : i = M := by omega
     have c5 := HG.out.cb (k := 2) rfl
     have c2 := HG.out.cb (k := 4) rfl
     go_wp2_with fail
     have hG := HG.out.put13 (k := 4) rfl (.int .u8 1) (.slice Ao (List.length os) co) (.slice Ab (List.length bs) cb) (.int .i64 0) (.int .i64 0) (.int .i64 0) (.int .i64 0) (.int .i64 0) (.int .i64 0) (.int .i64 0) (.int .i64 0) (.slice none 0 0) (.slice none 0 0)
     replace c2 := hG.cb (k := 4) rfl
     exact bodyPost_ret (v := .agg #[.int .u8 1, .slice Ao (List.length os) co, .slice Ab (List.length bs) cb, .int .i64 0, .int .i64 0, .int .i64 0, .int .i64 0, .int .i64 0, .int .i64 0, .int .i64 0, .int .i64 0, .slice none 0 0, .slice none 0 0]) (by simp [results, Tryz.results38, go_sem, c2]) rfl ⟨⟨1, Ao, co, os, Ab, cb, bs, 0, 0, 0, 0, 0, 0, 0, 0, none, 0, [], none, 0, []⟩, rfl, by unfold LaG.q zjx; dsimp only; rw [HS.out.r, HS.out.b, HZL.out]; rfl, (((hG.els9 (k := 0) rfl).and (hG.els9 (k := 1) rfl)).and (hG.rsn.mono fun _ h => h.1)).imp fun V h => ⟨fun _ hg => (List.not_mem_nil hg).elim, ⟨h.1.1, h.2.1⟩, ⟨h.1.2, h.2.2.1⟩, LsR.nil_ _, LsR.nil_ _⟩, hG.bel⟩
end Go.Proofs.YtikmgoefjbhcjaaGreatDoor
