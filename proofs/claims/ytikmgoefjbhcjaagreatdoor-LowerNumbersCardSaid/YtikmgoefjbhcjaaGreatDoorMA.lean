/-
 tripwireref10: sameWords, Formed, side. tripwireref10.Pictures. tripwireref10.Behind. tripwireref10.Behind: Relu, Pool, the rest. tripwireref10.Behind: Pool; the whole. tripwireref10.Check.
-/
import Derived.Test.YtikmgoefjbhcjaaGreatDoorNH
import Derived.Test.YtikmgoefjbhcjaaGreatDoorKG
namespace Go.Proofs.YtikmgoefjbhcjaaGreatDoor
set_option maxHeartbeats 16000000
open Go.RowKit

set_option maxRecDepth 100000 in
theorem zrd (w : World) (A B : Option Addr) (c d : Nat) (l : List Nat) (hl : l.length ≤ 17592186044416) (ha : Rd w .u64 A l) (hb : Rd w .u64 B l) :
 Calls Tryz.prog 152 #[.slice A l.length c, .slice B l.length d] w fun e w' => e = .returned (.bool true) ∧ ∃ n, w' = w.drewN n := by
 have Ha := zmZ ha; have Hb := zmZ hb
 have hsa := ha.sl; have hsb := hb.sl
 have h1 := zao
 clear ha hb
 go_enter Tryz.func152, Tryz.ntmps152
 go_wp2_with fail
 go_loopw [5] (fun i wr => ∃ k : Nat, k ≤ l.length ∧ i = .int .i64 k ∧ ∃ q, wr = w.drewN q) (fun i _ => l.length - (intOf i).toNat)
 case atStart => exact ⟨0, Nat.zero_le _, rfl, 0, rfl⟩
 case round =>
  obtain ⟨k, hk, rfl, q, rfl⟩ := hrel
  by_cases hlt : k < l.length
  ·have hca := Ha.out.cell k hlt
   have hcb := Hb.out.cell k hlt
   generalize nth l k = x at *
   go_wp2_with fail
   go_quiet (fail)
   go_wp2_with fail
   go_roundw
   case rel => exact ⟨k + 1, by omega, by go_num, _, rfl⟩
   case measure => simp [intOf]; omega
  ·obtain rfl : k = l.length := by omega
   go_wp2_with fail
   go_ret
   exact ⟨rfl, _, rfl⟩

set_option maxRecDepth 100000 in
theorem zr7 (w : World) (A B : Option Addr) (c d : Nat) (l m : List Nat) (hl : l.length ≤ 17592186044416) (hlm : l.length = m.length) (ha : Rd w .u64 A l) (hb : Rd w .u64 B m) (hne : l ≠ m) :
 Calls Tryz.prog 152 #[.slice A l.length c, .slice B l.length d] w fun e w' => e = .returned (.bool false) ∧ ∃ n, w' = w.drewN n := by
 have Hne := zmZ hne
 have Hlm := zmZ hlm
 have Ha := zmZ ha; have Hb := zmZ hb
 have hsa := ha.sl
 have hsb := hb.sl
 rw [← hlm] at hsb
 have h1 := zao
 clear ha hb hne hlm
 go_enter Tryz.func152, Tryz.ntmps152
 go_wp2_with fail
 go_loopw [5] (fun i wr => ∃ k : Nat, k ≤ l.length ∧ Hid (∀ t < k, nth l t = nth m t) ∧ i = .int .i64 k ∧ ∃ q, wr = w.drewN q) (fun i _ => l.length - (intOf i).toNat)
 case atStart => exact ⟨0, Nat.zero_le _, zmZ (fun t ht => absurd ht (Nat.not_lt_zero t)), rfl, 0, rfl⟩
 case round =>
  obtain ⟨k, hk, Hall, rfl, q, rfl⟩ := hrel
  by_cases hlt : k < l.length
  ·have hca := Ha.out.cell k hlt
   have hcb := Hb.out.cell k (by rw [← Hlm.out]; exact hlt)
   by_cases he : nth l k = nth m k
   ·have Hal2 := zmZ (show ∀ t < k + 1, nth l t = nth m t from fun t ht => by
     rcases Nat.lt_or_eq_of_le (Nat.lt_succ_iff.1 ht) with h | h
     ·exact Hall.out t h
     ·rw [h]; exact he)
    rw [← he] at hcb
    clear he Hall
    generalize nth l k = x at hca hcb
    go_wp2_with fail
    go_quiet (fail)
    go_wp2_with fail
    go_roundw
    case rel => exact ⟨k + 1, by omega, Hal2, by go_num, _, rfl⟩
    case measure => simp [intOf]; omega
   ·have hx : ((nth l k : Nat) : Int) ≠ ((nth m k : Nat) : Int) := by omega
    generalize nth l k = x at *
    generalize nth m k = y at *
    go_wp2_with fail
    go_quiet (fail)
    go_wp2_with fail
    go_ret
    exact ⟨rfl, _, World.drewN_drewN _ _ _⟩
  ·exact absurd (zc5 l m Hlm.out (fun t ht => Hall.out t (by omega))) Hne.out

set_option maxRecDepth 100000 in
theorem zqc (w : World) (A B : Option Addr) (c d n m : Nat) (hne : n ≠ m) :
 Calls Tryz.prog 152 #[.slice A n c, .slice B m d] w fun e w' => e = .returned (.bool false) ∧ ∃ q, w' = w.drewN q := by
 go_enter Tryz.func152, Tryz.ntmps152
 go_wp2_with fail
 go_ret
 exact ⟨rfl, 0, rfl⟩

theorem zqz (w : World) (A B : Option Addr) (c d : Nat) (l m : List Nat) (hl : l.length ≤ 17592186044416) (ha : Rd w .u64 A l) (hb : Rd w .u64 B m) :
 Calls Tryz.prog 152 #[.slice A l.length c, .slice B m.length d] w fun e w' => e = .returned (.bool (decide (l = m))) ∧ ∃ n, w' = w.drewN n := by
 by_cases h : l = m
 ·subst h
  rw [decide_eq_true rfl]
  exact zrd w A B c d l hl ha hb
 ·rw [decide_eq_false h]
  by_cases hn : l.length = m.length
  ·rw [← hn]; exact zr7 w A B c d l m hl hn ha hb h
  ·exact zqc w A B c d _ _ hn

theorem zoi {W : World} {i j : IV} {l : List Nat} {z : Int} (B : Bool) (hk : i.k = l.length) (_hl : l.length ≤ 17592186044416) (ha : Rd W .u64 i.A l) (hz : IntN j z W) (hB : B = true ↔ l = digs B64 z.natAbs) (hd : (digs B64 z.natAbs).length ≤ 17592186044416) :
 Calls Tryz.prog 152 #[.slice j.A j.k j.c, .slice i.A i.k i.c] W fun e w' => e = .returned (.bool B) ∧ Below W.heap.size W w' := by
 rw [hk, hz.k]
 refine (zqz W j.A i.A j.c i.c (digs B64 z.natAbs) l hd hz.rd ha).mono ?_
 rintro e w' ⟨rfl, q, rfl⟩
 have : decide (digs B64 z.natAbs = l) = B := by rw [Bool.eq_iff_iff, decide_eq_true_iff, hB]; exact ⟨fun h => h.symm, fun h => h.symm⟩
 rw [this]
 exact ⟨rfl, Below.drewN (Below.refl _ _) q⟩
set_option maxRecDepth 100000 in
theorem zna (w : World) (n : Nat) (hn : n ≤ 10000) (h1n : 1 ≤ n) (A : Option Addr) (c : Nat) (l : List (RV × Rat)) (h : LsR 4 rtcells (roD n) A l w) (hl : l.length ≤ 1000000) (nl : Nat) (hnl : nl = l.length) :
 Calls Tryz.prog 103 #[.slice A nl c] w fun e w' => zaJ (∀ p ∈ l, exP w p) e ∧ Below w.heap.size w w' := by
 have sl1 := h.sl
 rw [← hnl] at sl1
 have hsz2 := zak
 have hadd := za3
 have hnb : nl ≤ 1000000 := by omega
 have Hn := zmZ hnl
 have HD := zmZ (show ∀ p ∈ l, RatD p.1 p.2 n w from h.ok)
 have HE := zmZ (Env.start (h.old zaq))
 clear h hnl hl
 go_enter Tryz.func103, Tryz.ntmps103
 go_wp2_with fail
 go_loopw [3] (fun iv wr => ∃ i : Nat, iv = .int .i64 (i : Int) ∧ i ≤ nl ∧ Hid (∀ p ∈ l.take i, exP w p) ∧ Hid (Env w [] (fun V => LsR 4 rtcells (roD n) A l V) (fun _ => True) wr)) (fun iv _ => nl - (intOf iv).toNat)
 case atStart => exact ⟨0, rfl, Nat.zero_le _, zmZ (by simp), HE⟩
 case round =>
  clear HE
  obtain ⟨i, rfl, hi, HP, HE⟩ := hrel
  by_cases hlt : i < nl
  ·have hlt2 : i < l.length := by rw [← Hn.out]; exact hlt
   have HX := zmZ (fun (V : World) (h : LsR 4 rtcells (roD n) A l V) => h.rc i hlt2)
   have c0 := HX.out _ HE.out.o
   obtain ⟨p, hp⟩ : ∃ p, p = l[i] := ⟨_, rfl⟩
   rw [← hp] at c0 HX
   have HPeq := zmZ hp
   have Hm := zmZ (show p ∈ l by rw [hp]; exact List.getElem_mem hlt2)
   clear hp
   have hpd := HD.out p Hm.out
   have hsz := RatD.sz hpd h1n
   have Hdl := zmZ (show (digs B64 p.2.num.natAbs).length ≤ 17592186044416 ∧ (digs B64 (dn p.2).natAbs).length ≤ 17592186044416 from ⟨Nat.le_trans (zbj hsz.1) (by omega), Nat.le_trans (zbj (Nat.lt_of_le_of_lt (show (dn p.2).natAbs ≤ p.2.den from by unfold dn; split <;> simp) hsz.2)) (by omega)⟩)
   obtain ⟨x, d, hx, hd, -⟩ := hpd.ex
   obtain ⟨l1, hk1, hr1, -, -⟩ := hx.ex
   obtain ⟨l2, hk2, hr2, -, -⟩ := hd.ex
   have HRd1 := zmZ (show p.1.num.k = l1.length ∧ l1.length ≤ 17592186044416 from ⟨hk1, by have := hx.le; omega⟩)
   have HRd2 := zmZ (show p.1.den.k = l2.length ∧ l2.length ≤ 17592186044416 from ⟨hk2, by have := hd.le; omega⟩)
   have HRd1V := zmZ (fun (V : World) (hb : Below w.heap.size w V) => hr1.below hb (Nat.le_refl _))
   have HRd2V := zmZ (fun (V : World) (hb : Below w.heap.size w V) => hr2.below hb (Nat.le_refl _))
   have HOneK := zmZ (fun (k : RV) (V : World) (hu : RatN k p.2 V) => show exP w p ↔ ((p.1.num.neg = k.num.neg ∧ l1 = digs B64 p.2.num.natAbs) ∧ (p.1.den.neg = k.den.neg ∧ l2 = digs B64 (dn p.2).natAbs)) from by
    rw [hu.num.neg, hu.den.neg, ← zda hk1 hr1 hx.cap, ← zda hk2 hr2 hd.cap]
    exact ⟨fun h => ⟨h.num, h.den⟩, fun h => ⟨h.1, h.2⟩⟩)
   have HBad := zmZ (show (∀ p ∈ l, exP w p) → exP w p from fun h => h p Hm.out)
   clear hx hd hk1 hk2 hr1 hr2 hpd hsz
   go_wp2_with fail
   refine (znC _ p.1 p.2 n hn h1n (HE.out.o.ok p Hm.out)).mono ?_
   rintro e w1 ⟨k, rfl, hk, hb⟩
   replace HE := zmZ ((Env.ret HE.out hk hb).imp (fun _ h => h) (fun _ h => h.1))
   have HOne := zmZ (HOneK.out k _ HE.out.n)
   clear hk hb c0 HOneK
   go_upto_region 5 with fail
   obtain ⟨W2, g4, hW2, hg4, HE⟩ := Env.al HE.out 41 #[.bool k.num.neg, .slice k.num.A k.num.k k.num.c, .bool k.den.neg, .slice k.den.A k.den.k k.den.c]
   rw [hW2, hg4]
   clear hW2 hg4
   have HC := zmZ (fun (V : World) (h : Env w [⟨g4, 41, #[.bool k.num.neg, .slice k.num.A k.num.k k.num.c, .bool k.den.neg, .slice k.den.A k.den.k k.den.c]⟩] (fun V => LsR 4 rtcells (roD n) A l V) (fun V => RatN k p.2 V) V) => And.intro (Env.c1 h) (HX.out _ h.o))
   refine wp_region_noPanic ?_
   refine wp_region_held_drew (S := (fun V => CB g4 #[.bool k.num.neg, .slice k.num.A k.num.k k.num.c, .bool k.den.neg, .slice k.den.A k.den.k k.den.c] V ∧ RC A i p V)) (by kernel_rfl) (by with_reducible first | exact HC.out _ HE.out | exact HC.out _ HE.out.drew) (fun hHeld => ?_)
   replace HE := zmZ HE.out.drew
   refine hT 0 16 hHeld ?_
   refine hT 1 17 hHeld ?_
   refine hT 2 18 hHeld ?_
   refine hT 3 19 hHeld ?_
   refine hT 4 20 hHeld ?_
   refine hT 5 21 hHeld ?_
   refine hT 6 22 hHeld ?_
   refine hT 7 23 hHeld ?_
   refine hT 8 24 hHeld ?_
   by_cases ee : k.num.neg ≠ p.1.num.neg
   ·have HNo := zmZ (show ¬ exP w p from fun h => absurd (HOne.out.1 h).1.1.symm ee)
    have bb := zqk ee
    refine hT 9 25 hHeld ?_
    refine hT 10 26 hHeld ?_
    refine znp [11, 12, 13, 14, 15, 16, 17, 18, 19, 20, 21, 22, 23, 24, 25, 26, 27, 28, 29, 30, 31, 32, 33, 34, 35, 36, 37, 38, 39, 40, 41, 42, 43, 44, 45, 46, 47] 0 #[true, true, true, true, true, true, true, true, true, true, true, true, true, true, true, true, true, true, true, true, true, true, true, true, true, true, true, true, true, true, true, true, true, true, true, true, true, true, true, true, true, true, true, true, true, true, true, true] (fun a0 => (((((((((((((((((((((((((((((((((((((a0.put (some 27) undef).put (some 28) undef).put (some 29) undef).put (some 30) undef).put (some 31) undef).put (some 32) undef).put (some 33) undef).put (some 34) undef).put (some 35) undef).put (some 36) undef).put (some 37) (.bool true)).put (some 38) (.bool true)).put (some 39) undef).put (some 40) undef).put (some 41) undef).put (some 42) undef).put (some 43) undef).put (some 44) undef).put (some 45) undef).put (some 46) undef).put (some 47) undef).put (some 48) undef).put (some 49) undef).put (some 50) (.bool true)).put (some 51) (.bool true)).put (some 52) undef).put (some 53) undef).put (some 54) undef).put (some 55) undef).put (some 56) undef).put (some 57) undef).put (some 58) undef).put (some 59) undef).put (some 60) undef).put (some 61) undef).put (some 62) undef).put (some 63) (.bool true))) rfl (by kernel_rfl) (by kernel_rfl) (fun _ _ _ _ _ h => h) hHeld ?_
    try simp only [p1, p2, p3, p4]
    refine wpAnyH_done (by kernel_rfl) ?_ _
    refine NoPanic.normal ?_
    go_wp2_with fail
    go_ret
    exact ⟨za8 false ⟨fun h0 => absurd h0 (by decide), fun hr => absurd (HBad.out hr) HNo.out⟩, HE.out.bel⟩
   ·have hsk := trivial
    clear hsk
    have bb := zq9 ee
    have E4 := zmZ (show p.1.num.neg = k.num.neg by have := ee; simp at this; exact this.symm)
    clear ee
    refine hT 9 25 hHeld ?_
    refine hT 10 26 hHeld ?_
    refine hT 11 27 hHeld ?_
    refine hT 12 28 hHeld ?_
    refine hT 13 29 hHeld ?_
    refine hT 14 30 hHeld ?_
    refine hT 15 31 hHeld ?_
    refine hT 16 32 hHeld ?_
    refine hT 17 33 hHeld ?_
    refine hT 18 34 hHeld ?_
    refine hT 19 35 hHeld ?_
    by_cases ee : k.den.neg ≠ p.1.den.neg
    ·have HNo := zmZ (show ¬ exP w p from fun h => absurd (HOne.out.1 h).2.1.symm ee)
     have bb := zqk ee
     refine hT 20 36 hHeld ?_
     refine znp [21, 22, 23, 24, 25, 26, 27, 28, 29, 30, 31, 32, 33, 34, 35, 36, 37, 38, 39, 40, 41, 42, 43, 44, 45, 46, 47] 0 #[true, true, true, true, true, true, true, true, true, true, true, true, true, true, true, true, true, true, true, true, true, true, true, true, true, true, true, true, true, true, true, true, true, true, true, true, true, true, true, true, true, true, true, true, true, true, true, true] (fun a0 => (((((((((((((((((((((((((((a0.put (some 37) (.bool true)).put (some 38) (.bool true)).put (some 39) undef).put (some 40) undef).put (some 41) undef).put (some 42) undef).put (some 43) undef).put (some 44) undef).put (some 45) undef).put (some 46) undef).put (some 47) undef).put (some 48) undef).put (some 49) undef).put (some 50) (.bool true)).put (some 51) (.bool true)).put (some 52) undef).put (some 53) undef).put (some 54) undef).put (some 55) undef).put (some 56) undef).put (some 57) undef).put (some 58) undef).put (some 59) undef).put (some 60) undef).put (some 61) undef).put (some 62) undef).put (some 63) (.bool true))) rfl (by kernel_rfl) (by kernel_rfl) (fun _ _ _ _ _ h => h) hHeld ?_
     try simp only [p1, p2, p3, p4]
     refine wpAnyH_done (by kernel_rfl) ?_ _
     refine NoPanic.normal ?_
     go_wp2_with fail
     go_ret
     exact ⟨za8 false ⟨fun h0 => absurd h0 (by decide), fun hr => absurd (HBad.out hr) HNo.out⟩, HE.out.bel⟩
    ·have hsk := trivial
     clear hsk
     have bb := zq9 ee
     have E5 := zmZ (show p.1.den.neg = k.den.neg by have := ee; simp at this; exact this.symm)
     clear ee
     refine hT 20 36 hHeld ?_
     refine hT 21 37 hHeld ?_
     refine hT 22 38 hHeld ?_
     refine hT 23 39 hHeld ?_
     refine hT 24 40 hHeld ?_
     refine hT 25 41 hHeld ?_
     refine hT 26 42 hHeld ?_
     refine hT 27 43 hHeld ?_
     refine hT 28 44 hHeld ?_
     refine hT 29 45 hHeld ?_
     refine hT 30 46 hHeld ?_
     refine hT 31 47 hHeld ?_
     by_cases ee : l1 ≠ digs B64 p.2.num.natAbs
     ·have HNo := zmZ (show ¬ exP w p from fun h => absurd (HOne.out.1 h).1.2 ee)
      have HBnum := zmZ (show false = true ↔ l1 = digs B64 p.2.num.natAbs from ⟨fun h => absurd h (by decide), fun h => absurd h ee⟩)
      clear ee
      refine zcD (i := 32) rfl (by kernel_rfl) (by rfl) (fun K hK => ?_)
      clear hHeld
      simp only [q1, q2, q3]
      go_simp
      refine (zoi false HRd1.out.1 HRd1.out.2 (HRd1V.out _ HE.out.bel) (HE.out.n).num (HBnum.out) (Hdl.out.1)).mono ?_
      rintro e w2 ⟨rfl, hb⟩
      replace HE := zmZ (Env.call HE.out hb)
      clear hb
      (try (go_wp2_with fail))
      refine hK.out _ _ (by with_reducible first | exact HC.out _ HE.out | exact HC.out _ HE.out.drew) (fun hHeld => ?_)
      clear hK K
      try simp only [p1, p2, p3, p4]
      refine hT 33 49 hHeld ?_
      refine znp [34, 35, 36, 37, 38, 39, 40, 41, 42, 43, 44, 45, 46, 47] 0 #[true, true, true, true, true, true, true, true, true, true, true, true, true, true, true, true, true, true, true, true, true, true, true, true, true, true, true, true, true, true, true, true, true, true, true, true, true, true, true, true, true, true, true, true, true, true, true, true] (fun a0 => ((((((((((((((a0.put (some 50) (.bool true)).put (some 51) (.bool true)).put (some 52) undef).put (some 53) undef).put (some 54) undef).put (some 55) undef).put (some 56) undef).put (some 57) undef).put (some 58) undef).put (some 59) undef).put (some 60) undef).put (some 61) undef).put (some 62) undef).put (some 63) (.bool true))) rfl (by kernel_rfl) (by kernel_rfl) (fun _ _ _ _ _ h => h) hHeld ?_
      try simp only [p1, p2, p3, p4]
      refine wpAnyH_done (by kernel_rfl) ?_ _
      refine NoPanic.normal ?_
      go_wp2_with fail
      go_ret
      exact ⟨za8 false ⟨fun h0 => absurd h0 (by decide), fun hr => absurd (HBad.out hr) HNo.out⟩, HE.out.bel⟩
     ·have hsk := trivial
      clear hsk
      have HBnum := zmZ (show true = true ↔ l1 = digs B64 p.2.num.natAbs from ⟨fun _ => by simpa using ee, fun _ => rfl⟩)
      have E6 := zmZ (show l1 = digs B64 p.2.num.natAbs by simpa using ee)
      clear ee
      refine zcD (i := 32) rfl (by kernel_rfl) (by rfl) (fun K hK => ?_)
      clear hHeld
      simp only [q1, q2, q3]
      go_simp
      refine (zoi true HRd1.out.1 HRd1.out.2 (HRd1V.out _ HE.out.bel) (HE.out.n).num (HBnum.out) (Hdl.out.1)).mono ?_
      rintro e w2 ⟨rfl, hb⟩
      replace HE := zmZ (Env.call HE.out hb)
      clear hb
      (try (go_wp2_with fail))
      refine hK.out _ _ (by with_reducible first | exact HC.out _ HE.out | exact HC.out _ HE.out.drew) (fun hHeld => ?_)
      clear hK K
      try simp only [p1, p2, p3, p4]
      refine hT 33 49 hHeld ?_
      refine hT 34 50 hHeld ?_
      refine hT 35 51 hHeld ?_
      refine hT 36 52 hHeld ?_
      refine hT 37 53 hHeld ?_
      refine hT 38 54 hHeld ?_
      refine hT 39 55 hHeld ?_
      refine hT 40 56 hHeld ?_
      refine hT 41 57 hHeld ?_
      refine hT 42 58 hHeld ?_
      refine hT 43 59 hHeld ?_
      refine hT 44 60 hHeld ?_
      by_cases ee : l2 ≠ digs B64 (dn p.2).natAbs
      ·have HNo := zmZ (show ¬ exP w p from fun h => absurd (HOne.out.1 h).2.2 ee)
       have HBden := zmZ (show false = true ↔ l2 = digs B64 (dn p.2).natAbs from ⟨fun h => absurd h (by decide), fun h => absurd h ee⟩)
       clear ee
       refine zcD (i := 45) rfl (by kernel_rfl) (by rfl) (fun K hK => ?_)
       clear hHeld
       simp only [q1, q2, q3]
       go_simp
       refine (zoi false HRd2.out.1 HRd2.out.2 (HRd2V.out _ HE.out.bel) (HE.out.n).den (HBden.out) (Hdl.out.2)).mono ?_
       rintro e w2 ⟨rfl, hb⟩
       replace HE := zmZ (Env.call HE.out hb)
       clear hb
       (try (go_wp2_with fail))
       refine hK.out _ _ (by with_reducible first | exact HC.out _ HE.out | exact HC.out _ HE.out.drew) (fun hHeld => ?_)
       clear hK K
       try simp only [p1, p2, p3, p4]
       refine hT 46 62 hHeld ?_
       refine znp [47] 0 #[true, true, true, true, true, true, true, true, true, true, true, true, true, true, true, true, true, true, true, true, true, true, true, true, true, true, true, true, true, true, true, true, true, true, true, true, true, true, true, true, true, true, true, true, true, true, true, true] (fun a0 => (a0.put (some 63) (.bool true))) rfl (by kernel_rfl) (by kernel_rfl) (fun _ _ _ _ _ h => h) hHeld ?_
       try simp only [p1, p2, p3, p4]
       refine wpAnyH_done (by kernel_rfl) ?_ _
       refine NoPanic.normal ?_
       go_wp2_with fail
       go_ret
       exact ⟨za8 false ⟨fun h0 => absurd h0 (by decide), fun hr => absurd (HBad.out hr) HNo.out⟩, HE.out.bel⟩
      ·have hsk := trivial
       clear hsk
       have HBden := zmZ (show true = true ↔ l2 = digs B64 (dn p.2).natAbs from ⟨fun _ => by simpa using ee, fun _ => rfl⟩)
       have E7 := zmZ (show l2 = digs B64 (dn p.2).natAbs by simpa using ee)
       clear ee
       refine zcD (i := 45) rfl (by kernel_rfl) (by rfl) (fun K hK => ?_)
       clear hHeld
       simp only [q1, q2, q3]
       go_simp
       refine (zoi true HRd2.out.1 HRd2.out.2 (HRd2V.out _ HE.out.bel) (HE.out.n).den (HBden.out) (Hdl.out.2)).mono ?_
       rintro e w2 ⟨rfl, hb⟩
       replace HE := zmZ (Env.call HE.out hb)
       clear hb
       (try (go_wp2_with fail))
       refine hK.out _ _ (by with_reducible first | exact HC.out _ HE.out | exact HC.out _ HE.out.drew) (fun hHeld => ?_)
       clear hK K
       try simp only [p1, p2, p3, p4]
       refine hT 46 62 hHeld ?_
       refine hT 47 63 hHeld ?_
       refine wpAnyH_done (by kernel_rfl) ?_ _
       refine NoPanic.normal ?_
       have HNx := zmZ (zaB HP.out hlt2 (HPeq.out ▸ HOne.out.2 ⟨⟨E4.out, E6.out⟩, E5.out, E7.out⟩))
       go_wp2_with fail
       go_roundw
       case rel => exact ⟨i + 1, by go_num, by omega, HNx, zmZ (HE.out.drop.imp (fun _ h => h) (fun _ _ => trivial))⟩
       case measure => (simp [intOf] <;> omega)
  ·obtain rfl : i = nl := by omega
   have HP2 := zmZ (show ∀ p ∈ l, exP w p by have := HP.out; rw [Hn.out, List.take_length] at this; exact this)
   go_wp2_with fail
   go_ret
   exact ⟨za8 true ⟨fun _ => HP2.out, fun _ => rfl⟩, HE.out.bel⟩
set_option maxRecDepth 100000 in
theorem zpM (w : World) (z : Int) (hz : ¬ 1 ≤ z) : Calls Tryz.prog 154 #[.int .i64 z] w fun e w' => zaJ (side z) e ∧ w' = w := by
 have Hz := zmZ hz
 go_enter Tryz.func154, Tryz.ntmps154
 have hz' : ¬ z ≥ 1 := Hz.out
 go_wp2_with fail
 go_ret
 exact ⟨za8 false ⟨fun h => absurd h (by decide), fun h => by have h1 := h.1; have h2 := Hz.out; omega⟩, rfl⟩
set_option maxRecDepth 100000 in
theorem zpZ (w : World) (z : Int) (hz : 1 ≤ z) : Calls Tryz.prog 154 #[.int .i64 z] w fun e w' => zaJ (side z) e ∧ w' = w := by
 have hz' : z ≥ 1 := hz
 go_enter Tryz.func154, Tryz.ntmps154
 go_wp2_with fail
 go_ret
 exact ⟨za8 _ (by unfold side; simp only [decide_eq_true_iff]; omega), rfl⟩
theorem zni (w : World) (z : Int) : Calls Tryz.prog 154 #[.int .i64 z] w fun e w' => zaJ (side z) e ∧ w' = w := by
 by_cases hz : 1 ≤ z
 ·exact zpZ w z hz
 ·exact zpM w z hz

theorem zpa {D s : Int} {i : Nat} (hs : 1 ≤ s) (h1 : D < (i : Int) * s) (h2 : i = 0 ∨ ((i : Int) - 1) * s ≤ D) : (0 ≤ D → D / s + 1 = (i : Int)) ∧ (D < 0 → i = 0) := by
 constructor
 ·intro hD
  rcases h2 with h2 | h2
  ·subst h2; simp at h1; omega
  ·have a1 : (i : Int) - 1 ≤ D / s := (Int.le_ediv_iff_mul_le (by omega)).2 h2
   have a2 : D / s < (i : Int) := (Int.ediv_lt_iff_lt_mul (by omega)).2 h1
   omega
 ·intro hD
  rcases h2 with h2 | h2
  ·exact h2
  ·rcases Nat.eq_zero_or_pos i with h | h
   ·exact h
   ·have a3 : 0 ≤ ((i : Int) - 1) * s := Int.mul_nonneg (by omega) (by omega)
    omega
structure PicOk (l : LaV) : Prop where
 s : sidesP l
 pad : 0 ≤ l.pad ∧ l.pad < l.kh ∧ l.pad < l.kw
 h : 0 ≤ l.high + 2 * l.pad - l.kh ∧ 0 ≤ l.wide + 2 * l.pad - l.kw
def PicRes (l : LaV) (e : Ending) : Prop := (PicOk l ∧ e = .returned (.tuple #[.int .i64 (zbA l), .int .i64 (zbx l), .bool true])) ∨ (¬ PicOk l ∧ ∃ a b, e = .returned (.tuple #[.int .i64 a, .int .i64 b, .bool false]))
theorem PicRes.no {l : LaV} {w w' : World} {a b : Int} (h : ¬ PicOk l) (hb : Below w.heap.size w w') : PicRes l (.returned (.tuple #[.int .i64 a, .int .i64 b, .bool false])) ∧ Below w.heap.size w w' := ⟨.inr ⟨h, a, b, rfl⟩, hb⟩
set_option maxRecDepth 100000 in
theorem znT (w : World) (l : LaV) (nr nb nk ng : Nat) : Calls Tryz.prog 105 #[lA l nr nb nk ng] w fun e w' => PicRes l e ∧ Below w.heap.size w w' := by
 have HE := zmZ (layL l nr nb nk ng (Rests.pure trivial w _))
 have c := Env.c1 HE.out
 unfold lA
 go_enter Tryz.func105, Tryz.ntmps105
 go_wp2_with fail
 refine (zni _ l.ch).mono ?_
 rintro e w1 ⟨⟨B, rfl, hB⟩, rfl⟩
 have HSch := zmZ hB
 clear hB
 cases B
 ·go_wp2_with fail
  go_ret3
  exact PicRes.no (fun h9 => absurd (HSch.out.2 h9.s.1) (by decide)) HE.out.bel
 ·have hsk := trivial
  clear hsk
  go_wp2_with fail
  refine (zni _ l.high).mono ?_
  rintro e w2 ⟨⟨B, rfl, hB⟩, rfl⟩
  have HShigh := zmZ hB
  clear hB
  cases B
  ·go_wp2_with fail
   go_ret3
   exact PicRes.no (fun h9 => absurd (HShigh.out.2 h9.s.2.1) (by decide)) HE.out.bel
  ·have hsk := trivial
   clear hsk
   go_wp2_with fail
   refine (zni _ l.wide).mono ?_
   rintro e w3 ⟨⟨B, rfl, hB⟩, rfl⟩
   have HSwide := zmZ hB
   clear hB
   cases B
   ·go_wp2_with fail
    go_ret3
    exact PicRes.no (fun h9 => absurd (HSwide.out.2 h9.s.2.2.1) (by decide)) HE.out.bel
   ·have hsk := trivial
    clear hsk
    go_wp2_with fail
    refine (zni _ l.out).mono ?_
    rintro e w4 ⟨⟨B, rfl, hB⟩, rfl⟩
    have HSout := zmZ hB
    clear hB
    cases B
    ·go_wp2_with fail
     go_ret3
     exact PicRes.no (fun h9 => absurd (HSout.out.2 h9.s.2.2.2.1) (by decide)) HE.out.bel
    ·have hsk := trivial
     clear hsk
     go_wp2_with fail
     refine (zni _ l.kh).mono ?_
     rintro e w5 ⟨⟨B, rfl, hB⟩, rfl⟩
     have HSkh := zmZ hB
     clear hB
     cases B
     ·go_wp2_with fail
      go_ret3
      exact PicRes.no (fun h9 => absurd (HSkh.out.2 h9.s.2.2.2.2.1) (by decide)) HE.out.bel
     ·have hsk := trivial
      clear hsk
      go_wp2_with fail
      refine (zni _ l.kw).mono ?_
      rintro e w6 ⟨⟨B, rfl, hB⟩, rfl⟩
      have HSkw := zmZ hB
      clear hB
      cases B
      ·go_wp2_with fail
       go_ret3
       exact PicRes.no (fun h9 => absurd (HSkw.out.2 h9.s.2.2.2.2.2.1) (by decide)) HE.out.bel
      ·have hsk := trivial
       clear hsk
       go_wp2_with fail
       refine (zni _ l.st).mono ?_
       rintro e w7 ⟨⟨B, rfl, hB⟩, rfl⟩
       have HSst := zmZ hB
       clear hB
       cases B
       ·go_wp2_with fail
        go_ret3
        exact PicRes.no (fun h9 => absurd (HSst.out.2 h9.s.2.2.2.2.2.2) (by decide)) HE.out.bel
       ·have hsk := trivial
        clear hsk
        have HSD := zmZ (show sidesP l from ⟨HSch.out.1 (by first | rfl | trivial), HShigh.out.1 (by first | rfl | trivial), HSwide.out.1 (by first | rfl | trivial), HSout.out.1 (by first | rfl | trivial), HSkh.out.1 (by first | rfl | trivial), HSkw.out.1 (by first | rfl | trivial), HSst.out.1 (by first | rfl | trivial)⟩)
        clear HSch HShigh HSwide HSout HSkh HSkw HSst
        by_cases q0 : l.pad < 0
        ·have H9 := zmZ q0
         go_wp2_with fail
         go_ret3
         exact PicRes.no (fun h9 => by have := h9.pad; have := H9.out; omega) HE.out.bel
        ·have Hq0 := zmZ q0
         by_cases q1 : l.pad ≥ l.kh
         ·have H9 := zmZ q1
          go_wp2_with fail
          go_ret3
          exact PicRes.no (fun h9 => by have := h9.pad; have := H9.out; omega) HE.out.bel
         ·have Hq1 := zmZ q1
          by_cases q2 : l.pad ≥ l.kw
          ·have H9 := zmZ q2
           go_wp2_with fail
           go_ret3
           exact PicRes.no (fun h9 => by have := h9.pad; have := H9.out; omega) HE.out.bel
          ·have Hq2 := zmZ q2
           have hn := HSD.out.nn
           have v1 := zad (z := 2 * l.pad) (by omega)
           have v2 := zaH (z := l.high + 2 * l.pad) (by omega)
           have v3 := zaH (z := l.wide + 2 * l.pad) (by omega)
           obtain ⟨HH, hHH⟩ : ∃ z, z = l.high + 2 * l.pad := ⟨_, rfl⟩
           obtain ⟨WW, hWW⟩ : ∃ z, z = l.wide + 2 * l.pad := ⟨_, rfl⟩
           rw [← hHH] at v2
           rw [← hWW] at v3
           have hHb : 0 ≤ HH ∧ HH ≤ 1000 := by omega
           have hWb : 0 ≤ WW ∧ WW ≤ 1000 := by omega
           have hkb : 1 ≤ l.kh ∧ l.kh ≤ 256 ∧ 1 ≤ l.kw ∧ l.kw ≤ 256 ∧ 1 ≤ l.st ∧ l.st ≤ 256 := by have h9 := HSD.out; unfold sidesP side at h9; omega
           have v2' : l.high + 2 * l.pad = HH := hHH.symm
           have v3' : l.wide + 2 * l.pad = WW := hWW.symm
           have HHH := zmZ hHH
           have HWW := zmZ hWW
           clear hHH hWW hn
           replace HE := zmZ (HE.out.imp (φ := fun _ => True) (ψ := fun _ => True) (fun _ _ => trivial) (fun _ _ => trivial))
           go_wp2_with fail
           clear q0 q1 q2 c
           go_loopw [5, 6] (fun rv av wr => ∃ (i : Nat) (a : Int), rv = .int .i64 (i : Int) ∧ av = .int .i64 a ∧ 0 ≤ a ∧ a ≤ 2000 ∧ (i : Int) ≤ a ∧ Hid (a = (i : Int) * l.st) ∧ Hid (i = 0 ∨ a - l.st ≤ HH - l.kh) ∧ Hid (Env w [⟨w.heap.size, 36, #[.int .u8 l.kind, .slice l.Ar nr l.cr, .slice l.Ab nb l.cb, .int .i64 l.ch, .int .i64 l.high, .int .i64 l.wide, .int .i64 l.out, .int .i64 l.kh, .int .i64 l.kw, .int .i64 l.st, .int .i64 l.pad, .slice l.Ak nk l.ck, .slice l.Ag ng l.cg]⟩] (fun _ => True) (fun _ => True) wr)) (fun _ av _ => 5000 - (intOf av).toNat)
           case atStart => exact ⟨0, 0, rfl, rfl, by omega, by omega, by omega, zmZ (by simp), zmZ (.inl rfl), HE⟩
           case round =>
            clear HE
            obtain ⟨i, a, rfl, rfl, ha0, ha1, hia, HA, HB, HE⟩ := hrel
            have c := Env.c1 HE.out
            have u1 := zad (z := a + l.kh) (by omega)
            by_cases hlt : a + l.kh ≤ HH
            ·have u2 := zad (z := a + l.st) (by omega)
             have u3 := zad (z := (i : Int) + 1) (by omega)
             go_wp2_with fail
             go_roundw
             case rel => exact ⟨i + 1, a + l.st, by go_num, rfl, by omega, by omega, by omega, zmZ (by rw [HA.out, Int.natCast_add, Int.add_mul]; simp), zmZ (.inr (by omega)), HE⟩
             case measure => (simp [intOf] <;> omega)
            ·have HR := zmZ (zpa (D := HH - l.kh) (s := l.st) (i := i) (by omega) (by rw [← HA.out]; omega) (by rcases HB.out with h | h; exact .inl h; right; rw [Int.sub_mul, ← HA.out]; omega))
             have HiR := zmZ (show (i : Int) ≤ 2000 by omega)
             clear HA HB ha0 ha1 hia
             obtain ⟨j0, hj0⟩ : ∃ j : Nat, j = i := ⟨_, rfl⟩
             rw [← hj0] at HR HiR ⊢
             clear hj0
             go_wp2_with fail
             clear c hlt u1
             go_loopw [7, 8] (fun rv av wr => ∃ (i : Nat) (a : Int), rv = .int .i64 (i : Int) ∧ av = .int .i64 a ∧ 0 ≤ a ∧ a ≤ 2000 ∧ (i : Int) ≤ a ∧ Hid (a = (i : Int) * l.st) ∧ Hid (i = 0 ∨ a - l.st ≤ WW - l.kw) ∧ Hid (Env w [⟨w.heap.size, 36, #[.int .u8 l.kind, .slice l.Ar nr l.cr, .slice l.Ab nb l.cb, .int .i64 l.ch, .int .i64 l.high, .int .i64 l.wide, .int .i64 l.out, .int .i64 l.kh, .int .i64 l.kw, .int .i64 l.st, .int .i64 l.pad, .slice l.Ak nk l.ck, .slice l.Ag ng l.cg]⟩] (fun _ => True) (fun _ => True) wr)) (fun _ av _ => 5000 - (intOf av).toNat)
             case atStart => exact ⟨0, 0, rfl, rfl, by omega, by omega, by omega, zmZ (by simp), zmZ (.inl rfl), HE⟩
             case round =>
              clear HE
              obtain ⟨i, a, rfl, rfl, ha0, ha1, hia, HA, HB, HE⟩ := hrel
              have c := Env.c1 HE.out
              have u1 := zad (z := a + l.kw) (by omega)
              by_cases hlt : a + l.kw ≤ WW
              ·have u2 := zad (z := a + l.st) (by omega)
               have u3 := zad (z := (i : Int) + 1) (by omega)
               go_wp2_with fail
               go_roundw
               case rel => exact ⟨i + 1, a + l.st, by go_num, rfl, by omega, by omega, by omega, zmZ (by rw [HA.out, Int.natCast_add, Int.add_mul]; simp), zmZ (.inr (by omega)), HE⟩
               case measure => (simp [intOf] <;> omega)
              ·have HQ := zmZ (zpa (D := WW - l.kw) (s := l.st) (i := i) (by omega) (by rw [← HA.out]; omega) (by rcases HB.out with h | h; exact .inl h; right; rw [Int.sub_mul, ← HA.out]; omega))
               have HiQ := zmZ (show (i : Int) ≤ 2000 by omega)
               clear HA HB ha0 ha1 hia
               have HPic := zmZ (show (0 ≤ l.high + 2 * l.pad - l.kh ∧ 0 ≤ l.wide + 2 * l.pad - l.kw) → PicOk l from fun h9 => ⟨HSD.out, by have := Hq0.out; have := Hq1.out; have := Hq2.out; omega, h9⟩)
               have HRq := zmZ (show zbA l = (HH - l.kh) / l.st + 1 by unfold zbA; rw [HHH.out])
               have HCq := zmZ (show zbx l = (WW - l.kw) / l.st + 1 by unfold zbx; rw [HWW.out])
               by_cases g0 : 0 < j0
               ·by_cases g1 : 0 < i
                ·have G0 := zmZ g0
                 have G1 := zmZ g1
                 go_wp2_with fail
                 go_ret3
                 have d1 : 0 ≤ HH - l.kh := by
                  rcases Int.lt_or_le (HH - l.kh) 0 with h | h
                  ·have := HR.out.2 h; have := G0.out; omega
                  ·exact h
                 have d2 : 0 ≤ WW - l.kw := by
                  rcases Int.lt_or_le (WW - l.kw) 0 with h | h
                  ·have := HQ.out.2 h; have := G1.out; omega
                  ·exact h
                 have r1 := HR.out.1 d1
                 have r2 := HQ.out.1 d2
                 exact ⟨.inl ⟨HPic.out (by have := HHH.out; have := HWW.out; omega), by rw [HRq.out, HCq.out, r1, r2]; rfl⟩, HE.out.bel⟩
                ·have G1 := zmZ g1
                 go_wp2_with fail
                 go_ret3
                 exact PicRes.no (fun h9 => by have h8 := h9.h; have h7 := HQ.out.1 (by have := HWW.out; omega); have h6 := G1.out; have h5 : 0 ≤ (WW - l.kw) / l.st := Int.ediv_nonneg (by have := HWW.out; omega) (by omega); omega) HE.out.bel
               ·have G0 := zmZ g0
                go_wp2_with fail
                go_ret3
                exact PicRes.no (fun h9 => by have h8 := h9.h; have h7 := HR.out.1 (by have := HHH.out; omega); have h6 := G0.out; have h5 : 0 ≤ (HH - l.kh) / l.st := Int.ediv_nonneg (by have := HHH.out; omega) (by omega); omega) HE.out.bel

def Beh10 (P : Prop) (u t : Int) (e : Ending) : Prop := (P ∧ e = .returned (.tuple #[.int .i64 u, .int .i64 t, .bool true])) ∨ (¬ P ∧ ∃ a b, e = .returned (.tuple #[.int .i64 a, .int .i64 b, .bool false]))
theorem Beh10.no {P : Prop} {u t a b : Int} {w w' : World} (hP : ¬ P) (hb : Below w.heap.size w w') : Beh10 P u t (.returned (.tuple #[.int .i64 a, .int .i64 b, .bool false])) ∧ Below w.heap.size w w' := ⟨.inr ⟨hP, a, b, rfl⟩, hb⟩
def zov (l : LaV) : Prop := l.ch = 0 ∧ l.high = 0 ∧ l.wide = 0 ∧ l.out = 0 ∧ l.kh = 0 ∧ l.kw = 0 ∧ l.st = 0 ∧ l.pad = 0
theorem nadd {a b m : Nat} (h : m = a + b) (hb : m ≤ 1152921504606846976) : IntKind.i64.wrap ((a : Int) + (b : Int)) = (m : Int) := by
 rw [zad (by omega)]; omega
theorem zn7 {z : Int} (h : z ≠ 0) : (z != 0) = true := by simp [h]
theorem zn8 {z : Int} (h : z = 0) : (z != 0) = false := by simp [h]
structure LaT (l : LaV) : Prop extends LaS l where
 row1 : ∀ v ∈ l.rows, v.ts.length ≤ 100
set_option maxRecDepth 100000 in
theorem zqH (w : World) (n : Nat) (hn : n ≤ 20) (h1n : 1 ≤ n) (l : LaV) (N : Int) (h : LaD n l w) (hs : LaT l) (nr nb nk ng : Nat) (HL : Hid (Lens l nr nb nk ng)) (hkd : l.kind = 1) : Calls Tryz.prog 63 #[lA l nr nb nk ng, .int .i64 N] w fun e w' => Beh10 (AffP w l N) nr (veS l.rows) e ∧ Below w.heap.size w w' := by
 have e0 : (l.kind == 1) = true := by simp [hkd]
 clear hkd
 have Hs := zmZ hs
 have hnb5 : nr ≤ 100000 ∧ nb ≤ 100000 ∧ nk ≤ 100000 ∧ ng ≤ 100000 := by have a1 := HL.out.r; have a2 := HL.out.b; have a3 := HL.out.k; have a4 := HL.out.g; have b1 := hs.rows; have b2 := hs.bias; have b3 := hs.kern; have b4 := hs.grs; omega
 have HNB := zmZ hnb5
 clear hnb5
 have slr := h.rows.sl
 have slg := h.grs.sl
 rw [← HL.out.r] at slr
 rw [← HL.out.g] at slg
 have hszr := zb9
 have hszg := zbt
 have hszi := zaF
 have hadd := za3
 have HE := zmZ (layL l nr nb nk ng (((LaD.old l w h)).and ((LaD.iffR h))))
 have c := Env.c1 HE.out
 clear h hs
 unfold lA
 go_enter Tryz.func63, Tryz.ntmps63
 go_upto_region 1 with fail
 go_cut [7] from 16 to 53 (fun v7 wx => ∃ S : Bool, v7 = .bool S ∧ Hid (S = false ↔ zov l) ∧ Hid (Env w [⟨w.heap.size, 36, #[.int .u8 l.kind, .slice l.Ar nr l.cr, .slice l.Ab nb l.cb, .int .i64 l.ch, .int .i64 l.high, .int .i64 l.wide, .int .i64 l.out, .int .i64 l.kh, .int .i64 l.kw, .int .i64 l.st, .int .i64 l.pad, .slice l.Ak nk l.ck, .slice l.Ag ng l.cg]⟩] (fun V => LaD n l V ∧ LaI w l V) (fun _ => True) wx))
 case first =>
  by_cases z0 : l.ch = 0
  ·have hsk := trivial
   clear hsk
   have b0 := zn8 z0
   have Z0 := zmZ z0
   clear z0
   by_cases z1 : l.high = 0
   ·have hsk := trivial
    clear hsk
    have b1 := zn8 z1
    have Z1 := zmZ z1
    clear z1
    by_cases z2 : l.wide = 0
    ·have hsk := trivial
     clear hsk
     have b2 := zn8 z2
     have Z2 := zmZ z2
     clear z2
     by_cases z3 : l.out = 0
     ·have hsk := trivial
      clear hsk
      have b3 := zn8 z3
      have Z3 := zmZ z3
      clear z3
      by_cases z4 : l.kh = 0
      ·have hsk := trivial
       clear hsk
       have b4 := zn8 z4
       have Z4 := zmZ z4
       clear z4
       by_cases z5 : l.kw = 0
       ·have hsk := trivial
        clear hsk
        have b5 := zn8 z5
        have Z5 := zmZ z5
        clear z5
        by_cases z6 : l.st = 0
        ·have hsk := trivial
         clear hsk
         have b6 := zn8 z6
         have Z6 := zmZ z6
         clear z6
         by_cases z7 : l.pad = 0
         ·have hsk := trivial
          clear hsk
          have b7 := zn8 z7
          have Z7 := zmZ z7
          clear z7
          go_wp2_with fail
          go_meet
          case rel => exact ⟨false, rfl, zmZ ⟨fun _ => ⟨Z0.out, Z1.out, Z2.out, Z3.out, Z4.out, Z5.out, Z6.out, Z7.out⟩, fun _ => rfl⟩, HE⟩
         ·have b7 := zn7 z7
          have Z7 := zmZ z7
          clear z7
          go_wp2_with fail
          go_meet
          case rel => exact ⟨true, rfl, zmZ ⟨fun h9 => absurd h9 (by decide), fun h9 => absurd (h9.2.2.2.2.2.2.2) Z7.out⟩, HE⟩
        ·have b6 := zn7 z6
         have Z6 := zmZ z6
         clear z6
         go_wp2_with fail
         go_meet
         case rel => exact ⟨true, rfl, zmZ ⟨fun h9 => absurd h9 (by decide), fun h9 => absurd (h9.2.2.2.2.2.2.1) Z6.out⟩, HE⟩
       ·have b5 := zn7 z5
        have Z5 := zmZ z5
        clear z5
        go_wp2_with fail
        go_meet
        case rel => exact ⟨true, rfl, zmZ ⟨fun h9 => absurd h9 (by decide), fun h9 => absurd (h9.2.2.2.2.2.1) Z5.out⟩, HE⟩
      ·have b4 := zn7 z4
       have Z4 := zmZ z4
       clear z4
       go_wp2_with fail
       go_meet
       case rel => exact ⟨true, rfl, zmZ ⟨fun h9 => absurd h9 (by decide), fun h9 => absurd (h9.2.2.2.2.1) Z4.out⟩, HE⟩
     ·have b3 := zn7 z3
      have Z3 := zmZ z3
      clear z3
      go_wp2_with fail
      go_meet
      case rel => exact ⟨true, rfl, zmZ ⟨fun h9 => absurd h9 (by decide), fun h9 => absurd (h9.2.2.2.1) Z3.out⟩, HE⟩
    ·have b2 := zn7 z2
     have Z2 := zmZ z2
     clear z2
     go_wp2_with fail
     go_meet
     case rel => exact ⟨true, rfl, zmZ ⟨fun h9 => absurd h9 (by decide), fun h9 => absurd (h9.2.2.1) Z2.out⟩, HE⟩
   ·have b1 := zn7 z1
    have Z1 := zmZ z1
    clear z1
    go_wp2_with fail
    go_meet
    case rel => exact ⟨true, rfl, zmZ ⟨fun h9 => absurd h9 (by decide), fun h9 => absurd (h9.2.1) Z1.out⟩, HE⟩
  ·have b0 := zn7 z0
   have Z0 := zmZ z0
   clear z0
   go_wp2_with fail
   go_meet
   case rel => exact ⟨true, rfl, zmZ ⟨fun h9 => absurd h9 (by decide), fun h9 => absurd (h9.1) Z0.out⟩, HE⟩
 case rest =>
  clear HE c
  obtain ⟨S, rfl, HS, HE⟩ := hcut
  have c := Env.c1 HE.out
  go_wp2_with fail
  refine (zna _ n (by omega) h1n l.Ab l.cb l.bias HE.out.o.1.bias (by have := Hs.out.bias; omega) nb HL.out.b).mono ?_
  rintro e w1 ⟨⟨B1, rfl, hB⟩, hb⟩
  have HB1 := zmZ (hB.trans ⟨fun h p hp => (HE.out.o.2.bias p hp).1 (h p hp), fun h p hp => (HE.out.o.2.bias p hp).2 (h p hp)⟩)
  replace HE := zmZ (Env.call HE.out hb)
  replace c := Env.c1 HE.out
  clear hB hb
  cases B1
  ·go_wp2_with fail
   go_ret3
   exact Beh10.no (fun hP => absurd (HB1.out.2 hP.eb) (by decide)) HE.out.bel
  ·go_wp2_with fail
   refine (zna _ n (by omega) h1n l.Ak l.ck l.kern HE.out.o.1.kern (by have := Hs.out.kern; omega) nk HL.out.k).mono ?_
   rintro e w2 ⟨⟨B2, rfl, hB⟩, hb⟩
   have HB2 := zmZ (hB.trans ⟨fun h p hp => (HE.out.o.2.kern p hp).1 (h p hp), fun h p hp => (HE.out.o.2.kern p hp).2 (h p hp)⟩)
   replace HE := zmZ (Env.call HE.out hb)
   replace c := Env.c1 HE.out
   clear hB hb
   cases B2
   ·go_wp2_with fail
    go_ret3
    exact Beh10.no (fun hP => absurd (HB2.out.2 (by rw [hP.p.1]; simp)) (by decide)) HE.out.bel
   ·have HX1 := zmZ (HB1.out.1 (by first | rfl | trivial))
    have HX2 := zmZ (HB2.out.1 (by first | rfl | trivial))
    clear HB1 HB2
    go_upto_region 7 with fail
    cases S
    ·have HZ := zmZ (HS.out.1 rfl)
     obtain ⟨kg, hkg⟩ : ∃ a, a = nk + ng := ⟨_, rfl⟩
     have wkg := nadd hkg (by have := HNB.out; omega)
     have Hkg := zmZ hkg
     clear hkg HS
     by_cases q0 : 0 < kg
     ·have H0 := zmZ q0
      go_wp2_with fail
      go_ret3
      exact Beh10.no (fun hP => by have h1 := zd2 HL.out.k |>.1 hP.p.1; have h2 := zd2 HL.out.g |>.1 hP.g; have h3 := H0.out; have h4 := Hkg.out; omega) HE.out.bel
     ·have H0 := zmZ q0
      by_cases q1 : nr < 1
      ·have H1 := zmZ q1
       go_wp2_with fail
       go_ret3
       exact Beh10.no (fun hP => hP.r ((zd2 HL.out.r).2 (by have := H1.out; omega))) HE.out.bel
      ·have H1 := zmZ q1
       by_cases q2 : nr = nb
       ·have H2 := zmZ q2
        have q2b : ((nr : Int) != (nb : Int)) = false := by simp [q2]
        clear q2
        go_wp2_with fail
        clear q0 q1 q2b wkg c
        go_loopw [8, 9] (fun tv iv wr => ∃ i : Nat, tv = .int .i64 (veS (l.rows.take i)) ∧ iv = .int .i64 (i : Int) ∧ i ≤ nr ∧ Hid (∀ v ∈ l.rows.take i, RightP v.ts N w) ∧ Hid (Env w [⟨w.heap.size, 36, #[.int .u8 l.kind, .slice l.Ar nr l.cr, .slice l.Ab nb l.cb, .int .i64 l.ch, .int .i64 l.high, .int .i64 l.wide, .int .i64 l.out, .int .i64 l.kh, .int .i64 l.kw, .int .i64 l.st, .int .i64 l.pad, .slice l.Ak nk l.ck, .slice l.Ag ng l.cg]⟩] (fun V => LaD n l V ∧ LaI w l V) (fun _ => True) wr)) (fun _ iv _ => nr - (intOf iv).toNat)
        case atStart => exact ⟨0, rfl, rfl, Nat.zero_le _, zmZ (by simp), HE⟩
        case round =>
         clear HE
         obtain ⟨i, rfl, rfl, hi, HP, HE⟩ := hrel
         have c := Env.c1 HE.out
         have hnr9 := HNB.out
         by_cases hlt : i < nr
         ·have hlt2 : i < l.rows.length := by rw [← HL.out.r]; exact hlt
          have c0 := HE.out.o.1.rows.vc i hlt2
          have Hsum := zmZ (show veS (l.rows.take i) + ((l.rows[i]).ts.length : Int) = veS (l.rows.take (i + 1)) from (zf4 hlt2).symm)
          have Hsb := zmZ (zk0 (vs := l.rows.take (i + 1)) fun v hm => Hs.out.row v (List.mem_of_mem_take hm))
          obtain ⟨v, hv⟩ : ∃ v, v = l.rows[i] := ⟨_, rfl⟩
          rw [← hv] at c0 Hsum
          have Hv := zmZ hv
          have Hm := zmZ (show v ∈ l.rows by rw [hv]; exact List.getElem_mem hlt2)
          clear hv
          have hrl := Hs.out.row1 v Hm.out
          have hm9 : v.ts.length * (n + 1) ≤ 100 * 21 := Nat.mul_le_mul hrl (by omega)
          have Hbd := zmZ (show v.ts.length ≤ 1000 ∧ 1 + v.ts.length * (n + 1) ≤ 3000 from ⟨by omega, by omega⟩)
          clear hrl hm9
          go_wp2_with fail
          refine (zpx _ n 3000 (by decide) h1n v.A v.c v.ts N (HE.out.o.1.rows.ok v Hm.out) Hbd.out.1 (by omega) Hbd.out.2).mono ?_
          rintro e w3 ⟨⟨B, rfl, hB⟩, hb⟩
          have HB := zmZ (hB.trans (HE.out.o.2.rows v Hm.out N))
          replace HE := zmZ (Env.call HE.out hb)
          replace c := Env.c1 HE.out
          have c1 : w3.cell? (adr l.Ar i) = some (.slice v.A v.ts.length v.c) := by
           have h9 := HE.out.o.1.rows.vc i hlt2
           rw [← Hv.out] at h9; exact h9
          clear hB hb c0
          cases B
          ·go_wp2_with fail
           go_ret3
           exact Beh10.no (fun hP => absurd (HB.out.2 (hP.er v Hm.out)) (by decide)) HE.out.bel
          ·have hwt : IntKind.i64.wrap (veS (l.rows.take i) + (v.ts.length : Int)) = veS (l.rows.take (i + 1)) := by
            rw [Hsum.out]
            refine zad ⟨Hsb.out.1, ?_⟩
            have h9 := Hsb.out.2
            rw [List.length_take] at h9
            omega
           go_wp2_with fail
           go_roundw
           case rel => exact ⟨i + 1, rfl, by go_num, by omega, zmZ (zaB HP.out hlt2 (by rw [← Hv.out]; exact HB.out.1 (by first | rfl | trivial))), HE⟩
           case measure => (simp [intOf] <;> omega)
         ·obtain rfl : i = nr := by omega
          have HP2 := zmZ (show ∀ v ∈ l.rows, RightP v.ts N w by have := HP.out; rw [HL.out.r, List.take_length] at this; exact this)
          have Hve := zmZ (show veS (l.rows.take i) = veS l.rows by rw [HL.out.r, List.take_length])
          rw [Hve.out]
          go_wp2_with fail
          go_ret3
          exact ⟨.inl ⟨⟨⟨(zd2 HL.out.k).2 (by have := H0.out; have := Hkg.out; omega), HZ.out⟩, (zd2 HL.out.g).2 (by have := H0.out; have := Hkg.out; omega), fun h9 => by have h8 := (zd2 HL.out.r).1 h9; have := H1.out; omega, by rw [← HL.out.r, ← HL.out.b]; exact H2.out, HP2.out, HX1.out⟩, rfl⟩, by first | exact HE.out.bel | exact (HE.out.drewN _).bel⟩
       ·have H2 := zmZ q2
        have q2b : ((nr : Int) != (nb : Int)) = true := by simp; omega
        go_wp2_with fail
        go_ret3
        exact Beh10.no (fun hP => H2.out (by rw [HL.out.r, HL.out.b]; exact hP.b)) HE.out.bel
    ·have HZ := zmZ (show ¬ zov l from fun h9 => absurd (HS.out.2 h9) (by decide))
     go_wp2_with fail
     go_ret3
     exact Beh10.no (fun hP => HZ.out hP.p.2) HE.out.bel
set_option maxRecDepth 100000 in
theorem zqZ (w : World) (n : Nat) (hn : n ≤ 20) (h1n : 1 ≤ n) (l : LaV) (N : Int) (h : LaD n l w) (hs : LaT l) (nr nb nk ng : Nat) (HL : Hid (Lens l nr nb nk ng)) (hkd : l.kind = 2) : Calls Tryz.prog 63 #[lA l nr nb nk ng, .int .i64 N] w fun e w' => Beh10 (ConvP w l N) (l.out * zbA l * zbx l) (l.out * zbA l * zbx l * (l.ch * l.kh * l.kw)) e ∧ Below w.heap.size w w' := by
 have e0 : (l.kind == 1) = false := by simp; omega
 have e1 : (l.kind == 2) = true := by simp [hkd]
 clear hkd
 have Hs := zmZ hs
 have hnb5 : nr ≤ 100000 ∧ nb ≤ 100000 ∧ nk ≤ 100000 ∧ ng ≤ 100000 := by have a1 := HL.out.r; have a2 := HL.out.b; have a3 := HL.out.k; have a4 := HL.out.g; have b1 := hs.rows; have b2 := hs.bias; have b3 := hs.kern; have b4 := hs.grs; omega
 have HNB := zmZ hnb5
 clear hnb5
 have slr := h.rows.sl
 have slg := h.grs.sl
 rw [← HL.out.r] at slr
 rw [← HL.out.g] at slg
 have hszr := zb9
 have hszg := zbt
 have hszi := zaF
 have hadd := za3
 have HE := zmZ (layL l nr nb nk ng (((LaD.old l w h)).and ((LaD.iffR h))))
 have c := Env.c1 HE.out
 clear h hs
 unfold lA
 go_enter Tryz.func63, Tryz.ntmps63
 go_upto_region 1 with fail
 go_cut [7] from 16 to 53 (fun v7 wx => ∃ S : Bool, v7 = .bool S ∧ Hid (S = false ↔ zov l) ∧ Hid (Env w [⟨w.heap.size, 36, #[.int .u8 l.kind, .slice l.Ar nr l.cr, .slice l.Ab nb l.cb, .int .i64 l.ch, .int .i64 l.high, .int .i64 l.wide, .int .i64 l.out, .int .i64 l.kh, .int .i64 l.kw, .int .i64 l.st, .int .i64 l.pad, .slice l.Ak nk l.ck, .slice l.Ag ng l.cg]⟩] (fun V => LaD n l V ∧ LaI w l V) (fun _ => True) wx))
 case first =>
  by_cases z0 : l.ch = 0
  ·have hsk := trivial
   clear hsk
   have b0 := zn8 z0
   have Z0 := zmZ z0
   clear z0
   by_cases z1 : l.high = 0
   ·have hsk := trivial
    clear hsk
    have b1 := zn8 z1
    have Z1 := zmZ z1
    clear z1
    by_cases z2 : l.wide = 0
    ·have hsk := trivial
     clear hsk
     have b2 := zn8 z2
     have Z2 := zmZ z2
     clear z2
     by_cases z3 : l.out = 0
     ·have hsk := trivial
      clear hsk
      have b3 := zn8 z3
      have Z3 := zmZ z3
      clear z3
      by_cases z4 : l.kh = 0
      ·have hsk := trivial
       clear hsk
       have b4 := zn8 z4
       have Z4 := zmZ z4
       clear z4
       by_cases z5 : l.kw = 0
       ·have hsk := trivial
        clear hsk
        have b5 := zn8 z5
        have Z5 := zmZ z5
        clear z5
        by_cases z6 : l.st = 0
        ·have hsk := trivial
         clear hsk
         have b6 := zn8 z6
         have Z6 := zmZ z6
         clear z6
         by_cases z7 : l.pad = 0
         ·have hsk := trivial
          clear hsk
          have b7 := zn8 z7
          have Z7 := zmZ z7
          clear z7
          go_wp2_with fail
          go_meet
          case rel => exact ⟨false, rfl, zmZ ⟨fun _ => ⟨Z0.out, Z1.out, Z2.out, Z3.out, Z4.out, Z5.out, Z6.out, Z7.out⟩, fun _ => rfl⟩, HE⟩
         ·have b7 := zn7 z7
          have Z7 := zmZ z7
          clear z7
          go_wp2_with fail
          go_meet
          case rel => exact ⟨true, rfl, zmZ ⟨fun h9 => absurd h9 (by decide), fun h9 => absurd (h9.2.2.2.2.2.2.2) Z7.out⟩, HE⟩
        ·have b6 := zn7 z6
         have Z6 := zmZ z6
         clear z6
         go_wp2_with fail
         go_meet
         case rel => exact ⟨true, rfl, zmZ ⟨fun h9 => absurd h9 (by decide), fun h9 => absurd (h9.2.2.2.2.2.2.1) Z6.out⟩, HE⟩
       ·have b5 := zn7 z5
        have Z5 := zmZ z5
        clear z5
        go_wp2_with fail
        go_meet
        case rel => exact ⟨true, rfl, zmZ ⟨fun h9 => absurd h9 (by decide), fun h9 => absurd (h9.2.2.2.2.2.1) Z5.out⟩, HE⟩
      ·have b4 := zn7 z4
       have Z4 := zmZ z4
       clear z4
       go_wp2_with fail
       go_meet
       case rel => exact ⟨true, rfl, zmZ ⟨fun h9 => absurd h9 (by decide), fun h9 => absurd (h9.2.2.2.2.1) Z4.out⟩, HE⟩
     ·have b3 := zn7 z3
      have Z3 := zmZ z3
      clear z3
      go_wp2_with fail
      go_meet
      case rel => exact ⟨true, rfl, zmZ ⟨fun h9 => absurd h9 (by decide), fun h9 => absurd (h9.2.2.2.1) Z3.out⟩, HE⟩
    ·have b2 := zn7 z2
     have Z2 := zmZ z2
     clear z2
     go_wp2_with fail
     go_meet
     case rel => exact ⟨true, rfl, zmZ ⟨fun h9 => absurd h9 (by decide), fun h9 => absurd (h9.2.2.1) Z2.out⟩, HE⟩
   ·have b1 := zn7 z1
    have Z1 := zmZ z1
    clear z1
    go_wp2_with fail
    go_meet
    case rel => exact ⟨true, rfl, zmZ ⟨fun h9 => absurd h9 (by decide), fun h9 => absurd (h9.2.1) Z1.out⟩, HE⟩
  ·have b0 := zn7 z0
   have Z0 := zmZ z0
   clear z0
   go_wp2_with fail
   go_meet
   case rel => exact ⟨true, rfl, zmZ ⟨fun h9 => absurd h9 (by decide), fun h9 => absurd (h9.1) Z0.out⟩, HE⟩
 case rest =>
  clear HE c
  obtain ⟨S, rfl, HS, HE⟩ := hcut
  have c := Env.c1 HE.out
  go_wp2_with fail
  refine (zna _ n (by omega) h1n l.Ab l.cb l.bias HE.out.o.1.bias (by have := Hs.out.bias; omega) nb HL.out.b).mono ?_
  rintro e w1 ⟨⟨B1, rfl, hB⟩, hb⟩
  have HB1 := zmZ (hB.trans ⟨fun h p hp => (HE.out.o.2.bias p hp).1 (h p hp), fun h p hp => (HE.out.o.2.bias p hp).2 (h p hp)⟩)
  replace HE := zmZ (Env.call HE.out hb)
  replace c := Env.c1 HE.out
  clear hB hb
  cases B1
  ·go_wp2_with fail
   go_ret3
   exact Beh10.no (fun hP => absurd (HB1.out.2 hP.eb) (by decide)) HE.out.bel
  ·go_wp2_with fail
   refine (zna _ n (by omega) h1n l.Ak l.ck l.kern HE.out.o.1.kern (by have := Hs.out.kern; omega) nk HL.out.k).mono ?_
   rintro e w2 ⟨⟨B2, rfl, hB⟩, hb⟩
   have HB2 := zmZ (hB.trans ⟨fun h p hp => (HE.out.o.2.kern p hp).1 (h p hp), fun h p hp => (HE.out.o.2.kern p hp).2 (h p hp)⟩)
   replace HE := zmZ (Env.call HE.out hb)
   replace c := Env.c1 HE.out
   clear hB hb
   cases B2
   ·go_wp2_with fail
    go_ret3
    exact Beh10.no (fun hP => absurd (HB2.out.2 hP.ek) (by decide)) HE.out.bel
   ·have HX1 := zmZ (HB1.out.1 (by first | rfl | trivial))
    have HX2 := zmZ (HB2.out.1 (by first | rfl | trivial))
    clear HB1 HB2
    go_wp2_with fail
    refine (znT _ l nr nb nk ng).mono ?_
    rintro e w3 ⟨hr, hb⟩
    have HR := zmZ hr
    replace HE := zmZ (Env.call HE.out hb)
    replace c := Env.c1 HE.out
    clear hr hb
    rcases HR.out with ⟨hP, rfl⟩ | ⟨hP, a9, b9, rfl⟩
    ·have HPic := zmZ hP
     clear hP HR
     have hn9 := HPic.out.s.nn
     have hw9 := HPic.out.s.w1
     have w1 := zad (z := l.ch * l.high) (by omega)
     have w2 := zad (z := l.ch * l.high * l.wide) (by omega)
     have a2 := zbT (a := l.out) (b := l.ch) (m := 256) (by omega) (by omega)
     have a3 := zbT (a := l.out * l.ch) (b := l.kh) (m := 256 * 1024) a2 (by omega)
     have a4 := zbT (a := l.out * l.ch * l.kh) (b := l.kw) (m := 256 * 1024 * 1024) a3 (by omega)
     have w3 := zad (z := l.out * l.ch) (by omega)
     have w4 := zad (z := l.out * l.ch * l.kh) (by omega)
     have w5 := zad (z := l.out * l.ch * l.kh * l.kw) (by omega)
     have hass : l.out * l.ch * l.kh * l.kw = l.out * (l.ch * l.kh * l.kw) := by rw [Int.mul_assoc l.out, Int.mul_assoc l.out]
     have Hass := zmZ hass
     have hp9 := HPic.out.pad
     have hh9 := HPic.out.h
     have b1 := zd7 (h := l.high) (p := l.pad) (k := l.kh) (s := l.st) (by omega) (by omega) (by omega) (by omega) (by omega)
     have b2 := zd7 (h := l.wide) (p := l.pad) (k := l.kw) (s := l.st) (by omega) (by omega) (by omega) (by omega) (by omega)
     obtain ⟨R0, hR0⟩ : ∃ z, z = zbA l := ⟨_, rfl⟩
     obtain ⟨C0, hC0⟩ : ∃ z, z = zbx l := ⟨_, rfl⟩
     have hRb : 0 ≤ R0 ∧ R0 ≤ 1024 := by rw [hR0]; unfold zbA; omega
     have hCb : 0 ≤ C0 ∧ C0 ≤ 1024 := by rw [hC0]; unfold zbx; omega
     rw [← hR0, ← hC0]
     have HR0 := zmZ hR0
     have HC0 := zmZ hC0
     have u1 := zbT (a := l.out) (b := R0) (m := 256) (by omega) hRb
     have u2 := zbT (a := l.out * R0) (b := C0) (m := 256 * 1024) u1 hCb
     have u3 := zbT (a := l.out * R0 * C0) (b := l.ch) (m := 256 * 1024 * 1024) u2 (by omega)
     have u4 := zbT (a := l.out * R0 * C0 * l.ch) (b := l.kh) (m := 256 * 1024 * 1024 * 1024) u3 (by omega)
     have u5 := zbT (a := l.out * R0 * C0 * l.ch * l.kh) (b := l.kw) (m := 256 * 1024 * 1024 * 1024 * 1024) u4 (by omega)
     have y1 := zad (z := l.out * R0) (by omega)
     have y2 := zad (z := l.out * R0 * C0) (by omega)
     have y3 := zad (z := l.out * R0 * C0 * l.ch) (by omega)
     have y4 := zad (z := l.out * R0 * C0 * l.ch * l.kh) (by omega)
     have y5 := zad (z := l.out * R0 * C0 * l.ch * l.kh * l.kw) (by omega)
     have Hyy := zmZ (show l.out * R0 * C0 * l.ch * l.kh * l.kw = l.out * R0 * C0 * (l.ch * l.kh * l.kw) by rw [Int.mul_assoc (l.out * R0 * C0), Int.mul_assoc (l.out * R0 * C0)])
     clear hn9 hw9 a2 a3 a4 hass hp9 hh9 b1 b2 hR0 hC0 hRb hCb u1 u2 u3 u4 u5
     obtain ⟨rg, hrg⟩ : ∃ a, a = nr + ng := ⟨_, rfl⟩
     have wrg := nadd hrg (by have := HNB.out; omega)
     have Hrg := zmZ hrg
     clear hrg
     go_upto_region 18 with fail
     by_cases q0 : 0 < rg
     ·have H0 := zmZ q0
      go_wp2_with fail
      go_ret3
      exact Beh10.no (fun hP => by have h1 := zd2 HL.out.r |>.1 hP.e.1; have h2 := zd2 HL.out.g |>.1 hP.e.2; have h3 := H0.out; have h4 := Hrg.out; omega) HE.out.bel
     ·have H0 := zmZ q0
      by_cases q1 : l.ch * l.high * l.wide = N
      ·have H1 := zmZ q1
       have q1b : ((l.ch * l.high * l.wide) != N) = false := by simp [q1]
       clear q1
       by_cases q2 : (nk : Int) = l.out * l.ch * l.kh * l.kw
       ·have H2 := zmZ q2
        have q2b : ((nk : Int) != l.out * l.ch * l.kh * l.kw) = false := by simp [q2]
        clear q2
        by_cases q3 : (nb : Int) = l.out
        ·have H3 := zmZ q3
         have q3b : ((nb : Int) != l.out) = false := by simp [q3]
         clear q3
         go_upto_region 20 with fail
         clear q0 q1b q2b q3b w1 w2 w3 w4 w5 wrg
         go_quiet (fail)
         go_wp2_with fail
         go_ret3
         exact ⟨.inl ⟨⟨HPic.out.s, HPic.out.pad, H1.out, HPic.out.h, by rw [← HL.out.k, ← Hass.out]; exact H2.out, by rw [← HL.out.b]; exact H3.out, ⟨(zd2 HL.out.r).2 (by have := H0.out; have := Hrg.out; omega), (zd2 HL.out.g).2 (by have := H0.out; have := Hrg.out; omega)⟩, HX2.out, HX1.out⟩, by rw [← HR0.out, ← HC0.out, ← Hyy.out] <;> rfl⟩, by first | exact HE.out.bel | exact (HE.out.drewN _).bel⟩
        ·have H3 := zmZ q3
         have q3b : ((nb : Int) != l.out) = true := by simp [q3]
         go_wp2_with fail
         go_ret3
         exact Beh10.no (fun hP => H3.out (by rw [HL.out.b]; exact hP.b)) HE.out.bel
       ·have H2 := zmZ q2
        have q2b : ((nk : Int) != l.out * l.ch * l.kh * l.kw) = true := by simp [q2]
        go_wp2_with fail
        go_ret3
        exact Beh10.no (fun hP => H2.out (by rw [HL.out.k, Hass.out]; exact hP.k)) HE.out.bel
      ·have H1 := zmZ q1
       have q1b : ((l.ch * l.high * l.wide) != N) = true := by simp [q1]
       go_wp2_with fail
       go_ret3
       exact Beh10.no (fun hP => H1.out hP.n) HE.out.bel
    ·have HPic := zmZ hP
     clear hP HR
     go_wp2_with fail
     go_ret3
     exact Beh10.no (fun hP => HPic.out ⟨hP.s, hP.pad, hP.h⟩) HE.out.bel

set_option maxRecDepth 100000 in
theorem zqN (w : World) (n : Nat) (hn : n ≤ 20) (h1n : 1 ≤ n) (l : LaV) (N : Int) (h : LaD n l w) (hs : LaT l) (nr nb nk ng : Nat) (HL : Hid (Lens l nr nb nk ng)) (hkd : l.kind = 3) : Calls Tryz.prog 63 #[lA l nr nb nk ng, .int .i64 N] w fun e w' => Beh10 (zap l ∧ l.rows = [] ∧ l.bias = [] ∧ l.grs = []) N 0 e ∧ Below w.heap.size w w' := by
 have e0 : (l.kind == 1) = false := by simp; omega
 have e1 : (l.kind == 2) = false := by simp; omega
 have e2 : (l.kind == 3) = true := by simp [hkd]
 clear hkd
 have Hs := zmZ hs
 have hnb5 : nr ≤ 100000 ∧ nb ≤ 100000 ∧ nk ≤ 100000 ∧ ng ≤ 100000 := by have a1 := HL.out.r; have a2 := HL.out.b; have a3 := HL.out.k; have a4 := HL.out.g; have b1 := hs.rows; have b2 := hs.bias; have b3 := hs.kern; have b4 := hs.grs; omega
 have HNB := zmZ hnb5
 clear hnb5
 have slr := h.rows.sl
 have slg := h.grs.sl
 rw [← HL.out.r] at slr
 rw [← HL.out.g] at slg
 have hszr := zb9
 have hszg := zbt
 have hszi := zaF
 have hadd := za3
 have HE := zmZ (layL l nr nb nk ng (((LaD.old l w h)).and ((LaD.iffR h))))
 have c := Env.c1 HE.out
 clear h hs
 unfold lA
 go_enter Tryz.func63, Tryz.ntmps63
 go_upto_region 1 with fail
 go_cut [7] from 16 to 53 (fun v7 wx => ∃ S : Bool, v7 = .bool S ∧ Hid (S = false ↔ zov l) ∧ Hid (Env w [⟨w.heap.size, 36, #[.int .u8 l.kind, .slice l.Ar nr l.cr, .slice l.Ab nb l.cb, .int .i64 l.ch, .int .i64 l.high, .int .i64 l.wide, .int .i64 l.out, .int .i64 l.kh, .int .i64 l.kw, .int .i64 l.st, .int .i64 l.pad, .slice l.Ak nk l.ck, .slice l.Ag ng l.cg]⟩] (fun V => LaD n l V ∧ LaI w l V) (fun _ => True) wx))
 case first =>
  by_cases z0 : l.ch = 0
  ·have hsk := trivial
   clear hsk
   have b0 := zn8 z0
   have Z0 := zmZ z0
   clear z0
   by_cases z1 : l.high = 0
   ·have hsk := trivial
    clear hsk
    have b1 := zn8 z1
    have Z1 := zmZ z1
    clear z1
    by_cases z2 : l.wide = 0
    ·have hsk := trivial
     clear hsk
     have b2 := zn8 z2
     have Z2 := zmZ z2
     clear z2
     by_cases z3 : l.out = 0
     ·have hsk := trivial
      clear hsk
      have b3 := zn8 z3
      have Z3 := zmZ z3
      clear z3
      by_cases z4 : l.kh = 0
      ·have hsk := trivial
       clear hsk
       have b4 := zn8 z4
       have Z4 := zmZ z4
       clear z4
       by_cases z5 : l.kw = 0
       ·have hsk := trivial
        clear hsk
        have b5 := zn8 z5
        have Z5 := zmZ z5
        clear z5
        by_cases z6 : l.st = 0
        ·have hsk := trivial
         clear hsk
         have b6 := zn8 z6
         have Z6 := zmZ z6
         clear z6
         by_cases z7 : l.pad = 0
         ·have hsk := trivial
          clear hsk
          have b7 := zn8 z7
          have Z7 := zmZ z7
          clear z7
          go_wp2_with fail
          go_meet
          case rel => exact ⟨false, rfl, zmZ ⟨fun _ => ⟨Z0.out, Z1.out, Z2.out, Z3.out, Z4.out, Z5.out, Z6.out, Z7.out⟩, fun _ => rfl⟩, HE⟩
         ·have b7 := zn7 z7
          have Z7 := zmZ z7
          clear z7
          go_wp2_with fail
          go_meet
          case rel => exact ⟨true, rfl, zmZ ⟨fun h9 => absurd h9 (by decide), fun h9 => absurd (h9.2.2.2.2.2.2.2) Z7.out⟩, HE⟩
        ·have b6 := zn7 z6
         have Z6 := zmZ z6
         clear z6
         go_wp2_with fail
         go_meet
         case rel => exact ⟨true, rfl, zmZ ⟨fun h9 => absurd h9 (by decide), fun h9 => absurd (h9.2.2.2.2.2.2.1) Z6.out⟩, HE⟩
       ·have b5 := zn7 z5
        have Z5 := zmZ z5
        clear z5
        go_wp2_with fail
        go_meet
        case rel => exact ⟨true, rfl, zmZ ⟨fun h9 => absurd h9 (by decide), fun h9 => absurd (h9.2.2.2.2.2.1) Z5.out⟩, HE⟩
      ·have b4 := zn7 z4
       have Z4 := zmZ z4
       clear z4
       go_wp2_with fail
       go_meet
       case rel => exact ⟨true, rfl, zmZ ⟨fun h9 => absurd h9 (by decide), fun h9 => absurd (h9.2.2.2.2.1) Z4.out⟩, HE⟩
     ·have b3 := zn7 z3
      have Z3 := zmZ z3
      clear z3
      go_wp2_with fail
      go_meet
      case rel => exact ⟨true, rfl, zmZ ⟨fun h9 => absurd h9 (by decide), fun h9 => absurd (h9.2.2.2.1) Z3.out⟩, HE⟩
    ·have b2 := zn7 z2
     have Z2 := zmZ z2
     clear z2
     go_wp2_with fail
     go_meet
     case rel => exact ⟨true, rfl, zmZ ⟨fun h9 => absurd h9 (by decide), fun h9 => absurd (h9.2.2.1) Z2.out⟩, HE⟩
   ·have b1 := zn7 z1
    have Z1 := zmZ z1
    clear z1
    go_wp2_with fail
    go_meet
    case rel => exact ⟨true, rfl, zmZ ⟨fun h9 => absurd h9 (by decide), fun h9 => absurd (h9.2.1) Z1.out⟩, HE⟩
  ·have b0 := zn7 z0
   have Z0 := zmZ z0
   clear z0
   go_wp2_with fail
   go_meet
   case rel => exact ⟨true, rfl, zmZ ⟨fun h9 => absurd h9 (by decide), fun h9 => absurd (h9.1) Z0.out⟩, HE⟩
 case rest =>
  clear HE c
  obtain ⟨S, rfl, HS, HE⟩ := hcut
  have c := Env.c1 HE.out
  go_wp2_with fail
  refine (zna _ n (by omega) h1n l.Ab l.cb l.bias HE.out.o.1.bias (by have := Hs.out.bias; omega) nb HL.out.b).mono ?_
  rintro e w1 ⟨⟨B1, rfl, hB⟩, hb⟩
  have HB1 := zmZ (hB.trans ⟨fun h p hp => (HE.out.o.2.bias p hp).1 (h p hp), fun h p hp => (HE.out.o.2.bias p hp).2 (h p hp)⟩)
  replace HE := zmZ (Env.call HE.out hb)
  replace c := Env.c1 HE.out
  clear hB hb
  cases B1
  ·go_wp2_with fail
   go_ret3
   exact Beh10.no (fun hP => absurd (HB1.out.2 (by rw [hP.2.2.1]; simp)) (by decide)) HE.out.bel
  ·go_wp2_with fail
   refine (zna _ n (by omega) h1n l.Ak l.ck l.kern HE.out.o.1.kern (by have := Hs.out.kern; omega) nk HL.out.k).mono ?_
   rintro e w2 ⟨⟨B2, rfl, hB⟩, hb⟩
   have HB2 := zmZ (hB.trans ⟨fun h p hp => (HE.out.o.2.kern p hp).1 (h p hp), fun h p hp => (HE.out.o.2.kern p hp).2 (h p hp)⟩)
   replace HE := zmZ (Env.call HE.out hb)
   replace c := Env.c1 HE.out
   clear hB hb
   cases B2
   ·go_wp2_with fail
    go_ret3
    exact Beh10.no (fun hP => absurd (HB2.out.2 (by rw [hP.1.1]; simp)) (by decide)) HE.out.bel
   ·have HX1 := zmZ (HB1.out.1 (by first | rfl | trivial))
    have HX2 := zmZ (HB2.out.1 (by first | rfl | trivial))
    clear HB1 HB2
    go_upto_region 22 with fail
    cases S
    ·have HZ := zmZ (HS.out.1 rfl)
     obtain ⟨s1, hs1⟩ : ∃ a, a = nr + nb := ⟨_, rfl⟩
     obtain ⟨s2, hs2⟩ : ∃ a, a = s1 + nk := ⟨_, rfl⟩
     obtain ⟨s3, hs3⟩ : ∃ a, a = s2 + ng := ⟨_, rfl⟩
     have hnb9 := HNB.out
     have u1 := nadd hs1 (by omega)
     have u2 := nadd hs2 (by omega)
     have u3 := nadd hs3 (by omega)
     have Hsum := zmZ (show s3 = nr + nb + nk + ng by omega)
     clear hs1 hs2 hs3 hnb9
     by_cases q0 : s3 = 0
     ·have H0 := zmZ q0
      have q0b : ((s3 : Int) == 0) = true := by simp [q0]
      clear q0
      go_quiet (fail)
      go_wp2_with fail
      go_ret3
      exact ⟨.inl ⟨⟨⟨(zd2 HL.out.k).2 (by have := H0.out; have := Hsum.out; omega), HZ.out⟩, (zd2 HL.out.r).2 (by have := H0.out; have := Hsum.out; omega), (zd2 HL.out.b).2 (by have := H0.out; have := Hsum.out; omega), (zd2 HL.out.g).2 (by have := H0.out; have := Hsum.out; omega)⟩, rfl⟩, by first | exact HE.out.bel | exact (HE.out.drewN _).bel⟩
     ·have H0 := zmZ q0
      have q0b : ((s3 : Int) == 0) = false := by simp [q0]
      clear q0
      go_quiet (fail)
      go_wp2_with fail
      go_ret3
      exact Beh10.no (fun hP => H0.out (by have h1 := zd2 HL.out.r |>.1 hP.2.1; have h2 := zd2 HL.out.b |>.1 hP.2.2.1; have h3 := zd2 HL.out.k |>.1 hP.1.1; have h4 := zd2 HL.out.g |>.1 hP.2.2.2; have h5 := Hsum.out; omega)) (by first | exact HE.out.bel | exact (HE.out.drewN _).bel)
    ·have HZ := zmZ (show ¬ zov l from fun h9 => absurd (HS.out.2 h9) (by decide))
     go_quiet (fail)
     go_wp2_with fail
     go_ret3
     exact Beh10.no (fun hP => HZ.out hP.1.2) (by first | exact HE.out.bel | exact (HE.out.drewN _).bel)
set_option maxRecDepth 100000 in
theorem zr6 (w : World) (n : Nat) (hn : n ≤ 20) (h1n : 1 ≤ n) (l : LaV) (N : Int) (h : LaD n l w) (hs : LaT l) (nr nb nk ng : Nat) (HL : Hid (Lens l nr nb nk ng)) (hkd : ¬ (l.kind = 1 ∨ l.kind = 2 ∨ l.kind = 3 ∨ l.kind = 4)) : Calls Tryz.prog 63 #[lA l nr nb nk ng, .int .i64 N] w fun e w' => Beh10 False 0 0 e ∧ Below w.heap.size w w' := by
 have e0 : (l.kind == 1) = false := by simp; omega
 have e1 : (l.kind == 2) = false := by simp; omega
 have e2 : (l.kind == 3) = false := by simp; omega
 have e3 : (l.kind == 4) = false := by simp; omega
 clear hkd
 have Hs := zmZ hs
 have hnb5 : nr ≤ 100000 ∧ nb ≤ 100000 ∧ nk ≤ 100000 ∧ ng ≤ 100000 := by have a1 := HL.out.r; have a2 := HL.out.b; have a3 := HL.out.k; have a4 := HL.out.g; have b1 := hs.rows; have b2 := hs.bias; have b3 := hs.kern; have b4 := hs.grs; omega
 have HNB := zmZ hnb5
 clear hnb5
 have slr := h.rows.sl
 have slg := h.grs.sl
 rw [← HL.out.r] at slr
 rw [← HL.out.g] at slg
 have hszr := zb9
 have hszg := zbt
 have hszi := zaF
 have hadd := za3
 have HE := zmZ (layL l nr nb nk ng (((LaD.old l w h)).and ((LaD.iffR h))))
 have c := Env.c1 HE.out
 clear h hs
 unfold lA
 go_enter Tryz.func63, Tryz.ntmps63
 go_upto_region 1 with fail
 go_cut [7] from 16 to 53 (fun v7 wx => ∃ S : Bool, v7 = .bool S ∧ Hid (S = false ↔ zov l) ∧ Hid (Env w [⟨w.heap.size, 36, #[.int .u8 l.kind, .slice l.Ar nr l.cr, .slice l.Ab nb l.cb, .int .i64 l.ch, .int .i64 l.high, .int .i64 l.wide, .int .i64 l.out, .int .i64 l.kh, .int .i64 l.kw, .int .i64 l.st, .int .i64 l.pad, .slice l.Ak nk l.ck, .slice l.Ag ng l.cg]⟩] (fun V => LaD n l V ∧ LaI w l V) (fun _ => True) wx))
 case first =>
  by_cases z0 : l.ch = 0
  ·have hsk := trivial
   clear hsk
   have b0 := zn8 z0
   have Z0 := zmZ z0
   clear z0
   by_cases z1 : l.high = 0
   ·have hsk := trivial
    clear hsk
    have b1 := zn8 z1
    have Z1 := zmZ z1
    clear z1
    by_cases z2 : l.wide = 0
    ·have hsk := trivial
     clear hsk
     have b2 := zn8 z2
     have Z2 := zmZ z2
     clear z2
     by_cases z3 : l.out = 0
     ·have hsk := trivial
      clear hsk
      have b3 := zn8 z3
      have Z3 := zmZ z3
      clear z3
      by_cases z4 : l.kh = 0
      ·have hsk := trivial
       clear hsk
       have b4 := zn8 z4
       have Z4 := zmZ z4
       clear z4
       by_cases z5 : l.kw = 0
       ·have hsk := trivial
        clear hsk
        have b5 := zn8 z5
        have Z5 := zmZ z5
        clear z5
        by_cases z6 : l.st = 0
        ·have hsk := trivial
         clear hsk
         have b6 := zn8 z6
         have Z6 := zmZ z6
         clear z6
         by_cases z7 : l.pad = 0
         ·have hsk := trivial
          clear hsk
          have b7 := zn8 z7
          have Z7 := zmZ z7
          clear z7
          go_wp2_with fail
          go_meet
          case rel => exact ⟨false, rfl, zmZ ⟨fun _ => ⟨Z0.out, Z1.out, Z2.out, Z3.out, Z4.out, Z5.out, Z6.out, Z7.out⟩, fun _ => rfl⟩, HE⟩
         ·have b7 := zn7 z7
          have Z7 := zmZ z7
          clear z7
          go_wp2_with fail
          go_meet
          case rel => exact ⟨true, rfl, zmZ ⟨fun h9 => absurd h9 (by decide), fun h9 => absurd (h9.2.2.2.2.2.2.2) Z7.out⟩, HE⟩
        ·have b6 := zn7 z6
         have Z6 := zmZ z6
         clear z6
         go_wp2_with fail
         go_meet
         case rel => exact ⟨true, rfl, zmZ ⟨fun h9 => absurd h9 (by decide), fun h9 => absurd (h9.2.2.2.2.2.2.1) Z6.out⟩, HE⟩
       ·have b5 := zn7 z5
        have Z5 := zmZ z5
        clear z5
        go_wp2_with fail
        go_meet
        case rel => exact ⟨true, rfl, zmZ ⟨fun h9 => absurd h9 (by decide), fun h9 => absurd (h9.2.2.2.2.2.1) Z5.out⟩, HE⟩
      ·have b4 := zn7 z4
       have Z4 := zmZ z4
       clear z4
       go_wp2_with fail
       go_meet
       case rel => exact ⟨true, rfl, zmZ ⟨fun h9 => absurd h9 (by decide), fun h9 => absurd (h9.2.2.2.2.1) Z4.out⟩, HE⟩
     ·have b3 := zn7 z3
      have Z3 := zmZ z3
      clear z3
      go_wp2_with fail
      go_meet
      case rel => exact ⟨true, rfl, zmZ ⟨fun h9 => absurd h9 (by decide), fun h9 => absurd (h9.2.2.2.1) Z3.out⟩, HE⟩
    ·have b2 := zn7 z2
     have Z2 := zmZ z2
     clear z2
     go_wp2_with fail
     go_meet
     case rel => exact ⟨true, rfl, zmZ ⟨fun h9 => absurd h9 (by decide), fun h9 => absurd (h9.2.2.1) Z2.out⟩, HE⟩
   ·have b1 := zn7 z1
    have Z1 := zmZ z1
    clear z1
    go_wp2_with fail
    go_meet
    case rel => exact ⟨true, rfl, zmZ ⟨fun h9 => absurd h9 (by decide), fun h9 => absurd (h9.2.1) Z1.out⟩, HE⟩
  ·have b0 := zn7 z0
   have Z0 := zmZ z0
   clear z0
   go_wp2_with fail
   go_meet
   case rel => exact ⟨true, rfl, zmZ ⟨fun h9 => absurd h9 (by decide), fun h9 => absurd (h9.1) Z0.out⟩, HE⟩
 case rest =>
  clear HE c
  obtain ⟨S, rfl, HS, HE⟩ := hcut
  have c := Env.c1 HE.out
  go_wp2_with fail
  refine (zna _ n (by omega) h1n l.Ab l.cb l.bias HE.out.o.1.bias (by have := Hs.out.bias; omega) nb HL.out.b).mono ?_
  rintro e w1 ⟨⟨B1, rfl, hB⟩, hb⟩
  have HB1 := zmZ (hB.trans ⟨fun h p hp => (HE.out.o.2.bias p hp).1 (h p hp), fun h p hp => (HE.out.o.2.bias p hp).2 (h p hp)⟩)
  replace HE := zmZ (Env.call HE.out hb)
  replace c := Env.c1 HE.out
  clear hB hb
  cases B1
  ·go_wp2_with fail
   go_ret3
   exact Beh10.no (fun hP => absurd (HB1.out.2 hP.elim) (by decide)) HE.out.bel
  ·go_wp2_with fail
   refine (zna _ n (by omega) h1n l.Ak l.ck l.kern HE.out.o.1.kern (by have := Hs.out.kern; omega) nk HL.out.k).mono ?_
   rintro e w2 ⟨⟨B2, rfl, hB⟩, hb⟩
   have HB2 := zmZ (hB.trans ⟨fun h p hp => (HE.out.o.2.kern p hp).1 (h p hp), fun h p hp => (HE.out.o.2.kern p hp).2 (h p hp)⟩)
   replace HE := zmZ (Env.call HE.out hb)
   replace c := Env.c1 HE.out
   clear hB hb
   cases B2
   ·go_wp2_with fail
    go_ret3
    exact Beh10.no (fun hP => absurd (HB2.out.2 hP.elim) (by decide)) HE.out.bel
   ·have HX1 := zmZ (HB1.out.1 (by first | rfl | trivial))
    have HX2 := zmZ (HB2.out.1 (by first | rfl | trivial))
    clear HB1 HB2
    go_wp2_with fail
    go_ret3
    exact Beh10.no (fun hP => hP) HE.out.bel

theorem Beh10.iff {P Q : Prop} {u t : Int} {e : Ending} (hPQ : P ↔ Q) (h : Beh10 P u t e) : Beh10 Q u t e := by
 rcases h with ⟨h1, h2⟩ | ⟨h1, h2⟩
 ·exact .inl ⟨hPQ.1 h1, h2⟩
 ·exact .inr ⟨fun h => h1 (hPQ.2 h), h2⟩
set_option maxRecDepth 100000 in
theorem zqP (w : World) (n : Nat) (hn : n ≤ 20) (h1n : 1 ≤ n) (l : LaV) (N : Int) (h : LaD n l w) (hs : LaT l) (nr nb nk ng : Nat) (HL : Hid (Lens l nr nb nk ng)) (hkd : l.kind = 4) : Calls Tryz.prog 63 #[lA l nr nb nk ng, .int .i64 N] w fun e w' => Beh10 (PoolP l N) ng (grS l.grs) e ∧ Below w.heap.size w w' := by
 have e0 : (l.kind == 1) = false := by simp; omega
 have e1 : (l.kind == 2) = false := by simp; omega
 have e2 : (l.kind == 3) = false := by simp; omega
 have e3 : (l.kind == 4) = true := by simp [hkd]
 clear hkd
 have Hs := zmZ hs
 have hnb5 : nr ≤ 100000 ∧ nb ≤ 100000 ∧ nk ≤ 100000 ∧ ng ≤ 100000 := by have a1 := HL.out.r; have a2 := HL.out.b; have a3 := HL.out.k; have a4 := HL.out.g; have b1 := hs.rows; have b2 := hs.bias; have b3 := hs.kern; have b4 := hs.grs; omega
 have HNB := zmZ hnb5
 clear hnb5
 have slr := h.rows.sl
 have slg := h.grs.sl
 rw [← HL.out.r] at slr
 rw [← HL.out.g] at slg
 have hszr := zb9
 have hszg := zbt
 have hszi := zaF
 have hadd := za3
 have HE := zmZ (layL l nr nb nk ng (((LaD.old l w h)).and ((LaD.iffR h))))
 have c := Env.c1 HE.out
 clear h hs
 unfold lA
 go_enter Tryz.func63, Tryz.ntmps63
 go_upto_region 1 with fail
 go_cut [7] from 16 to 53 (fun v7 wx => ∃ S : Bool, v7 = .bool S ∧ Hid (S = false ↔ zov l) ∧ Hid (Env w [⟨w.heap.size, 36, #[.int .u8 l.kind, .slice l.Ar nr l.cr, .slice l.Ab nb l.cb, .int .i64 l.ch, .int .i64 l.high, .int .i64 l.wide, .int .i64 l.out, .int .i64 l.kh, .int .i64 l.kw, .int .i64 l.st, .int .i64 l.pad, .slice l.Ak nk l.ck, .slice l.Ag ng l.cg]⟩] (fun V => LaD n l V ∧ LaI w l V) (fun _ => True) wx))
 case first =>
  by_cases z0 : l.ch = 0
  ·have hsk := trivial
   clear hsk
   have b0 := zn8 z0
   have Z0 := zmZ z0
   clear z0
   by_cases z1 : l.high = 0
   ·have hsk := trivial
    clear hsk
    have b1 := zn8 z1
    have Z1 := zmZ z1
    clear z1
    by_cases z2 : l.wide = 0
    ·have hsk := trivial
     clear hsk
     have b2 := zn8 z2
     have Z2 := zmZ z2
     clear z2
     by_cases z3 : l.out = 0
     ·have hsk := trivial
      clear hsk
      have b3 := zn8 z3
      have Z3 := zmZ z3
      clear z3
      by_cases z4 : l.kh = 0
      ·have hsk := trivial
       clear hsk
       have b4 := zn8 z4
       have Z4 := zmZ z4
       clear z4
       by_cases z5 : l.kw = 0
       ·have hsk := trivial
        clear hsk
        have b5 := zn8 z5
        have Z5 := zmZ z5
        clear z5
        by_cases z6 : l.st = 0
        ·have hsk := trivial
         clear hsk
         have b6 := zn8 z6
         have Z6 := zmZ z6
         clear z6
         by_cases z7 : l.pad = 0
         ·have hsk := trivial
          clear hsk
          have b7 := zn8 z7
          have Z7 := zmZ z7
          clear z7
          go_wp2_with fail
          go_meet
          case rel => exact ⟨false, rfl, zmZ ⟨fun _ => ⟨Z0.out, Z1.out, Z2.out, Z3.out, Z4.out, Z5.out, Z6.out, Z7.out⟩, fun _ => rfl⟩, HE⟩
         ·have b7 := zn7 z7
          have Z7 := zmZ z7
          clear z7
          go_wp2_with fail
          go_meet
          case rel => exact ⟨true, rfl, zmZ ⟨fun h9 => absurd h9 (by decide), fun h9 => absurd (h9.2.2.2.2.2.2.2) Z7.out⟩, HE⟩
        ·have b6 := zn7 z6
         have Z6 := zmZ z6
         clear z6
         go_wp2_with fail
         go_meet
         case rel => exact ⟨true, rfl, zmZ ⟨fun h9 => absurd h9 (by decide), fun h9 => absurd (h9.2.2.2.2.2.2.1) Z6.out⟩, HE⟩
       ·have b5 := zn7 z5
        have Z5 := zmZ z5
        clear z5
        go_wp2_with fail
        go_meet
        case rel => exact ⟨true, rfl, zmZ ⟨fun h9 => absurd h9 (by decide), fun h9 => absurd (h9.2.2.2.2.2.1) Z5.out⟩, HE⟩
      ·have b4 := zn7 z4
       have Z4 := zmZ z4
       clear z4
       go_wp2_with fail
       go_meet
       case rel => exact ⟨true, rfl, zmZ ⟨fun h9 => absurd h9 (by decide), fun h9 => absurd (h9.2.2.2.2.1) Z4.out⟩, HE⟩
     ·have b3 := zn7 z3
      have Z3 := zmZ z3
      clear z3
      go_wp2_with fail
      go_meet
      case rel => exact ⟨true, rfl, zmZ ⟨fun h9 => absurd h9 (by decide), fun h9 => absurd (h9.2.2.2.1) Z3.out⟩, HE⟩
    ·have b2 := zn7 z2
     have Z2 := zmZ z2
     clear z2
     go_wp2_with fail
     go_meet
     case rel => exact ⟨true, rfl, zmZ ⟨fun h9 => absurd h9 (by decide), fun h9 => absurd (h9.2.2.1) Z2.out⟩, HE⟩
   ·have b1 := zn7 z1
    have Z1 := zmZ z1
    clear z1
    go_wp2_with fail
    go_meet
    case rel => exact ⟨true, rfl, zmZ ⟨fun h9 => absurd h9 (by decide), fun h9 => absurd (h9.2.1) Z1.out⟩, HE⟩
  ·have b0 := zn7 z0
   have Z0 := zmZ z0
   clear z0
   go_wp2_with fail
   go_meet
   case rel => exact ⟨true, rfl, zmZ ⟨fun h9 => absurd h9 (by decide), fun h9 => absurd (h9.1) Z0.out⟩, HE⟩
 case rest =>
  clear HE c
  obtain ⟨S, rfl, HS, HE⟩ := hcut
  have c := Env.c1 HE.out
  go_wp2_with fail
  refine (zna _ n (by omega) h1n l.Ab l.cb l.bias HE.out.o.1.bias (by have := Hs.out.bias; omega) nb HL.out.b).mono ?_
  rintro e w1 ⟨⟨B1, rfl, hB⟩, hb⟩
  have HB1 := zmZ (hB.trans ⟨fun h p hp => (HE.out.o.2.bias p hp).1 (h p hp), fun h p hp => (HE.out.o.2.bias p hp).2 (h p hp)⟩)
  replace HE := zmZ (Env.call HE.out hb)
  replace c := Env.c1 HE.out
  clear hB hb
  cases B1
  ·go_wp2_with fail
   go_ret3
   exact Beh10.no (fun hP => absurd (HB1.out.2 (by rw [hP.r.2]; simp)) (by decide)) HE.out.bel
  ·go_wp2_with fail
   refine (zna _ n (by omega) h1n l.Ak l.ck l.kern HE.out.o.1.kern (by have := Hs.out.kern; omega) nk HL.out.k).mono ?_
   rintro e w2 ⟨⟨B2, rfl, hB⟩, hb⟩
   have HB2 := zmZ (hB.trans ⟨fun h p hp => (HE.out.o.2.kern p hp).1 (h p hp), fun h p hp => (HE.out.o.2.kern p hp).2 (h p hp)⟩)
   replace HE := zmZ (Env.call HE.out hb)
   replace c := Env.c1 HE.out
   clear hB hb
   cases B2
   ·go_wp2_with fail
    go_ret3
    exact Beh10.no (fun hP => absurd (HB2.out.2 (by rw [hP.p.1]; simp)) (by decide)) HE.out.bel
   ·have HX1 := zmZ (HB1.out.1 (by first | rfl | trivial))
    have HX2 := zmZ (HB2.out.1 (by first | rfl | trivial))
    clear HB1 HB2
    go_upto_region 24 with fail
    cases S
    ·have HZ := zmZ (HS.out.1 rfl)
     obtain ⟨s1, hs1⟩ : ∃ a, a = nr + nb := ⟨_, rfl⟩
     obtain ⟨s2, hs2⟩ : ∃ a, a = s1 + nk := ⟨_, rfl⟩
     have hnb9 := HNB.out
     have u1 := nadd hs1 (by omega)
     have u2 := nadd hs2 (by omega)
     have Hsum := zmZ (show s2 = nr + nb + nk by omega)
     clear hs1 hs2 hnb9
     by_cases q0 : 0 < s2
     ·have H0 := zmZ q0
      go_wp2_with fail
      go_ret3
      exact Beh10.no (fun hP => by have h1 := zd2 HL.out.r |>.1 hP.r.1; have h2 := zd2 HL.out.b |>.1 hP.r.2; have h3 := zd2 HL.out.k |>.1 hP.p.1; have h4 := H0.out; have h5 := Hsum.out; omega) HE.out.bel
     ·have H0 := zmZ q0
      by_cases q1 : ng < 1
      ·have H1 := zmZ q1
       go_wp2_with fail
       go_ret3
       exact Beh10.no (fun hP => hP.g ((zd2 HL.out.g).2 (by have := H1.out; omega))) HE.out.bel
      ·have H1 := zmZ q1
       go_wp2_with fail
       clear q0 q1 u1 u2 c
       go_loopw [8, 13] (fun tv iv wr => ∃ i : Nat, tv = .int .i64 (grS (l.grs.take i)) ∧ iv = .int .i64 (i : Int) ∧ i ≤ ng ∧ Hid (∀ g ∈ l.grs.take i, GrP N g) ∧ Hid (Env w [⟨w.heap.size, 36, #[.int .u8 l.kind, .slice l.Ar nr l.cr, .slice l.Ab nb l.cb, .int .i64 l.ch, .int .i64 l.high, .int .i64 l.wide, .int .i64 l.out, .int .i64 l.kh, .int .i64 l.kw, .int .i64 l.st, .int .i64 l.pad, .slice l.Ak nk l.ck, .slice l.Ag ng l.cg]⟩] (fun V => LaD n l V ∧ LaI w l V) (fun _ => True) wr)) (fun _ iv _ => ng - (intOf iv).toNat)
       case atStart => exact ⟨0, rfl, rfl, Nat.zero_le _, zmZ (by simp), HE⟩
       case round =>
        clear HE
        obtain ⟨i, rfl, rfl, hi, HP, HE⟩ := hrel
        have c := Env.c1 HE.out
        have hng9 := HNB.out
        by_cases hlt : i < ng
        ·have hlt2 : i < l.grs.length := by rw [← HL.out.g]; exact hlt
         have c0 := HE.out.o.1.grs.gc i hlt2
         have Hsm := zmZ (show grS (l.grs.take i) + ((l.grs[i]).l.length : Int) = grS (l.grs.take (i + 1)) from (zf4 hlt2).symm)
         have Hsb := zmZ (zjS (gs := l.grs.take (i + 1)) fun v hm => Hs.out.gr v (List.mem_of_mem_take hm))
         obtain ⟨g, hg⟩ : ∃ g, g = l.grs[i] := ⟨_, rfl⟩
         rw [← hg] at c0 Hsm
         have Hg := zmZ hg
         have Hm := zmZ (show g ∈ l.grs by rw [hg]; exact List.getElem_mem hlt2)
         clear hg
         have hgl := Hs.out.gr g Hm.out
         have slgg := (HE.out.o.1.grs.ok g Hm.out : grD g wr).sl
         obtain ⟨gn, hgn⟩ : ∃ k, k = g.l.length := ⟨_, rfl⟩
         rw [← hgn] at c0 Hsm hgl slgg
         have Hgn := zmZ hgn
         clear hgn
         by_cases q2 : gn < 1
         ·have H2 := zmZ q2
          go_wp2_with fail
          go_ret3
          exact Beh10.no (fun hP => by have h9 := (hP.eg g Hm.out).1; exact h9 ((zd2 Hgn.out).2 (by have := H2.out; omega))) HE.out.bel
         ·have H2 := zmZ q2
          go_wp2_with fail
          clear q2 c c0
          go_loopw [15] (fun kv wr => ∃ (k : Nat) (y : Int), kv = .int .i64 (k : Int) ∧ k ≤ gn ∧ Hid (RisI N (-1) g.l ↔ RisI N y (g.l.drop k)) ∧ Hid ((k = 0 ∧ y = -1) ∨ (0 < k ∧ 0 ≤ y ∧ g.l[k - 1]? = some y)) ∧ Hid (Env w [⟨w.heap.size, 36, #[.int .u8 l.kind, .slice l.Ar nr l.cr, .slice l.Ab nb l.cb, .int .i64 l.ch, .int .i64 l.high, .int .i64 l.wide, .int .i64 l.out, .int .i64 l.kh, .int .i64 l.kw, .int .i64 l.st, .int .i64 l.pad, .slice l.Ak nk l.ck, .slice l.Ag ng l.cg]⟩] (fun V => LaD n l V ∧ LaI w l V) (fun _ => True) wr)) (fun kv _ => gn - (intOf kv).toNat)
          case atStart => exact ⟨0, -1, rfl, Nat.zero_le _, zmZ Iff.rfl, zmZ (.inl ⟨rfl, rfl⟩), HE⟩
          case round =>
           clear HE
           obtain ⟨k, y, rfl, hk, HG1, HY, HE⟩ := hrel
           have c := Env.c1 HE.out
           by_cases hlk : k < gn
           ·have hlk2 : k < g.l.length := by rw [← Hgn.out]; exact hlk
            have cz := (HE.out.o.1.grs.ok g Hm.out : grD g _).ic k hlk2
            obtain ⟨z, hz⟩ : ∃ z, g.l[k] = z := ⟨_, rfl⟩
            rw [hz] at cz
            have Hz := zmZ hz
            clear hz
            by_cases q3 : z < 0
            ·go_upto_region 35 with fail
             have Q3 := zmZ q3
             have q3b : decide (z < 0) = true := decide_eq_true q3
             go_quiet (fail)
             go_wp2_with fail
             go_ret3
             exact Beh10.no (fun hP => absurd (HG1.out.1 (zfF.1 (hP.eg g Hm.out)).2) (by rw [zh8 hlk2, Hz.out]; intro h9; have h8 := h9.1; have h7 := Q3.out; have h6 := HY.out; omega)) (by (first | exact HE.out.bel | exact (HE.out.drewN _).bel))
            ·by_cases q4 : z ≥ N
             ·go_upto_region 35 with fail
              have Q4 := zmZ q4
              have q3b : decide (z < 0) = false := decide_eq_false q3
              have q4b : decide (z ≥ N) = true := decide_eq_true q4
              go_quiet (fail)
              go_wp2_with fail
              go_ret3
              exact Beh10.no (fun hP => absurd (HG1.out.1 (zfF.1 (hP.eg g Hm.out)).2) (by rw [zh8 hlk2, Hz.out]; intro h9; have h8 := h9.1; have h7 := Q4.out; omega)) (by (first | exact HE.out.bel | exact (HE.out.drewN _).bel))
             ·have Q3 := zmZ q3
              have Q4 := zmZ q4
              have q3b : decide (z < 0) = false := decide_eq_false q3
              have q4b : decide (z ≥ N) = false := decide_eq_false q4
              rcases Nat.eq_zero_or_pos k with hk0 | hk0
              ·have HK0 := zmZ hk0
               have hk1 : ¬ 0 < k := by omega
               clear hk0
               have hy9 : y = -1 := by rcases HY.out with ⟨-, h9⟩ | ⟨h9, -⟩; exact h9; exact absurd h9 hk1
               have HY9 := zmZ hy9
               clear hy9
               have hk2 : decide (0 < k) = false := decide_eq_false hk1
               go_upto_region 35 with fail
               have HG2 := zmZ (HG1.out.trans ((zh8 hlk2).trans ⟨fun h9 => h9.2, fun h9 => ⟨by rw [Hz.out]; have h7 := HY9.out; have h6 := Q3.out; have h5 := Q4.out; omega, h9⟩⟩))
               rw [Hz.out] at HG2
               go_quiet (fail)
               go_wp2_with fail
               go_roundw
               case rel => exact ⟨k + 1, z, by go_num, by omega, HG2, zmZ (.inr ⟨by omega, by omega, by rw [Nat.add_sub_cancel, List.getElem?_eq_getElem hlk2, Hz.out]⟩), zmZ (HE.out.drewN _)⟩
               case measure => (simp [intOf] <;> omega)
              ·have hy9 : 0 ≤ y ∧ g.l[k - 1]? = some y := by rcases HY.out with ⟨h9, -⟩ | ⟨-, h9⟩; omega; exact h9
               have hkm : k - 1 < g.l.length := by omega
               have cy := (HE.out.o.1.grs.ok g Hm.out : grD g _).ic (k - 1) hkm
               have hy8 : g.l[k - 1] = y := by have h9 := hy9.2; rw [List.getElem?_eq_getElem hkm] at h9; simpa using h9
               rw [hy8] at cy
               have HY9 := zmZ hy9
               obtain ⟨m, hm9⟩ : ∃ m, k = m + 1 := ⟨k - 1, by omega⟩
               have hwk : IntKind.i64.wrap ((k : Int) - 1) = (m : Int) := by rw [zad (by omega)]; omega
               have hkm1 : k - 1 = m := by omega
               rw [hkm1] at cy
               have hmn : m < gn := by omega
               have hmn2 : (m : Int) < (gn : Int) := by omega
               have hk2 : decide (0 < k) = true := decide_eq_true hk0
               clear hy9 hy8 hm9 hkm1 hkm
               by_cases q5 : z ≤ y
               ·have Q5 := zmZ q5
                have q5b : decide (z ≤ y) = true := decide_eq_true q5
                go_upto_region 35 with fail
                go_quiet (fail)
                go_wp2_with fail
                go_ret3
                exact Beh10.no (fun hP => absurd (HG1.out.1 (zfF.1 (hP.eg g Hm.out)).2) (by rw [zh8 hlk2, Hz.out]; intro h9; have h8 := h9.1; have h7 := Q5.out; omega)) (by (first | exact HE.out.bel | exact (HE.out.drewN _).bel))
               ·have Q5 := zmZ q5
                have q5b : decide (z ≤ y) = false := decide_eq_false q5
                go_upto_region 35 with fail
                have HG2 := zmZ (HG1.out.trans ((zh8 hlk2).trans ⟨fun h9 => h9.2, fun h9 => ⟨by rw [Hz.out]; have h7 := Q5.out; have h5 := Q4.out; omega, h9⟩⟩))
                rw [Hz.out] at HG2
                go_quiet (fail)
                go_wp2_with fail
                go_roundw
                case rel => exact ⟨k + 1, z, by go_num, by omega, HG2, zmZ (.inr ⟨by omega, by omega, by rw [Nat.add_sub_cancel, List.getElem?_eq_getElem hlk2, Hz.out]⟩), zmZ (HE.out.drewN _)⟩
                case measure => (simp [intOf] <;> omega)
           ·obtain rfl : k = gn := by omega
            have HR := zmZ (show GrP N g from zfF.2 ⟨by rw [← Hgn.out]; have := H2.out; omega, HG1.out.2 (by rw [Hgn.out, List.drop_length]; trivial)⟩)
            have hwt : IntKind.i64.wrap (grS (l.grs.take i) + (k : Int)) = grS (l.grs.take (i + 1)) := by
             rw [Hsm.out]
             refine zad ⟨Hsb.out.1, ?_⟩
             have h9 := Hsb.out.2
             rw [List.length_take] at h9
             omega
            go_wp2_with fail
            go_roundw
            case rel => exact ⟨i + 1, rfl, by go_num, by omega, zmZ (zaB HP.out hlt2 (by rw [← Hg.out]; exact HR.out)), HE⟩
            case measure => (simp [intOf] <;> omega)
        ·obtain rfl : i = ng := by omega
         have HP2 := zmZ (show ∀ v ∈ l.grs, GrP N v by have := HP.out; rw [HL.out.g, List.take_length] at this; exact this)
         have Hve := zmZ (show grS (l.grs.take i) = grS l.grs by rw [HL.out.g, List.take_length])
         rw [Hve.out]
         go_wp2_with fail
         go_ret3
         exact ⟨.inl ⟨⟨⟨(zd2 HL.out.k).2 (by have := H0.out; have := Hsum.out; omega), HZ.out⟩, ⟨(zd2 HL.out.r).2 (by have := H0.out; have := Hsum.out; omega), (zd2 HL.out.b).2 (by have := H0.out; have := Hsum.out; omega)⟩, fun h9 => by have h8 := (zd2 HL.out.g).1 h9; have := H1.out; omega, HP2.out⟩, rfl⟩, HE.out.bel⟩
    ·have HZ := zmZ (show ¬ zov l from fun h9 => absurd (HS.out.2 h9) (by decide))
     go_wp2_with fail
     go_ret3
     exact Beh10.no (fun hP => HZ.out hP.p.2) HE.out.bel
theorem zot (w : World) (n : Nat) (hn : n ≤ 20) (h1n : 1 ≤ n) (l : LaV) (N : Int) (h : LaD n l w) (hs : LaT l) (nr nb nk ng : Nat) (HL : Hid (Lens l nr nb nk ng)) : Calls Tryz.prog 63 #[lA l nr nb nk ng, .int .i64 N] w fun e w' => Beh10 (Fits w l N) (zae l N) (zay l) e ∧ Below w.heap.size w w' := by
 unfold zae zay
 by_cases k1 : l.kind = 1
 ·have hiff : AffP w l N ↔ Fits w l N := ⟨fun h => .inl ⟨k1, h⟩, fun h => by rcases h with ⟨-, h⟩ | ⟨h, -⟩ | ⟨h, -⟩ | ⟨h, -⟩ <;> first | exact h | omega⟩
  rw [if_pos k1, if_pos k1, ← HL.out.r]
  exact (zqH w n hn h1n l N h hs nr nb nk ng HL k1).mono fun e w' he => ⟨he.1.iff hiff, he.2⟩
 ·by_cases k2 : l.kind = 2
  ·have hiff : ConvP w l N ↔ Fits w l N := ⟨fun h => .inr (.inl ⟨k2, h⟩), fun h => by rcases h with ⟨h, -⟩ | ⟨-, h⟩ | ⟨h, -⟩ | ⟨h, -⟩ <;> first | exact h | omega⟩
   rw [if_neg k1, if_neg k1, if_pos k2, if_pos k2]
   exact (zqZ w n hn h1n l N h hs nr nb nk ng HL k2).mono fun e w' he => ⟨he.1.iff hiff, he.2⟩
  ·by_cases k3 : l.kind = 3
   ·have hiff : (zap l ∧ l.rows = [] ∧ l.bias = [] ∧ l.grs = []) ↔ Fits w l N := ⟨fun h => .inr (.inr (.inl ⟨k3, h⟩)), fun h => by rcases h with ⟨h, -⟩ | ⟨h, -⟩ | ⟨-, h⟩ | ⟨h, -⟩ <;> first | exact h | omega⟩
    rw [if_neg k1, if_neg k1, if_neg k2, if_neg k2, if_pos k3, if_pos k3]
    exact (zqN w n hn h1n l N h hs nr nb nk ng HL k3).mono fun e w' he => ⟨he.1.iff hiff, he.2⟩
   ·rw [if_neg k1, if_neg k1, if_neg k2, if_neg k2, if_neg k3, if_neg k3, ← HL.out.g]
    by_cases k4 : l.kind = 4
    ·have hiff : PoolP l N ↔ Fits w l N := ⟨fun h => .inr (.inr (.inr ⟨k4, h⟩)), fun h => by rcases h with ⟨h, -⟩ | ⟨h, -⟩ | ⟨h, -⟩ | ⟨-, h⟩ <;> first | exact h | omega⟩
     exact (zqP w n hn h1n l N h hs nr nb nk ng HL k4).mono fun e w' he => ⟨he.1.iff hiff, he.2⟩
    ·refine (zr6 w n hn h1n l N h hs nr nb nk ng HL (by omega)).mono fun e w' he => ?_
     obtain ⟨⟨h1, -⟩ | ⟨-, a, b, rfl⟩, hb⟩ := he
     ·exact h1.elim
     ·exact Beh10.no (fun h9 => by rcases h9 with ⟨h, -⟩ | ⟨h, -⟩ | ⟨h, -⟩ | ⟨h, -⟩ <;> omega) hb

theorem Beh10.yes {P : Prop} {u t : Int} {e : Ending} (h : Beh10 P u t e) (hP : P) : e = .returned (.tuple #[.int .i64 u, .int .i64 t, .bool true]) := by
 rcases h with ⟨-, h⟩ | ⟨h, -⟩
 ·exact h
 ·exact absurd hP h
theorem Beh10.not {P : Prop} {u t : Int} {e : Ending} (h : Beh10 P u t e) (hP : ¬ P) : ∃ a b, e = .returned (.tuple #[.int .i64 a, .int .i64 b, .bool false]) := by
 rcases h with ⟨h, -⟩ | ⟨-, h⟩
 ·exact absurd h hP
 ·exact h
structure NeT (f : NeV) : Prop where
 n : f.las.length ≤ 100000
 la : ∀ l ∈ f.las, LaT l
theorem NeT.s {f : NeV} (h : NeT f) : NeS f := ⟨h.n, fun l hl => (h.la l hl).toLaS⟩
set_option maxRecDepth 100000 in
theorem zoY (w : World) (n : Nat) (hn : n ≤ 20) (h1n : 1 ≤ n) (f : NeV) (h : NeD n f w) (hs : NeT f) (nl : Nat) (hnl : nl = f.las.length) : Calls Tryz.prog 37 #[.agg #[.int .i64 f.inputs, .slice f.A nl f.c]] w (SizRes f w) := by
 have Hl := zmZ hnl
 have Hs := zmZ hs
 have Hw := zmZ h
 have sl1 := h.sl
 rw [← hnl] at sl1
 have hsz1 := zb5
 have hszi := zaF
 have hadd := za3
 have hnlb : nl ≤ 100000 := by have := hs.n; omega
 obtain ⟨W0, hW0⟩ : ∃ W0, W0 = (w.alloc (.cells #[.int .i64 f.inputs, .slice f.A nl f.c] 24)) := ⟨_, rfl⟩
 have HE := zmZ (Env.lay1 (Env.start (h.old)) hW0)
 subst hW0
 have c := Env.c1 HE.out
 clear h hs hnl
 go_enter Tryz.func37, Tryz.ntmps37
 go_upto_region 1 with fail
 by_cases q0 : f.inputs < 1
 ·have H0 := zmZ q0
  go_wp2_with fail
  go_ret2
  exact SizRes.err (by decide) (.inl ⟨fun h => by have := h.1; have := H0.out; omega, rfl⟩) HE.out.bel
 ·have H0 := zmZ q0
  by_cases q1 : f.inputs > 64
  ·have H1 := zmZ q1
   go_wp2_with fail
   go_ret2
   exact SizRes.err (by decide) (.inl ⟨fun h => by have := h.2.1; have := H1.out; omega, rfl⟩) HE.out.bel
  ·have H1 := zmZ q1
   by_cases q2 : 16 < nl
   ·have H2 := zmZ q2
    go_wp2_with fail
    go_ret2
    exact SizRes.err (by decide) (.inl ⟨fun h => by have := h.2.2; have := H2.out; have := Hl.out; omega, rfl⟩) HE.out.bel
   ·have H2 := zmZ q2
    have Hz := zmZ (show zfc f from by have := H0.out; have := H1.out; have := H2.out; have := Hl.out; unfold zfc; omega)
    go_upto_region 7 with fail
    clear q0 q1 q2
    have HG := zmZ ((GL.start HE.out).addb 3 #[.int .i64 f.inputs])
    have hsw : (w.alloc (.cells #[.int .i64 f.inputs, .slice f.A nl f.c] 24)).heap.size = w.heap.size + 1 := by simp
    rw [hsw] at HG
    clear hsw HE c
    go_loopw [4, 5, 6, 7] (fun ov uv sv iv wr => ∃ (Ao : Option Addr) (co i : Nat) (us : List Int) (N s : Int), ov = .slice Ao us.length co ∧ uv = .int .i64 N ∧ sv = .int .i64 s ∧ iv = .int .i64 (i : Int) ∧ i ≤ nl ∧ Hid (SzI w f i N s us) ∧ Hid (GL w [⟨3, 1, .slice Ao us.length co, us.map icells⟩] (fun V => (∀ b ∈ [(⟨w.heap.size, 24, #[.int .i64 f.inputs, .slice f.A nl f.c]⟩ : Bo)], Blk V b.g b.t b.cs) ∧ NeD n f V) (fun _ => True) wr)) (fun _ _ _ iv _ => nl - (intOf iv).toNat)
    case atStart => exact ⟨_, _, 0, [f.inputs], f.inputs, 0, rfl, rfl, rfl, rfl, Nat.zero_le _, zmZ (SzI.start w f Hz.out), HG⟩
    case round =>
     clear HG
     obtain ⟨Ao, co, i, us, N, s, rfl, rfl, rfl, rfl, hi, HI, HG⟩ := hrel
     have cf := Blk.cb (HG.out.o.1 _ (List.mem_singleton_self _))
     by_cases hlt : i < nl
     ·have hlt2 : i < f.las.length := by rw [← Hl.out]; exact hlt
      have HE := zmZ HG.out.env
      have cl := HE.out.o.1.2.lac i hlt2
      have HY := zmZ (fun h1 h2 => SzI.next HI.out hlt2 h1 (Hs.out.la _ (List.getElem_mem hlt2)).toLaS h2)
      have HN := zmZ (fun h1 => SzI.no HI.out hlt2 h1)
      have HB := zmZ (fun h1 h2 => SzI.big HI.out hlt2 h1 h2)
      have Hbb := zmZ (fun (h1 : Fits w (f.las[i]'hlt2) N) => zlX (w := w) (l := f.las[i]'hlt2) h1 (Hs.out.la _ (List.getElem_mem hlt2)).toLaS HI.out.N)
      have HLd := zmZ (show LaD n f.las[i] w from Hw.out.ok _ (List.getElem_mem hlt2))
      obtain ⟨l, hl⟩ : ∃ l, l = f.las[i] := ⟨_, rfl⟩
      rw [← hl] at cl HY HN HB Hbb HLd
      have Hm := zmZ (show l ∈ f.las by rw [hl]; exact List.getElem_mem hlt2)
      clear hl
      go_wp2_with fail
      refine (zot _ n hn h1n l N (HE.out.o.1.2.ok l Hm.out) (Hs.out.la l Hm.out) _ _ _ _ (zmZ (Lens.of l))).mono ?_
      rintro e w1 ⟨hr, hb⟩
      have HFS := zmZ (Fits.same (n := N) HLd.out HG.out.bel)
      replace HE := zmZ (Env.call HE.out hb)
      clear hb cl cf
      by_cases hF : Fits w l N
      ·have HF := zmZ hF
       have he := hr.yes (HFS.out.2 hF)
       subst he
       clear hF hr
       have hbb := Hbb.out HF.out
       have hI := HI.out.s
       obtain ⟨u, hu⟩ : ∃ u, u = zae l N := ⟨_, rfl⟩
       obtain ⟨t, ht⟩ : ∃ t, t = zay l := ⟨_, rfl⟩
       rw [← hu, ← ht] at hbb HY HB ⊢
       have w1 : IntKind.i64.wrap (s + t) = s + t := zad (by omega)
       clear hu ht hbb hI
       go_upto_region 14 with fail
       by_cases b0 : u > 256
       ·have H9 := zmZ (HB.out HF.out (.inl b0))
        go_wp2_with fail
        go_ret2
        exact SizRes.err (by decide) (.inr ⟨Hz.out, H9.out⟩) (Below.after HG.out.bel HE.out.bel)
       ·by_cases b1 : s + t > 16384
        ·have H9 := zmZ (HB.out HF.out (.inr b1))
         go_wp2_with fail
         go_ret2
         exact SizRes.err (by decide) (.inr ⟨Hz.out, H9.out⟩) (Below.after HG.out.bel HE.out.bel)
        ·have H9 := zmZ (HY.out HF.out (by omega))
         have hus := HI.out.len
         have hi16 := H2.out
         obtain ⟨A', c', w8, hrun, hG⟩ := GL.appI HG.out HE.out u (by omega)
         have Hrun := zmZ hrun
         have HG2 := zmZ hG
         clear hrun hG hus hi16
         go_wp2_with (at_builtin; refine za1 rfl (.tmp 60) (.tmp 62) 46 _ _ _ rfl rfl rfl Hrun.out ?_)
         clear Hrun
         go_wp2_with fail
         go_roundw
         case rel => exact ⟨A', c', i + 1, us ++ [u], u, s + t, by simp, rfl, rfl, by go_num, by omega, H9, zmZ (HG2.out.imp (fun _ h => h) (fun _ _ => trivial))⟩
         case measure => (simp [intOf] <;> omega)
      ·have HF := zmZ hF
       obtain ⟨a9, b9, he⟩ := hr.not (fun h9 => hF (HFS.out.1 h9))
       subst he
       clear hF hr
       have H9 := zmZ (HN.out HF.out)
       go_wp2_with fail
       go_ret2
       exact SizRes.err (by decide) (.inr ⟨Hz.out, H9.out⟩) (Below.after HG.out.bel HE.out.bel)
     ·obtain rfl : i = nl := by omega
      have hI := HI.out
      have hll := Hl.out
      rw [hll] at hI
      have HD := zmZ hI.done
      clear hI hll
      obtain ⟨A', c', hv, hc, hr⟩ := HG.out.tell (cells := icells) (ok := okI) (l := us) (fun V _ _ _ => trivial)
      obtain ⟨rfl, rfl⟩ : Ao = A' ∧ co = c' := by simpa using hv
      have Hr := zmZ hr
      have Hbel := zmZ HG.out.bel
      clear hr hv HG
      go_wp2_with fail
      go_ret2
      exact ⟨Ao, co, us, 0, rfl, .inr ⟨Hz.out, HD.out.1⟩, fun _ => HD.out.2, fun h9 => absurd rfl h9, hc, Hr.out, Hbel.out⟩
end Go.Proofs.YtikmgoefjbhcjaaGreatDoor
