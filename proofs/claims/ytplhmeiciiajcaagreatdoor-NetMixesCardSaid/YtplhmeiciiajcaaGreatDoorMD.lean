/-
 tripwireref10: sameWords, Formed, side. tripwireref10.Pictures. tripwireref10.Behind. tripwireref10.Behind: Relu, Pool, the rest. tripwireref10.Behind: Pool; the whole. tripwireref10.Check. tripwirelow.CopyWords. tripwirelow: CopyRat, SameRat of a copy. Nets as they stand in memory, word by word; tripwirelow: SameInts, SameRats, SameVec, SameVecs, SameGroups, SameLayer, SameNet. tripwirelow: CopyInts, CopyRats, CopyVec, CopyVecs, CopyNet. tripwirelow.CopyNet. tripwireref13.Conv. The plain law of the reference's Affine: what a Conv says of zeros and of a unit. tripwireref14.Affine.
-/
import Derived.Test.YtplhmeiciiajcaaGreatDoorNH
import Derived.Test.YtplhmeiciiajcaaGreatDoorPG
import Derived.Test.YtplhmeiciiajcaaGreatDoorOwn
import Derived.Test.YtplhmeiciiajcaaGreatDoorVal
import Derived.Test.YtplhmeiciiajcaaGreatDoorLowB
import Derived.Test.YtplhmeiciiajcaaGreatDoorEM
import Derived.Test.YtplhmeiciiajcaaGreatDoorNO
import Derived.Deep.DeepMust
import Derived.Deep.DeepCutAuto
namespace Go.Proofs.YtplhmeiciiajcaaGreatDoor
set_option maxHeartbeats 4000000
open Go.RowKit

structure LaT (l : LaV) : Prop extends LaS l where
 row1 : ∀ v ∈ l.rows, v.ts.length ≤ 100
structure Raw (r : RV) (a b : Bool) (l m : List Nat) (V : World) : Prop where
 na : r.num.neg = a
 nk : r.num.k = l.length
 nr : Rd V .u64 r.num.A l
 da : r.den.neg = b
 dk : r.den.k = m.length
 dr : Rd V .u64 r.den.A m
theorem Raw.old {r : RV} {a b : Bool} {l m : List Nat} {V : World} (h : Raw r a b l m V) : Rests V (· < V.heap.size) (Raw r a b l m) :=
 ((rests_rd (F := (· < V.heap.size)) h.nr fun i hi => h.nr.lt i hi).and (rests_rd (F := (· < V.heap.size)) h.dr fun i hi => h.dr.lt i hi)).imp fun _ k => ⟨h.na, h.nk, k.1, h.da, h.dk, k.2⟩
theorem sameInt_r (w : World) (i j : IV) (a : Bool) (l : List Nat) (hl : l.length ≤ 1000000) (h1 : i.neg = a) (h2 : j.neg = a) (h3 : i.k = l.length) (h4 : j.k = l.length) (hi : Rd w .u64 i.A l) (hj : Rd w .u64 j.A l) :
 Calls Tryz.prog 59 #[.agg #[.bool i.neg, .slice i.A i.k i.c], .agg #[.bool j.neg, .slice j.A j.k j.c]] w fun e w' => e = .returned (.bool true) ∧ Below w.heap.size w w' := by
 rw [h1, h2, h3, h4]; exact sameInt_eq w a i.A j.A i.c j.c l (by omega) hi hj
set_option maxRecDepth 100000 in
theorem sameRat_raw (w : World) (r s : RV) (a b : Bool) (l m : List Nat) (hl : l.length ≤ 1000000) (hm : m.length ≤ 1000000) (h : Raw r a b l m w) (h2 : Raw s a b l m w) :
 Calls Tryz.prog 32 #[rA r, rA s] w fun e w' => e = .returned (.bool true) ∧ Below w.heap.size w w' := by
 have HC := Lib.hid (fun (W : World) (k1 : Raw r a b l m W) (k2 : Raw s a b l m W) => (sameInt_r W r.num s.num a l hl k1.na k2.na k1.nk k2.nk k1.nr k2.nr))
 have HD := Lib.hid (fun (W : World) (k1 : Raw r a b l m W) (k2 : Raw s a b l m W) => (sameInt_r W r.den s.den b m hm k1.da k2.da k1.dk k2.dk k1.dr k2.dr))
 have HE := Lib.hid (lyRR r s ((h.old).and (h2.old)))
 have c := Env.c2 HE.out
 have dd := Env.d2 HE.out
 clear h h2
 unfold rA
 go_enter Tryz.func32, Tryz.ntmps32
 go_wp2_with fail
 refine (HC.out _ (by first | exact HE.out.o.1 | exact HE.out.drew.o.1) (by first | exact HE.out.o.2 | exact HE.out.drew.o.2)).mono ?_
 rintro e w1 ⟨rfl, hb⟩
 replace HE := Lib.hid (Env.cx HE.out hb)
 replace c := Env.c2 HE.out
 clear hb
 go_wp2_with fail
 refine (HD.out _ (by first | exact HE.out.o.1 | exact HE.out.drew.o.1) (by first | exact HE.out.o.2 | exact HE.out.drew.o.2)).mono ?_
 rintro e w1 ⟨rfl, hb⟩
 replace HE := Lib.hid (Env.cx HE.out hb)
 replace c := Env.c2 HE.out
 clear hb
 go_wp2_with fail
 go_ret
 exact ⟨rfl, HE.out.bel⟩

structure Wd where
 a : Bool
 b : Bool
 l : List Nat
 m : List Nat
structure RawW (r : RV) (x : Wd) (V : World) : Prop where
 raw : Raw r x.a x.b x.l x.m V
 l : x.l.length ≤ 1000000
 m : x.m.length ≤ 1000000
theorem RawW.old {r : RV} {x : Wd} {V : World} (h : RawW r x V) : Rests V (· < V.heap.size) (RawW r x) := (h.raw.old).imp fun _ k => ⟨k, h.l, h.m⟩
def nwcells (p : RV × Wd) : Array Value := #[.bool p.1.num.neg, .slice p.1.num.A p.1.num.k p.1.num.c, .bool p.1.den.neg, .slice p.1.den.A p.1.den.k p.1.den.c]
def nwD (p : RV × Wd) (V : World) : Prop := RawW p.1 p.2 V
theorem nwD_old (p : RV × Wd) (V : World) (h : nwD p V) : Rests V (· < V.heap.size) (nwD p) := RawW.old h
structure TwV where
 pl : Int
 r : RV
 x : Wd
def twcells (t : TwV) : Array Value := #[.int .i64 t.pl, .bool t.r.num.neg, .slice t.r.num.A t.r.num.k t.r.num.c, .bool t.r.den.neg, .slice t.r.den.A t.r.den.k t.r.den.c]
def twD (t : TwV) (V : World) : Prop := RawW t.r t.x V
theorem twD_old (t : TwV) (V : World) (h : twD t V) : Rests V (· < V.heap.size) (twD t) := RawW.old h
def twq (t : TwV) : Int × Wd := (t.pl, t.x)
structure VwV where
 A : Option Addr
 c : Nat
 ts : List TwV
def vwcells (v : VwV) : Array Value := #[.slice v.A v.ts.length v.c]
def vwD (v : VwV) (V : World) : Prop := LsR 5 twcells twD v.A v.ts V
theorem vwD_old (v : VwV) (V : World) (h : vwD v V) : Rests V (· < V.heap.size) (vwD v) := LsR.old twD_old h
def vwq (v : VwV) : List (Int × Wd) := v.ts.map twq
abbrev LaW := LaG VwV (RV × Wd)
structure LwD (l : LaW) (V : World) : Prop where
 rows : LsR 1 vwcells vwD l.Ar l.rows V
 bias : LsR 4 nwcells nwD l.Ab l.bias V
 kern : LsR 4 nwcells nwD l.Ak l.kern V
 grs : LsR 1 grcells grD l.Ag l.grs V
theorem LwD.old (l : LaW) (V : World) (h : LwD l V) : Rests V (· < V.heap.size) (LwD l) :=
 ((h.rows.old vwD_old).and ((h.bias.old nwD_old).and ((h.kern.old nwD_old).and (h.grs.old grD_old)))).imp fun _ h => ⟨h.1, h.2.1, h.2.2.1, h.2.2.2⟩
structure WQ where
 kind : Int
 rows : List (List (Int × Wd))
 bias : List Wd
 dims : List Int
 kern : List Wd
 grs : List (List Int)
def LaG.wq (l : LaW) : WQ := ⟨l.kind, l.rows.map vwq, l.bias.map Prod.snd, [l.ch, l.high, l.wide, l.out, l.kh, l.kw, l.st, l.pad], l.kern.map Prod.snd, l.grs.map GrV.l⟩
abbrev NeW := NeG VwV (RV × Wd)
def NwD (f : NeW) (V : World) : Prop := LsR 13 lacells LwD f.A f.las V
theorem NwD.old {f : NeW} {w : World} (h : NwD f w) : Rests w (· < w.heap.size) (NwD f) := LsR.old LwD.old h
def NeG.wq (f : NeW) : Int × List WQ := (f.inputs, f.las.map LaG.wq)
theorem LsR.nw {ok : RV × Wd → World → Prop} {A : Option Addr} {l : List (RV × Wd)} {w : World} (h : LsR 4 nwcells ok A l w) (i : Nat) (hi : i < l.length) : RC A i (l[i].1, 0) w := by
 have hc := h.cell i hi
 exact ⟨hc 0 (by decide), hc 1 (by decide), hc 2 (by decide), hc 3 (by decide)⟩
theorem map_at {α β κ : Type} {f : α → κ} {g : β → κ} {l : List α} {m : List β} (e : l.map f = m.map g) : l.length = m.length ∧ ∀ i (h : i < l.length) (h' : i < m.length), f l[i] = g m[i] := by
 have h0 := congrArg List.length e
 simp only [List.length_map] at h0
 refine ⟨h0, fun i h h' => ?_⟩
 have h1 := congrArg (fun x => x[i]?) e
 simpa [h, h'] using h1
theorem sameRat_w (w : World) (r s : RV) (x y : Wd) (e : x = y) (h : RawW r x w) (h2 : RawW s y w) :
 Calls Tryz.prog 32 #[rA r, rA s] w fun e w' => e = .returned (.bool true) ∧ Below w.heap.size w w' := by
 subst e
 exact sameRat_raw w r s x.a x.b x.l x.m h.l h.m h.raw h2.raw
set_option maxRecDepth 100000 in
theorem same_SameRats (w : World) (A B : Option Addr) (c d : Nat) (l m : List (RV × Wd)) (h : LsR 4 nwcells nwD A l w) (h2 : LsR 4 nwcells nwD B m w) (hl : l.length ≤ 1000000) (e : l.map Prod.snd = m.map Prod.snd) (nl nm : Nat) (hnl : nl = l.length) (hnm : nm = m.length) :
 Calls Tryz.prog 14 #[.slice A nl c, .slice B nm d] w fun e w' => e = .returned (.bool true) ∧ Below w.heap.size w w' := by
 obtain ⟨e0, e1⟩ := map_at e
 have hmn : nm = nl := by rw [hnl, hnm, e0]
 subst hmn
 have sl1 := h.sl
 have sl2 := h2.sl
 rw [← hnl] at sl1
 rw [← hnm] at sl2
 have hsz2 := size_rats
 have hadd := adr_add
 have hnb : nm ≤ 1000000 := by omega
 have Hn := Lib.hid hnl
 have Hm := Lib.hid hnm
 have He := Lib.hid e1
 have Ho := Lib.hid ((h.old nwD_old).and (h2.old nwD_old))
 have Hb := Lib.hid (Below.refl w.heap.size w)
 clear h h2 hnl hnm e e0 e1 hl
 go_enter Tryz.func14, Tryz.ntmps14
 go_wp2_with fail
 go_loopw [5] (fun iv wr => ∃ i : Nat, iv = .int .i64 (i : Int) ∧ i ≤ nm ∧ Hid (Below w.heap.size w wr)) (fun iv _ => nm - (intOf iv).toNat)
 case atStart => exact ⟨0, rfl, Nat.zero_le _, Hb⟩
 case round =>
  clear Hb
  obtain ⟨i, rfl, hi, Hb⟩ := hrel
  by_cases hlt : i < nm
  ·have hll : i < l.length := by rw [← Hn.out]; exact hlt
   have hlm : i < m.length := by rw [← Hm.out]; exact hlt
   have HO2 := Lib.hid (Ho.out.below Hb.out).now
   have HE := Lib.hid (Env.start (((HO2.out.1).old nwD_old).and ((HO2.out.2).old nwD_old)))
   have HX := Lib.hid (fun (V : World) (h1 : LsR 4 nwcells nwD A l V) (h2 : LsR 4 nwcells nwD B m V) => And.intro (h1.nw i hll) (h2.nw i hlm))
   have h9 := He.out i hll hlm
   have HP := Lib.hid (fun (V : World) (h1 : LsR 4 nwcells nwD A l V) => h1.ok _ (List.getElem_mem hll))
   have HQ := Lib.hid (fun (V : World) (h1 : LsR 4 nwcells nwD B m V) => h1.ok _ (List.getElem_mem hlm))
   obtain ⟨p, hp⟩ : ∃ p, p = l[i] := ⟨_, rfl⟩
   obtain ⟨q, hq⟩ : ∃ q, q = m[i] := ⟨_, rfl⟩
   rw [← hp] at HX h9 HP
   rw [← hq] at HX h9 HQ
   have H9 := Lib.hid h9
   clear h9 hp hq HO2
   have c := HX.out _ HE.out.o.1 HE.out.o.2
   go_upto_region 6 with fail
   go_region_held3 (fun V => RC A i (p.1, 0) V ∧ RC B i (q.1, 0) V) (first | with_reducible exact c | with_reducible exact HX.out _ HE.out.drew.o.1 HE.out.drew.o.2 | ((repeat' apply And.intro) <;> go_keep) | exact c)
    (first
     | (go_at_call 32; go_must (refine (sameRat_w _ p.1 q.1 p.2 q.2 H9.out (by first | exact HP.out _ HE.out.o.1 | exact HP.out _ HE.out.drew.o.1) (by first | exact HQ.out _ HE.out.o.2 | exact HQ.out _ HE.out.drew.o.2)).mono ?_; rintro e w1 ⟨rfl, hb⟩; replace HE := Lib.hid (Env.cx HE.out hb); replace c := HX.out _ HE.out.o.1 HE.out.o.2; clear hb)))
   go_wp2_with fail
   go_roundw
   case rel => exact ⟨i + 1, by go_num, by omega, Lib.hid (Below.after Hb.out (by first | exact HE.out.bel | exact HE.out.drew.bel))⟩
   case measure => (simp [intOf] <;> omega)
  ·obtain rfl : i = nm := by omega
   go_wp2_with fail
   go_ret
   exact ⟨rfl, Hb.out⟩
structure LwS (l : LaW) : Prop where
 rows : l.rows.length ≤ 1000000
 row : ∀ v ∈ l.rows, v.ts.length ≤ 1000000
 bias : l.bias.length ≤ 1000000
 kern : l.kern.length ≤ 1000000
 grs : l.grs.length ≤ 1000000
 gr : ∀ g ∈ l.grs, g.l.length ≤ 1000000
theorem GL.dropL {w W : World} {ls : List Ow} {old new : World → Prop} {e : TypeId} {sz n c : Nat} {A : Option Addr} {cs : List (Array Value)} (h : GL w (⟨e, sz, .slice A n c, cs⟩ :: ls) old new W) : GL w ls old (fun V => El V sz A cs ∧ new V) W := by
 have ho : OwnE W w.heap.size e sz (.slice A n c) cs := h.own _ (List.mem_cons_self ..)
 have hnd := List.pairwise_cons.1 h.nd
 have hr : Rests W (fun b => (Value.slice A n c).ownBlock = some b) (fun V => El V sz A cs) := ⟨ho.el.1, fun w' hw => (ho.keep (fun b hb e => hw b e hb)).el.1⟩
 exact ⟨fun o ho => h.own o (List.mem_cons_of_mem _ ho), hnd.2, h.rso.mono fun n hn o ho => hn o (List.mem_cons_of_mem _ ho), Rests.and (hr.mono fun b hb => ⟨(ho.lt b hb).1, fun o ho e => hnd.1 o ho b hb e⟩) (h.rsn.mono fun n hn => ⟨hn.1, fun o ho => hn.2 o (List.mem_cons_of_mem _ ho)⟩), h.bel⟩
section
variable {w W : World} {ls : List Ow} {old new : World → Prop}
theorem GL.alb (h : GL w ls old new W) (t : TypeId) (cs : Array Value) : ∃ W' g, W.alloc (.cells cs t) = W' ∧ W.heap.size = g ∧ Hid (GL w (bow g t cs.size cs :: ls) old new W') := ⟨_, _, rfl, rfl, Lib.hid (h.addb t cs)⟩
end
def plC (KH KW H W ST PD R Q k : Nat) : Nat → Option Int := plK KH KW (H : Int) (W : Int) (((k / Q % R * ST : Nat) : Int) - (PD : Int)) (((k % Q * ST : Nat) : Int) - (PD : Int))
def xQ (xs : List Rat) (a : Int) : Rat := (xs[a.toNat]?).getD 0
def convP (KH KW H W ST PD R Q E : Nat) (ks bs xs : List Rat) (k j : Nat) : Rat := biasF R Q bs k + sumK (plC KH KW H W ST PD R Q k) (kq ks E (k / Q / R)) (xQ xs) j
structure CvI (F : Nat → Rat) (k : Nat) (os : List (RV × Rat)) : Prop where
 q : os.map Prod.snd = (List.range k).map F
theorem CvI.len {F : Nat → Rat} {k : Nat} {os : List (RV × Rat)} (h : CvI F k os) : os.length = k := by simpa using congrArg List.length h.q
theorem CvI.next {F : Nat → Rat} {k : Nat} {os : List (RV × Rat)} (h : CvI F k os) {z : RV × Rat} (hz : z.2 = F k) : CvI F (k + 1) (os ++ [z]) := ⟨by rw [List.map_append, h.q, List.range_succ, List.map_append]; simp [hz]⟩
theorem sumK_congr (pl : Nat → Option Int) (K : Nat → Rat) {x y : Int → Rat} : ∀ n, (∀ k a, k < n → pl k = some a → x a = y a) → sumK pl K x n = sumK pl K y n
 | 0, _ => rfl
 | n + 1, h => by
  rw [sumK, sumK, sumK_congr pl K n fun k a hk e => h k a (by omega) e]
  congr 1
  cases e : pl n with
  | none => rfl
  | some a => show K n * x a = K n * y a; rw [h n a (by omega) e]
def zerosX (n : Nat) : List (RV × Rat) := List.replicate n (zeroR, 0)
section
variable {KH KW H W ST PD R Q E : Nat} {ks bs : List Rat}
theorem plC_rise (k : Nat) (K : Nat → Rat) (j : Nat) : (spotQ (plC KH KW H W ST PD R Q k) K j).Pairwise fun x y => x.1 < y.1 := spotQ_rise (fun _ _ _ _ h e e' => plK_lt h e e') _ _
theorem getD_sz {qs : List Rat} {n : Nat} (h1 : 1 ≤ n) (h : ∀ q ∈ qs, Sz q n) (i : Nat) : Sz ((qs[i]?).getD 0) n := by
 cases e : qs[i]? with
 | none => exact sz_zero.up h1
 | some q => exact h q (List.mem_of_getElem? e)
end

theorem make_rats99 (w : World) (L : Nat) (hL : L ≤ 100000) : (Instr.makeSlice 25 (.int .i64 (L : Int)) (.int .i64 (L : Int))).run Tryz.prog w = .ok (.slice (some ⟨w.heap.size, 0, none⟩) L L) (w.alloc (.cells (madeCells ratZ.cells (L * 4)) 30)) := by
 obtain ⟨i0, hi0, hz0, hz1, hz2⟩ := info_parts info_rat
 have h := run_makeSlice (P := Tryz.prog) w 25 30 i0 ratZ under_rats hi0 hz0 .i64 .i64 (L : Int) (L : Int) (by omega) (by omega) (by rw [hz1, Int.toNat_natCast]; omega) (by rw [hz2]; omega) (by omega)
 rw [Int.toNat_natCast, hz1] at h
 exact h
section
variable {w W : World} {ls : List Ow} {old new : World → Prop}
theorem GL.al4 (h : GL w ls old new W) (L : Nat) (hL : L ≤ 100000) : ∃ W' g, W.alloc (.cells (madeCells ratZ.cells (L * 4)) 30) = W' ∧ W.heap.size = g ∧ Hid (GL w (⟨30, 4, .slice (some ⟨g, 0, none⟩) L L, List.map rtcells (zerosX L)⟩ :: ls) old new W') := by
 refine ⟨_, _, rfl, rfl, Lib.hid ?_⟩
 have h1 := h.addz (e := 30) (sz := 4) (z := ratZ.cells) rfl (by decide) L (by simp [maxLen]; omega)
 unfold zerosX
 rw [List.map_replicate]
 exact h1
end
theorem cell_ne9 (A : Option Addr) {n m : Nat} (h : n ≠ m) (V : World) (v : Value) : (V.setCell (adr A n) v).cell? (adr A m) = V.cell? (adr A m) :=
 World.cell?_setCell_other _ _ _ _ (fun e => by injection e; omega)
theorem all_set9 {α : Type} {P : α → Prop} {l : List α} {i : Nat} {x : α} (h : ∀ y ∈ l, P y) (hx : P x) : ∀ y ∈ l.set i x, P y := fun y hy => by
 rcases List.mem_or_eq_of_mem_set hy with h1 | rfl
 ·exact h y h1
 ·exact hx
end Go.Proofs.YtplhmeiciiajcaaGreatDoor
