/-
 tripwirelow.CopyWords. tripwirelow: CopyRat, SameRat of a copy. Nets as they stand in memory, word by word; tripwirelow: SameInts, SameRats, SameVec, SameVecs, SameGroups, SameLayer, SameNet. tripwirelow: CopyInts, CopyRats, CopyVec, CopyVecs, CopyNet. tripwirelow.CopyNet.
-/
import Derived.Test.YtikmgoefjbhcjaaGreatDoorOwn
import Derived.Test.YtikmgoefjbhcjaaGreatDoorVal
import Derived.Test.YtikmgoefjbhcjaaGreatDoorLowB
import Derived.Test.YtikmgoefjbhcjaaGreatDoorEM
import Derived.Test.YtikmgoefjbhcjaaGreatDoorNH
import Derived.Test.YtikmgoefjbhcjaaGreatDoorNO
import Derived.Deep.DeepMust
import Derived.Deep.DeepCutAuto
namespace Go.Proofs.YtikmgoefjbhcjaaGreatDoor
set_option maxHeartbeats 4000000
open Go.RowKit

structure Raw (r : RV) (a b : Bool) (l m : List Nat) (V : World) : Prop where
 na : r.num.neg = a
 nk : r.num.k = l.length
 nr : Rd V .u64 r.num.A l
 da : r.den.neg = b
 dk : r.den.k = m.length
 dr : Rd V .u64 r.den.A m
theorem Raw.old {r : RV} {a b : Bool} {l m : List Nat} {V : World} (h : Raw r a b l m V) : Rests V (· < V.heap.size) (Raw r a b l m) :=
 ((za7 (F := (· < V.heap.size)) h.nr fun i hi => h.nr.lt i hi).and (za7 (F := (· < V.heap.size)) h.dr fun i hi => h.dr.lt i hi)).imp fun _ k => ⟨h.na, h.nk, k.1, h.da, h.dk, k.2⟩
theorem zeU (w : World) (i j : IV) (a : Bool) (l : List Nat) (hl : l.length ≤ 1000000) (h1 : i.neg = a) (h2 : j.neg = a) (h3 : i.k = l.length) (h4 : j.k = l.length) (hi : Rd w .u64 i.A l) (hj : Rd w .u64 j.A l) :
 Calls Tryz.prog 62 #[.agg #[.bool i.neg, .slice i.A i.k i.c], .agg #[.bool j.neg, .slice j.A j.k j.c]] w fun e w' => e = .returned (.bool true) ∧ Below w.heap.size w w' := by
 rw [h1, h2, h3, h4]; exact zgq w a i.A j.A i.c j.c l (by omega) hi hj
set_option maxRecDepth 100000 in
theorem zfh (w : World) (r s : RV) (a b : Bool) (l m : List Nat) (hl : l.length ≤ 1000000) (hm : m.length ≤ 1000000) (h : Raw r a b l m w) (h2 : Raw s a b l m w) :
 Calls Tryz.prog 36 #[rA r, rA s] w fun e w' => e = .returned (.bool true) ∧ Below w.heap.size w w' := by
 have HC := zmZ (fun (W : World) (k1 : Raw r a b l m W) (k2 : Raw s a b l m W) => (zeU W r.num s.num a l hl k1.na k2.na k1.nk k2.nk k1.nr k2.nr))
 have HD := zmZ (fun (W : World) (k1 : Raw r a b l m W) (k2 : Raw s a b l m W) => (zeU W r.den s.den b m hm k1.da k2.da k1.dk k2.dk k1.dr k2.dr))
 have HE := zmZ (lyRR r s ((h.old).and (h2.old)))
 have c := Env.c2 HE.out
 have dd := Env.d2 HE.out
 clear h h2
 unfold rA
 go_enter Tryz.func36, Tryz.ntmps36
 go_wp2_with fail
 refine (HC.out _ (by first | exact HE.out.o.1 | exact HE.out.drew.o.1) (by first | exact HE.out.o.2 | exact HE.out.drew.o.2)).mono ?_
 rintro e w1 ⟨rfl, hb⟩
 replace HE := zmZ (Env.cx HE.out hb)
 replace c := Env.c2 HE.out
 clear hb
 go_wp2_with fail
 refine (HD.out _ (by first | exact HE.out.o.1 | exact HE.out.drew.o.1) (by first | exact HE.out.o.2 | exact HE.out.drew.o.2)).mono ?_
 rintro e w1 ⟨rfl, hb⟩
 replace HE := zmZ (Env.cx HE.out hb)
 replace c := Env.c2 HE.out
 clear hb
 go_wp2_with fail
 go_ret
 exact ⟨rfl, HE.out.bel⟩

structure Wd where
 a : Bool
 b : Bool
 l : List Nat
 m : List Nat
structure RawW (r : RV) (x : Wd) (V : World) : Prop where
 raw : Raw r x.a x.b x.l x.m V
 l : x.l.length ≤ 1000000
 m : x.m.length ≤ 1000000
theorem RawW.old {r : RV} {x : Wd} {V : World} (h : RawW r x V) : Rests V (· < V.heap.size) (RawW r x) := (h.raw.old).imp fun _ k => ⟨k, h.l, h.m⟩
def zns (p : RV × Wd) : Array Value := #[.bool p.1.num.neg, .slice p.1.num.A p.1.num.k p.1.num.c, .bool p.1.den.neg, .slice p.1.den.A p.1.den.k p.1.den.c]
def nwD (p : RV × Wd) (V : World) : Prop := RawW p.1 p.2 V
theorem zc6 (p : RV × Wd) (V : World) (h : nwD p V) : Rests V (· < V.heap.size) (nwD p) := RawW.old h
structure TwV where
 pl : Int
 r : RV
 x : Wd
def znu (t : TwV) : Array Value := #[.int .i64 t.pl, .bool t.r.num.neg, .slice t.r.num.A t.r.num.k t.r.num.c, .bool t.r.den.neg, .slice t.r.den.A t.r.den.k t.r.den.c]
def twD (t : TwV) (V : World) : Prop := RawW t.r t.x V
theorem zcn (t : TwV) (V : World) (h : twD t V) : Rests V (· < V.heap.size) (twD t) := RawW.old h
def twq (t : TwV) : Int × Wd := (t.pl, t.x)
structure VwV where
 A : Option Addr
 c : Nat
 ts : List TwV
def znh (v : VwV) : Array Value := #[.slice v.A v.ts.length v.c]
def vwD (v : VwV) (V : World) : Prop := LsR 5 znu twD v.A v.ts V
theorem zcq (v : VwV) (V : World) (h : vwD v V) : Rests V (· < V.heap.size) (vwD v) := LsR.old zcn h
def vwq (v : VwV) : List (Int × Wd) := v.ts.map twq
abbrev LaW := LaG VwV (RV × Wd)
structure LwD (l : LaW) (V : World) : Prop where
 rows : LsR 1 znh vwD l.Ar l.rows V
 bias : LsR 4 zns nwD l.Ab l.bias V
 kern : LsR 4 zns nwD l.Ak l.kern V
 grs : LsR 1 grcells grD l.Ag l.grs V
theorem LwD.old (l : LaW) (V : World) (h : LwD l V) : Rests V (· < V.heap.size) (LwD l) :=
 ((h.rows.old zcq).and ((h.bias.old zc6).and ((h.kern.old zc6).and (h.grs.old zc1)))).imp fun _ h => ⟨h.1, h.2.1, h.2.2.1, h.2.2.2⟩
structure WQ where
 kind : Int
 rows : List (List (Int × Wd))
 bias : List Wd
 dims : List Int
 kern : List Wd
 grs : List (List Int)
def LaG.wq (l : LaW) : WQ := ⟨l.kind, l.rows.map vwq, l.bias.map Prod.snd, [l.ch, l.high, l.wide, l.out, l.kh, l.kw, l.st, l.pad], l.kern.map Prod.snd, l.grs.map GrV.l⟩
abbrev NeW := NeG VwV (RV × Wd)
def NwD (f : NeW) (V : World) : Prop := LsR 13 lacells LwD f.A f.las V
theorem NwD.old {f : NeW} {w : World} (h : NwD f w) : Rests w (· < w.heap.size) (NwD f) := LsR.old LwD.old h
def NeG.wq (f : NeW) : Int × List WQ := (f.inputs, f.las.map LaG.wq)
theorem LsR.tw {ok : TwV → World → Prop} {A : Option Addr} {l : List TwV} {w : World} (h : LsR 5 znu ok A l w) (i : Nat) (hi : i < l.length) : TC A i ⟨l[i].pl, l[i].r, 0⟩ w := by
 have hc := h.cell i hi
 exact ⟨hc 0 (by decide), hc 1 (by decide), hc 2 (by decide), hc 3 (by decide), hc 4 (by decide)⟩
theorem LsR.nw {ok : RV × Wd → World → Prop} {A : Option Addr} {l : List (RV × Wd)} {w : World} (h : LsR 4 zns ok A l w) (i : Nat) (hi : i < l.length) : RC A i (l[i].1, 0) w := by
 have hc := h.cell i hi
 exact ⟨hc 0 (by decide), hc 1 (by decide), hc 2 (by decide), hc 3 (by decide)⟩
theorem LsR.vw {ok : VwV → World → Prop} {A : Option Addr} {l : List VwV} {w : World} (h : LsR 1 znh ok A l w) (i : Nat) (hi : i < l.length) : w.cell? (adr A i) = some (.slice (l[i]).A (l[i]).ts.length (l[i]).c) := by
 have hc := h.cell i hi 0 (by decide)
 rwa [Nat.mul_one, Nat.add_zero] at hc
theorem zbp {α β κ : Type} {f : α → κ} {g : β → κ} {l : List α} {m : List β} (e : l.map f = m.map g) : l.length = m.length ∧ ∀ i (h : i < l.length) (h' : i < m.length), f l[i] = g m[i] := by
 have h0 := congrArg List.length e
 simp only [List.length_map] at h0
 refine ⟨h0, fun i h h' => ?_⟩
 have h1 := congrArg (fun x => x[i]?) e
 simpa [h, h'] using h1
theorem zeE (w : World) (r s : RV) (x y : Wd) (e : x = y) (h : RawW r x w) (h2 : RawW s y w) :
 Calls Tryz.prog 36 #[rA r, rA s] w fun e w' => e = .returned (.bool true) ∧ Below w.heap.size w w' := by
 subst e
 exact zfh w r s x.a x.b x.l x.m h.l h.m h.raw h2.raw
set_option maxRecDepth 100000 in
theorem zcz (w : World) (A B : Option Addr) (c d : Nat) (l m : List (Int)) (h : LsR 1 icells okI A l w) (h2 : LsR 1 icells okI B m w) (hl : l.length ≤ 1000000) (e : l.map id = m.map id) (nl nm : Nat) (hnl : nl = l.length) (hnm : nm = m.length) :
 Calls Tryz.prog 13 #[.slice A nl c, .slice B nm d] w fun e w' => e = .returned (.bool true) ∧ Below w.heap.size w w' := by
 obtain ⟨e0, e1⟩ := zbp e
 have hmn : nm = nl := by rw [hnl, hnm, e0]
 subst hmn
 have sl1 := h.sl
 have sl2 := h2.sl
 rw [← hnl] at sl1
 rw [← hnm] at sl2
 have hsz2 := zaF
 have hadd := za3
 have hnb : nm ≤ 1000000 := by omega
 have Hn := zmZ hnl
 have Hm := zmZ hnm
 have He := zmZ e1
 have Ho := zmZ ((h.old zdf).and (h2.old zdf))
 have Hb := zmZ (Below.refl w.heap.size w)
 clear h h2 hnl hnm e e0 e1 hl
 go_enter Tryz.func13, Tryz.ntmps13
 go_wp2_with fail
 go_loopw [5] (fun iv wr => ∃ i : Nat, iv = .int .i64 (i : Int) ∧ i ≤ nm ∧ Hid (Below w.heap.size w wr)) (fun iv _ => nm - (intOf iv).toNat)
 case atStart => exact ⟨0, rfl, Nat.zero_le _, Hb⟩
 case round =>
  clear Hb
  obtain ⟨i, rfl, hi, Hb⟩ := hrel
  by_cases hlt : i < nm
  ·have hll : i < l.length := by rw [← Hn.out]; exact hlt
   have hlm : i < m.length := by rw [← Hm.out]; exact hlt
   have HO2 := zmZ (Ho.out.below Hb.out).now
   have c1 := HO2.out.1.ic i hll
   have c2 := HO2.out.2.ic i hlm
   have h9 := He.out i hll hlm
   simp only [id] at h9
   rw [← h9] at c2
   obtain ⟨x, hx⟩ : ∃ x, x = l[i] := ⟨_, rfl⟩
   rw [← hx] at c1 c2
   clear hx h9
   go_upto_region 6 with fail
   go_quiet (fail)
   go_wp2_with fail
   go_roundw
   case rel => exact ⟨i + 1, by go_num, by omega, zmZ (Hb.out.trans (Below.drewN (Below.refl _ _) _))⟩
   case measure => (simp [intOf] <;> omega)
  ·obtain rfl : i = nm := by omega
   go_wp2_with fail
   go_ret
   exact ⟨rfl, Hb.out⟩
set_option maxRecDepth 100000 in
theorem zbe (w : World) (A B : Option Addr) (c d : Nat) (l m : List (RV × Wd)) (h : LsR 4 zns nwD A l w) (h2 : LsR 4 zns nwD B m w) (hl : l.length ≤ 1000000) (e : l.map Prod.snd = m.map Prod.snd) (nl nm : Nat) (hnl : nl = l.length) (hnm : nm = m.length) :
 Calls Tryz.prog 16 #[.slice A nl c, .slice B nm d] w fun e w' => e = .returned (.bool true) ∧ Below w.heap.size w w' := by
 obtain ⟨e0, e1⟩ := zbp e
 have hmn : nm = nl := by rw [hnl, hnm, e0]
 subst hmn
 have sl1 := h.sl
 have sl2 := h2.sl
 rw [← hnl] at sl1
 rw [← hnm] at sl2
 have hsz2 := zak
 have hadd := za3
 have hnb : nm ≤ 1000000 := by omega
 have Hn := zmZ hnl
 have Hm := zmZ hnm
 have He := zmZ e1
 have Ho := zmZ ((h.old zc6).and (h2.old zc6))
 have Hb := zmZ (Below.refl w.heap.size w)
 clear h h2 hnl hnm e e0 e1 hl
 go_enter Tryz.func16, Tryz.ntmps16
 go_wp2_with fail
 go_loopw [5] (fun iv wr => ∃ i : Nat, iv = .int .i64 (i : Int) ∧ i ≤ nm ∧ Hid (Below w.heap.size w wr)) (fun iv _ => nm - (intOf iv).toNat)
 case atStart => exact ⟨0, rfl, Nat.zero_le _, Hb⟩
 case round =>
  clear Hb
  obtain ⟨i, rfl, hi, Hb⟩ := hrel
  by_cases hlt : i < nm
  ·have hll : i < l.length := by rw [← Hn.out]; exact hlt
   have hlm : i < m.length := by rw [← Hm.out]; exact hlt
   have HO2 := zmZ (Ho.out.below Hb.out).now
   have HE := zmZ (Env.start (((HO2.out.1).old zc6).and ((HO2.out.2).old zc6)))
   have HX := zmZ (fun (V : World) (h1 : LsR 4 zns nwD A l V) (h2 : LsR 4 zns nwD B m V) => And.intro (h1.nw i hll) (h2.nw i hlm))
   have h9 := He.out i hll hlm
   have HP := zmZ (fun (V : World) (h1 : LsR 4 zns nwD A l V) => h1.ok _ (List.getElem_mem hll))
   have HQ := zmZ (fun (V : World) (h1 : LsR 4 zns nwD B m V) => h1.ok _ (List.getElem_mem hlm))
   obtain ⟨p, hp⟩ : ∃ p, p = l[i] := ⟨_, rfl⟩
   obtain ⟨q, hq⟩ : ∃ q, q = m[i] := ⟨_, rfl⟩
   rw [← hp] at HX h9 HP
   rw [← hq] at HX h9 HQ
   have H9 := zmZ h9
   clear h9 hp hq HO2
   have c := HX.out _ HE.out.o.1 HE.out.o.2
   go_upto_region 6 with fail
   go_region_held3 (fun V => RC A i (p.1, 0) V ∧ RC B i (q.1, 0) V) (first | with_reducible exact c | with_reducible exact HX.out _ HE.out.drew.o.1 HE.out.drew.o.2 | ((repeat' apply And.intro) <;> go_keep) | exact c)
    (first
     | (go_at_call 36; go_must (refine (zeE _ p.1 q.1 p.2 q.2 H9.out (by first | exact HP.out _ HE.out.o.1 | exact HP.out _ HE.out.drew.o.1) (by first | exact HQ.out _ HE.out.o.2 | exact HQ.out _ HE.out.drew.o.2)).mono ?_; rintro e w1 ⟨rfl, hb⟩; replace HE := zmZ (Env.cx HE.out hb); replace c := HX.out _ HE.out.o.1 HE.out.o.2; clear hb)))
   go_wp2_with fail
   go_roundw
   case rel => exact ⟨i + 1, by go_num, by omega, zmZ (Below.after Hb.out (by first | exact HE.out.bel | exact HE.out.drew.bel))⟩
   case measure => (simp [intOf] <;> omega)
  ·obtain rfl : i = nm := by omega
   go_wp2_with fail
   go_ret
   exact ⟨rfl, Hb.out⟩
set_option maxRecDepth 100000 in
theorem zeJ (w : World) (A B : Option Addr) (c d : Nat) (l m : List (TwV)) (h : LsR 5 znu twD A l w) (h2 : LsR 5 znu twD B m w) (hl : l.length ≤ 1000000) (e : l.map twq = m.map twq) (nl nm : Nat) (hnl : nl = l.length) (hnm : nm = m.length) :
 Calls Tryz.prog 42 #[.slice A nl c, .slice B nm d] w fun e w' => e = .returned (.bool true) ∧ Below w.heap.size w w' := by
 obtain ⟨e0, e1⟩ := zbp e
 have hmn : nm = nl := by rw [hnl, hnm, e0]
 subst hmn
 have sl1 := h.sl
 have sl2 := h2.sl
 rw [← hnl] at sl1
 rw [← hnm] at sl2
 have hsz2 := zbW
 have hadd := za3
 have hnb : nm ≤ 1000000 := by omega
 have Hn := zmZ hnl
 have Hm := zmZ hnm
 have He := zmZ e1
 have Ho := zmZ ((h.old zcn).and (h2.old zcn))
 have Hb := zmZ (Below.refl w.heap.size w)
 clear h h2 hnl hnm e e0 e1 hl
 go_enter Tryz.func42, Tryz.ntmps42
 go_wp2_with fail
 go_loopw [5] (fun iv wr => ∃ i : Nat, iv = .int .i64 (i : Int) ∧ i ≤ nm ∧ Hid (Below w.heap.size w wr)) (fun iv _ => nm - (intOf iv).toNat)
 case atStart => exact ⟨0, rfl, Nat.zero_le _, Hb⟩
 case round =>
  clear Hb
  obtain ⟨i, rfl, hi, Hb⟩ := hrel
  by_cases hlt : i < nm
  ·have hll : i < l.length := by rw [← Hn.out]; exact hlt
   have hlm : i < m.length := by rw [← Hm.out]; exact hlt
   have HO2 := zmZ (Ho.out.below Hb.out).now
   have HE := zmZ (Env.start (((HO2.out.1).old zcn).and ((HO2.out.2).old zcn)))
   have HX := zmZ (fun (V : World) (h1 : LsR 5 znu twD A l V) (h2 : LsR 5 znu twD B m V) => And.intro (h1.tw i hll) (h2.tw i hlm))
   have h9 := He.out i hll hlm
   have HP := zmZ (fun (V : World) (h1 : LsR 5 znu twD A l V) => h1.ok _ (List.getElem_mem hll))
   have HQ := zmZ (fun (V : World) (h1 : LsR 5 znu twD B m V) => h1.ok _ (List.getElem_mem hlm))
   obtain ⟨p, hp⟩ : ∃ p, p = l[i] := ⟨_, rfl⟩
   obtain ⟨q, hq⟩ : ∃ q, q = m[i] := ⟨_, rfl⟩
   rw [← hp] at HX h9 HP
   rw [← hq] at HX h9 HQ
   have H9 := zmZ h9
   clear h9 hp hq HO2
   have c := HX.out _ HE.out.o.1 HE.out.o.2
   have H8 := zmZ (congrArg Prod.snd H9.out)
   have h7 : p.pl = q.pl := congrArg Prod.fst H9.out
   have h6 : (p.pl != q.pl) = false := by simp [h7]
   have H7 := zmZ h7
   clear h7
   dsimp only [twq] at H8
   go_upto_region 6 with fail
   go_region_held3 (fun V => TC A i ⟨p.pl, p.r, 0⟩ V ∧ TC B i ⟨q.pl, q.r, 0⟩ V) (first | with_reducible exact c | with_reducible exact HX.out _ HE.out.drew.o.1 HE.out.drew.o.2 | ((repeat' apply And.intro) <;> go_keep) | exact c)
    (first
     | (go_at_call 36; go_must (refine (zeE _ p.r q.r p.x q.x H8.out (by first | exact HP.out _ HE.out.o.1 | exact HP.out _ HE.out.drew.o.1) (by first | exact HQ.out _ HE.out.o.2 | exact HQ.out _ HE.out.drew.o.2)).mono ?_; rintro e w1 ⟨rfl, hb⟩; replace HE := zmZ (Env.cx HE.out hb); replace c := HX.out _ HE.out.o.1 HE.out.o.2; clear hb)))
   go_wp2_with fail
   go_roundw
   case rel => exact ⟨i + 1, by go_num, by omega, zmZ (Below.after Hb.out (by first | exact HE.out.bel | exact HE.out.drew.bel))⟩
   case measure => (simp [intOf] <;> omega)
  ·obtain rfl : i = nm := by omega
   go_wp2_with fail
   go_ret
   exact ⟨rfl, Hb.out⟩
set_option maxRecDepth 100000 in
theorem zdc (w : World) (A B : Option Addr) (c d : Nat) (l m : List (GrV)) (h : LsR 1 grcells grD A l w) (h2 : LsR 1 grcells grD B m w) (hl : l.length ≤ 1000000) (hs : ∀ g ∈ l, g.l.length ≤ 1000000) (e : l.map GrV.l = m.map GrV.l) (nl nm : Nat) (hnl : nl = l.length) (hnm : nm = m.length) :
 Calls Tryz.prog 55 #[.slice A nl c, .slice B nm d] w fun e w' => e = .returned (.bool true) ∧ Below w.heap.size w w' := by
 obtain ⟨e0, e1⟩ := zbp e
 have hmn : nm = nl := by rw [hnl, hnm, e0]
 subst hmn
 have sl1 := h.sl
 have sl2 := h2.sl
 rw [← hnl] at sl1
 rw [← hnm] at sl2
 have hsz2 := zbt
 have hadd := za3
 have hnb : nm ≤ 1000000 := by omega
 have Hn := zmZ hnl
 have Hm := zmZ hnm
 have He := zmZ e1
 have Hs := zmZ hs
 clear hs
 have Ho := zmZ ((h.old zc1).and (h2.old zc1))
 have Hb := zmZ (Below.refl w.heap.size w)
 clear h h2 hnl hnm e e0 e1 hl
 go_enter Tryz.func55, Tryz.ntmps55
 go_wp2_with fail
 go_loopw [5] (fun iv wr => ∃ i : Nat, iv = .int .i64 (i : Int) ∧ i ≤ nm ∧ Hid (Below w.heap.size w wr)) (fun iv _ => nm - (intOf iv).toNat)
 case atStart => exact ⟨0, rfl, Nat.zero_le _, Hb⟩
 case round =>
  clear Hb
  obtain ⟨i, rfl, hi, Hb⟩ := hrel
  by_cases hlt : i < nm
  ·have hll : i < l.length := by rw [← Hn.out]; exact hlt
   have hlm : i < m.length := by rw [← Hm.out]; exact hlt
   have HO2 := zmZ (Ho.out.below Hb.out).now
   have HE := zmZ (Env.start (((HO2.out.1).old zc1).and ((HO2.out.2).old zc1)))
   have HX := zmZ (fun (V : World) (h1 : LsR 1 grcells grD A l V) (h2 : LsR 1 grcells grD B m V) => And.intro (h1.gc i hll) (h2.gc i hlm))
   have h9 := He.out i hll hlm
   have HP := zmZ (fun (V : World) (h1 : LsR 1 grcells grD A l V) => h1.ok _ (List.getElem_mem hll))
   have HQ := zmZ (fun (V : World) (h1 : LsR 1 grcells grD B m V) => h1.ok _ (List.getElem_mem hlm))
   obtain ⟨p, hp⟩ : ∃ p, p = l[i] := ⟨_, rfl⟩
   obtain ⟨q, hq⟩ : ∃ q, q = m[i] := ⟨_, rfl⟩
   rw [← hp] at HX h9 HP
   rw [← hq] at HX h9 HQ
   have H9 := zmZ h9
   have Hmp := zmZ (show p ∈ l by rw [hp]; exact List.getElem_mem hll)
   clear h9 hp hq HO2
   have c := HX.out _ HE.out.o.1 HE.out.o.2
   go_upto_region 6 with fail
   go_region_held3 (fun V => V.cell? (adr A i) = some (.slice p.A p.l.length p.c) ∧ V.cell? (adr B i) = some (.slice q.A q.l.length q.c)) (first | with_reducible exact c | with_reducible exact HX.out _ HE.out.drew.o.1 HE.out.drew.o.2 | ((repeat' apply And.intro) <;> go_keep) | exact c)
    (first
     | (go_at_call 13; go_must (refine (zcz _ p.A q.A p.c q.c p.l q.l (by first | exact HP.out _ HE.out.o.1 | exact HP.out _ HE.out.drew.o.1) (by first | exact HQ.out _ HE.out.o.2 | exact HQ.out _ HE.out.drew.o.2) (Hs.out p Hmp.out) (by rw [H9.out]) _ _ rfl rfl).mono ?_; rintro e w1 ⟨rfl, hb⟩; replace HE := zmZ (Env.cx HE.out hb); replace c := HX.out _ HE.out.o.1 HE.out.o.2; clear hb)))
   go_wp2_with fail
   go_roundw
   case rel => exact ⟨i + 1, by go_num, by omega, zmZ (Below.after Hb.out (by first | exact HE.out.bel | exact HE.out.drew.bel))⟩
   case measure => (simp [intOf] <;> omega)
  ·obtain rfl : i = nm := by omega
   go_wp2_with fail
   go_ret
   exact ⟨rfl, Hb.out⟩
set_option maxRecDepth 100000 in
theorem zcG (w : World) (A B : Option Addr) (c d : Nat) (l m : List (VwV)) (h : LsR 1 znh vwD A l w) (h2 : LsR 1 znh vwD B m w) (hl : l.length ≤ 1000000) (hs : ∀ v ∈ l, v.ts.length ≤ 1000000) (e : l.map vwq = m.map vwq) (nl nm : Nat) (hnl : nl = l.length) (hnm : nm = m.length) :
 Calls Tryz.prog 22 #[.slice A nl c, .slice B nm d] w fun e w' => e = .returned (.bool true) ∧ Below w.heap.size w w' := by
 obtain ⟨e0, e1⟩ := zbp e
 have hmn : nm = nl := by rw [hnl, hnm, e0]
 subst hmn
 have sl1 := h.sl
 have sl2 := h2.sl
 rw [← hnl] at sl1
 rw [← hnm] at sl2
 have hsz2 := zb9
 have hadd := za3
 have hnb : nm ≤ 1000000 := by omega
 have Hn := zmZ hnl
 have Hm := zmZ hnm
 have He := zmZ e1
 have Hs := zmZ hs
 clear hs
 have Ho := zmZ ((h.old zcq).and (h2.old zcq))
 have Hb := zmZ (Below.refl w.heap.size w)
 clear h h2 hnl hnm e e0 e1 hl
 go_enter Tryz.func22, Tryz.ntmps22
 go_wp2_with fail
 go_loopw [5] (fun iv wr => ∃ i : Nat, iv = .int .i64 (i : Int) ∧ i ≤ nm ∧ Hid (Below w.heap.size w wr)) (fun iv _ => nm - (intOf iv).toNat)
 case atStart => exact ⟨0, rfl, Nat.zero_le _, Hb⟩
 case round =>
  clear Hb
  obtain ⟨i, rfl, hi, Hb⟩ := hrel
  by_cases hlt : i < nm
  ·have hll : i < l.length := by rw [← Hn.out]; exact hlt
   have hlm : i < m.length := by rw [← Hm.out]; exact hlt
   have HO2 := zmZ (Ho.out.below Hb.out).now
   have HE := zmZ (Env.start (((HO2.out.1).old zcq).and ((HO2.out.2).old zcq)))
   have HX := zmZ (fun (V : World) (h1 : LsR 1 znh vwD A l V) (h2 : LsR 1 znh vwD B m V) => And.intro (h1.vw i hll) (h2.vw i hlm))
   have h9 := He.out i hll hlm
   have HP := zmZ (fun (V : World) (h1 : LsR 1 znh vwD A l V) => h1.ok _ (List.getElem_mem hll))
   have HQ := zmZ (fun (V : World) (h1 : LsR 1 znh vwD B m V) => h1.ok _ (List.getElem_mem hlm))
   obtain ⟨p, hp⟩ : ∃ p, p = l[i] := ⟨_, rfl⟩
   obtain ⟨q, hq⟩ : ∃ q, q = m[i] := ⟨_, rfl⟩
   rw [← hp] at HX h9 HP
   rw [← hq] at HX h9 HQ
   have H9 := zmZ h9
   have Hmp := zmZ (show p ∈ l by rw [hp]; exact List.getElem_mem hll)
   clear h9 hp hq HO2
   have c := HX.out _ HE.out.o.1 HE.out.o.2
   go_upto_region 6 with fail
   go_region_held3 (fun V => V.cell? (adr A i) = some (.slice p.A p.ts.length p.c) ∧ V.cell? (adr B i) = some (.slice q.A q.ts.length q.c)) (first | with_reducible exact c | with_reducible exact HX.out _ HE.out.drew.o.1 HE.out.drew.o.2 | ((repeat' apply And.intro) <;> go_keep) | exact c)
    (first
     | (go_at_call 42; go_must (refine (zeJ _ p.A q.A p.c q.c p.ts q.ts (by first | exact HP.out _ HE.out.o.1 | exact HP.out _ HE.out.drew.o.1) (by first | exact HQ.out _ HE.out.o.2 | exact HQ.out _ HE.out.drew.o.2) (Hs.out p Hmp.out) H9.out _ _ rfl rfl).mono ?_; rintro e w1 ⟨rfl, hb⟩; replace HE := zmZ (Env.cx HE.out hb); replace c := HX.out _ HE.out.o.1 HE.out.o.2; clear hb)))
   go_wp2_with fail
   go_roundw
   case rel => exact ⟨i + 1, by go_num, by omega, zmZ (Below.after Hb.out (by first | exact HE.out.bel | exact HE.out.drew.bel))⟩
   case measure => (simp [intOf] <;> omega)
  ·obtain rfl : i = nm := by omega
   go_wp2_with fail
   go_ret
   exact ⟨rfl, Hb.out⟩
structure LwS (l : LaW) : Prop where
 rows : l.rows.length ≤ 1000000
 row : ∀ v ∈ l.rows, v.ts.length ≤ 1000000
 bias : l.bias.length ≤ 1000000
 kern : l.kern.length ≤ 1000000
 grs : l.grs.length ≤ 1000000
 gr : ∀ g ∈ l.grs, g.l.length ≤ 1000000
structure LensW (l : LaW) (nr nb nk ng : Nat) : Prop where
 r : nr = l.rows.length
 b : nb = l.bias.length
 k : nk = l.kern.length
 g : ng = l.grs.length
set_option maxRecDepth 100000 in
theorem zdJ (w : World) (l m : LaW) (h : LwD l w) (h2 : LwD m w) (hs : LwS l) (hq : l.wq = m.wq) (nr nb nk ng nr2 nb2 nk2 ng2 : Nat) (HL : Hid (LensW l nr nb nk ng)) (HM : Hid (LensW m nr2 nb2 nk2 ng2)) : Calls Tryz.prog 32 #[lA l nr nb nk ng, lA m nr2 nb2 nk2 ng2] w fun e w' => e = .returned (.bool true) ∧ Below w.heap.size w w' := by
 have E := hq
 unfold LaG.wq at E
 simp only [WQ.mk.injEq, List.cons.injEq, and_true] at E
 obtain ⟨ek, er, eb, ⟨d1, d2, d3, d4, d5, d6, d7, d8⟩, ekn, eg⟩ := E
 have ek' : (l.kind == m.kind) = true := by simp [ek]
 have d1' : (l.ch == m.ch) = true := by simp [d1]
 have d2' : (l.high == m.high) = true := by simp [d2]
 have d3' : (l.wide == m.wide) = true := by simp [d3]
 have d4' : (l.out == m.out) = true := by simp [d4]
 have d5' : (l.kh == m.kh) = true := by simp [d5]
 have d6' : (l.kw == m.kw) = true := by simp [d6]
 have d7' : (l.st == m.st) = true := by simp [d7]
 have d8' : (l.pad == m.pad) = true := by simp [d8]
 have Er := zmZ er
 have Eb := zmZ eb
 have Ekn := zmZ ekn
 have Eg := zmZ eg
 have Hs := zmZ hs
 clear hq ek er eb ekn eg d1 d2 d3 d4 d5 d6 d7 d8 hs
 obtain ⟨W0, hW0⟩ : ∃ W0, W0 = ((w.alloc (.cells #[.int .u8 l.kind, .slice l.Ar nr l.cr, .slice l.Ab nb l.cb, .int .i64 l.ch, .int .i64 l.high, .int .i64 l.wide, .int .i64 l.out, .int .i64 l.kh, .int .i64 l.kw, .int .i64 l.st, .int .i64 l.pad, .slice l.Ak nk l.ck, .slice l.Ag ng l.cg] 36)).alloc (.cells #[.int .u8 m.kind, .slice m.Ar nr2 m.cr, .slice m.Ab nb2 m.cb, .int .i64 m.ch, .int .i64 m.high, .int .i64 m.wide, .int .i64 m.out, .int .i64 m.kh, .int .i64 m.kw, .int .i64 m.st, .int .i64 m.pad, .slice m.Ak nk2 m.ck, .slice m.Ag ng2 m.cg] 36)) := ⟨_, rfl⟩
 have HE := zmZ (Env.lay2 (Env.start (((LwD.old l w h)).and ((LwD.old m w h2)))) hW0)
 subst hW0
 have c := Env.c2 HE.out
 have dd := Env.d2 HE.out
 clear h h2
 unfold lA
 go_enter Tryz.func32, Tryz.ntmps32
 go_wp2_with fail
 refine (zcG _ l.Ar m.Ar l.cr m.cr l.rows m.rows HE.out.o.1.rows HE.out.o.2.rows Hs.out.rows Hs.out.row Er.out nr nr2 HL.out.r HM.out.r).mono ?_
 rintro e w1 ⟨rfl, hb⟩
 replace HE := zmZ (Env.call HE.out hb)
 replace c := Env.c2 HE.out
 clear hb
 go_wp2_with fail
 refine (zbe _ l.Ab m.Ab l.cb m.cb l.bias m.bias HE.out.o.1.bias HE.out.o.2.bias Hs.out.bias Eb.out nb nb2 HL.out.b HM.out.b).mono ?_
 rintro e w1 ⟨rfl, hb⟩
 replace HE := zmZ (Env.call HE.out hb)
 replace c := Env.c2 HE.out
 clear hb
 go_wp2_with fail
 refine (zbe _ l.Ak m.Ak l.ck m.ck l.kern m.kern HE.out.o.1.kern HE.out.o.2.kern Hs.out.kern Ekn.out nk nk2 HL.out.k HM.out.k).mono ?_
 rintro e w1 ⟨rfl, hb⟩
 replace HE := zmZ (Env.call HE.out hb)
 replace c := Env.c2 HE.out
 clear hb
 go_wp2_with fail
 refine (zdc _ l.Ag m.Ag l.cg m.cg l.grs m.grs HE.out.o.1.grs HE.out.o.2.grs Hs.out.grs Hs.out.gr Eg.out ng ng2 HL.out.g HM.out.g).mono ?_
 rintro e w1 ⟨rfl, hb⟩
 replace HE := zmZ (Env.call HE.out hb)
 replace c := Env.c2 HE.out
 clear hb
 go_wp2_with fail
 exact bodyPost_ret (v := .bool true) (by simp [results, Tryz.results32, go_sem]) rfl ⟨rfl, HE.out.bel⟩
set_option maxRecDepth 100000 in
theorem zcY (w : World) (f g : NeW) (h : NwD f w) (h2 : NwD g w) (hs : ∀ l ∈ f.las, LwS l) (hl : f.las.length ≤ 1000000) (hq : f.wq = g.wq) (nl nm : Nat) (hnl : nl = f.las.length) (hnm : nm = g.las.length) : Calls Tryz.prog 11 #[.agg #[.int .i64 f.inputs, .slice f.A nl f.c], .agg #[.int .i64 g.inputs, .slice g.A nm g.c]] w fun e w' => e = .returned (.bool true) ∧ Below w.heap.size w w' := by
 obtain ⟨e0, e1⟩ := zbp (congrArg Prod.snd hq : f.las.map LaG.wq = g.las.map LaG.wq)
 have ei : f.inputs = g.inputs := congrArg Prod.fst hq
 have ei' : (f.inputs != g.inputs) = false := by simp [ei]
 have Ei := zmZ ei
 have hmn : nm = nl := by rw [hnl, hnm, e0]
 subst hmn
 have sl1 := h.sl
 have sl2 := h2.sl
 rw [← hnl] at sl1
 rw [← hnm] at sl2
 have hsz1 := zb5
 have hadd := za3
 have hnb : nm ≤ 1000000 := by omega
 have Hn := zmZ hnl
 have Hm := zmZ hnm
 have He := zmZ e1
 have Hs := zmZ hs
 obtain ⟨W0, hW0⟩ : ∃ W0, W0 = ((w.alloc (.cells #[.int .i64 f.inputs, .slice f.A nm f.c] 24)).alloc (.cells #[.int .i64 g.inputs, .slice g.A nm g.c] 24)) := ⟨_, rfl⟩
 have HE := zmZ (Env.lay2 (Env.start ((h.old).and (h2.old))) hW0)
 subst hW0
 have c := Env.c2 HE.out
 have dd := Env.d2 HE.out
 clear h h2 hnl hnm e0 e1 hs hq ei hl
 go_enter Tryz.func11, Tryz.ntmps11
 go_wp2_with fail
 clear c
 go_loopw [5] (fun iv wr => ∃ i : Nat, iv = .int .i64 (i : Int) ∧ i ≤ nm ∧ Hid (Env w [⟨w.heap.size + 1, 24, #[.int .i64 g.inputs, .slice g.A nm g.c]⟩, ⟨w.heap.size, 24, #[.int .i64 f.inputs, .slice f.A nm f.c]⟩] (fun V => NwD f V ∧ NwD g V) (fun _ => True) wr)) (fun iv _ => nm - (intOf iv).toNat)
 case atStart => exact ⟨0, rfl, Nat.zero_le _, HE⟩
 case round =>
  clear HE
  obtain ⟨i, rfl, hi, HE⟩ := hrel
  by_cases hlt : i < nm
  ·have hll : i < f.las.length := by rw [← Hn.out]; exact hlt
   have hlm : i < g.las.length := by rw [← Hm.out]; exact hlt
   have HX := zmZ (fun (V : World) (h : Env w [⟨w.heap.size + 1, 24, #[.int .i64 g.inputs, .slice g.A nm g.c]⟩, ⟨w.heap.size, 24, #[.int .i64 f.inputs, .slice f.A nm f.c]⟩] (fun V => NwD f V ∧ NwD g V) (fun _ => True) V) => And.intro (Env.c2 h) (And.intro (h.o.1.lac i hll) (h.o.2.lac i hlm)))
   have h9 := He.out i hll hlm
   have HP := zmZ (fun (V : World) (h1 : NwD f V) => h1.ok _ (List.getElem_mem hll))
   have HQ := zmZ (fun (V : World) (h1 : NwD g V) => h1.ok _ (List.getElem_mem hlm))
   have HS := zmZ (Hs.out _ (List.getElem_mem hll))
   obtain ⟨p, hp⟩ : ∃ p, p = f.las[i] := ⟨_, rfl⟩
   obtain ⟨q, hq⟩ : ∃ q, q = g.las[i] := ⟨_, rfl⟩
   rw [← hp] at HX h9 HP HS
   rw [← hq] at HX h9 HQ
   have H9 := zmZ h9
   clear h9 hp hq
   have c := HX.out _ HE.out
   go_upto_region 6 with fail
   go_region_held3 (fun V => (CB (w.heap.size + 1) #[.int .i64 g.inputs, .slice g.A nm g.c] V ∧ CB (w.heap.size) #[.int .i64 f.inputs, .slice f.A nm f.c] V) ∧ LC f.A i p V ∧ LC g.A i q V) (first | with_reducible exact c | with_reducible exact HX.out _ HE.out.drew | ((repeat' apply And.intro) <;> go_keep) | exact c)
    (first
     | (go_at_call 32; go_must (refine (zdJ _ p q (by first | exact HP.out _ HE.out.o.1 | exact HP.out _ HE.out.drew.o.1) (by first | exact HQ.out _ HE.out.o.2 | exact HQ.out _ HE.out.drew.o.2) HS.out H9.out _ _ _ _ _ _ _ _ (zmZ ⟨rfl, rfl, rfl, rfl⟩) (zmZ ⟨rfl, rfl, rfl, rfl⟩)).mono ?_; rintro e w1 ⟨rfl, hb⟩; replace HE := zmZ (Env.cx HE.out hb); replace c := HX.out _ HE.out; clear hb)))
   go_wp2_with fail
   go_roundw
   case rel => exact ⟨i + 1, by go_num, by omega, (by first | exact HE | exact zmZ HE.out.drew)⟩
   case measure => (simp [intOf] <;> omega)
  ·obtain rfl : i = nm := by omega
   have c := Env.c2 HE.out
   go_wp2_with fail
   go_ret
   exact ⟨rfl, HE.out.bel⟩

theorem GL.dropL {w W : World} {ls : List Ow} {old new : World → Prop} {e : TypeId} {sz n c : Nat} {A : Option Addr} {cs : List (Array Value)} (h : GL w (⟨e, sz, .slice A n c, cs⟩ :: ls) old new W) : GL w ls old (fun V => El V sz A cs ∧ new V) W := by
 have ho : OwnE W w.heap.size e sz (.slice A n c) cs := h.own _ (List.mem_cons_self ..)
 have hnd := List.pairwise_cons.1 h.nd
 have hr : Rests W (fun b => (Value.slice A n c).ownBlock = some b) (fun V => El V sz A cs) := ⟨ho.el.1, fun w' hw => (ho.keep (fun b hb e => hw b e hb)).el.1⟩
 exact ⟨fun o ho => h.own o (List.mem_cons_of_mem _ ho), hnd.2, h.rso.mono fun n hn o ho => hn o (List.mem_cons_of_mem _ ho), Rests.and (hr.mono fun b hb => ⟨(ho.lt b hb).1, fun o ho e => hnd.1 o ho b hb e⟩) (h.rsn.mono fun n hn => ⟨hn.1, fun o ho => hn.2 o (List.mem_cons_of_mem _ ho)⟩), h.bel⟩
theorem LsR.mk' {α : Type} {sz : Nat} {cells : α → Array Value} {ok : α → World → Prop} {A : Option Addr} {l : List α} {V : World} (h : El V sz A (l.map cells)) (hok : ∀ p ∈ l, ok p V) : LsR sz cells ok A l V := ⟨h, hok⟩
end Go.Proofs.YtikmgoefjbhcjaaGreatDoor
