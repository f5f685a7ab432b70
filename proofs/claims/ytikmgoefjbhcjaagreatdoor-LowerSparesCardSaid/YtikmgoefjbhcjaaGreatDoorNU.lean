/-
 tripwirelow.CopyWords. tripwirelow: CopyRat, SameRat of a copy. Nets as they stand in memory, word by word; tripwirelow: SameInts, SameRats, SameVec, SameVecs, SameGroups, SameLayer, SameNet. tripwirelow: CopyInts, CopyRats, CopyVec, CopyVecs, CopyNet. tripwirelow.CopyNet.
-/
import Derived.Test.YtikmgoefjbhcjaaGreatDoorOwn
import Derived.Test.YtikmgoefjbhcjaaGreatDoorVal
import Derived.Test.YtikmgoefjbhcjaaGreatDoorLowB
import Derived.Test.YtikmgoefjbhcjaaGreatDoorEM
import Derived.Test.YtikmgoefjbhcjaaGreatDoorNH
import Derived.Test.YtikmgoefjbhcjaaGreatDoorNO
import Derived.Deep.DeepMust
import Derived.Deep.DeepCutAuto
namespace Go.Proofs.YtikmgoefjbhcjaaGreatDoor
set_option maxHeartbeats 16000000
open Go.RowKit

theorem zec (w : World) (A : Option Addr) (c : Nat) (l : List Nat) (hl : l.length ≤ 1000000) (hr : Rd w .u64 A l) :
 ∃ v' w', (Builtin.append_ #[37, 37] 37 #[.slice none 0 0, .slice A l.length c]).run Tryz.prog w = .ok v' w' ∧ Own w' w.heap.size 105 .u64 v' l ∧ Below w.heap.size w w' := by
 obtain ⟨i0, hi0, hz0, hz1, hz2⟩ := info_parts zbr
 cases A with
 | none =>
  have h0 : l = [] := by
   rcases Nat.eq_zero_or_pos l.length with h | h
   ·exact List.eq_nil_of_length_eq_zero h
   ·obtain ⟨b, o, e⟩ := hr.sl h; cases e
  subst h0
  exact ⟨.slice none 0 0, w, by simp [Builtin.append_, run_underlying Tryz.underlying37, sizeOf, typeInfo, hi0, Builtin.lenOf, Builtin.firstCells], Own.nil_ _ _ _ _, Below.refl _ _⟩
 | some a =>
  have hcells : ∀ j u, (vals .u64 l)[j]? = some u → w.cell? (a.add j) = some u := by
   intro j u hu
   have hj : j < l.length := by
    rcases Nat.lt_or_ge j l.length with h | h
    ·exact h
    ·simp [vals, h] at hu
   obtain ⟨b, o, e⟩ := hr.sl (by omega)
   cases e
   have h1 := hr.cell j hj
   rw [za4] at h1
   rw [zac, h1, ← hu]
   simp [vals, nth, List.getD, hj]
  obtain ⟨v', w', hrun, h2, h3, -⟩ := run_append_own (P := Tryz.prog) w w.heap.size 37 37 105 i0 (.int .u64 0) 1 8 Tryz.underlying37 hi0 hz0 hz1 hz2 rfl (by decide) (.slice none 0 0) 0 [] (World.ownsRow_nil _ _ _ _) a l.length c (vals .u64 l) (by simp [vals]) hcells (by intro u hu; simp [vals] at hu; obtain ⟨x, -, rfl⟩ := hu; rfl) (by simp only [maxLen]; omega) (by omega) (Nat.le_refl _)
  refine ⟨v', w', hrun, by simpa [Own] using h2, (Below.refl _ _).grown h3 (Nat.le_refl _) (fun b hb => by cases hb)⟩

set_option maxRecDepth 100000 in
theorem zek (w : World) (A : Option Addr) (c : Nat) (l : List Nat) (hl : l.length ≤ 1000000) (hr : Rd w .u64 A l) :
 Calls Tryz.prog 78 #[.slice A l.length c] w (RetL .u64 l w) := by
 obtain ⟨v', w', hrun, ho, hb⟩ := zec w A c l hl hr
 have Hrun := zmZ hrun; have Ho := zmZ ho; have Hb := zmZ hb
 clear hrun ho hb hr
 generalize hn : l.length = n at *
 have Hn := zmZ hn; clear hn
 go_enter Tryz.func78, Tryz.ntmps78
 go_wp2_with (at_builtin; refine za1 rfl (.tmp 4) (.tmp 5) 37 _ _ _ rfl rfl rfl Hrun.out ?_)
 go_ret
 obtain ⟨A1, c1, rfl, hc1, -, hr1, hf1⟩ := Ho.out.form
 exact ⟨A1, c1, rfl, hc1, hr1, Hb.out, hf1⟩

structure Raw (r : RV) (a b : Bool) (l m : List Nat) (V : World) : Prop where
 na : r.num.neg = a
 nk : r.num.k = l.length
 nr : Rd V .u64 r.num.A l
 da : r.den.neg = b
 dk : r.den.k = m.length
 dr : Rd V .u64 r.den.A m
theorem Raw.old {r : RV} {a b : Bool} {l m : List Nat} {V : World} (h : Raw r a b l m V) : Rests V (· < V.heap.size) (Raw r a b l m) :=
 ((za7 (F := (· < V.heap.size)) h.nr fun i hi => h.nr.lt i hi).and (za7 (F := (· < V.heap.size)) h.dr fun i hi => h.dr.lt i hi)).imp fun _ k => ⟨h.na, h.nk, k.1, h.da, h.dk, k.2⟩
def zm3 (a b : Bool) (l m : List Nat) (w : World) (e : Ending) (w' : World) : Prop :=
 ∃ r : RV, e = .returned (.agg #[.bool r.num.neg, .slice r.num.A r.num.k r.num.c, .bool r.den.neg, .slice r.den.A r.den.k r.den.c]) ∧ Rests w' (w.heap.size ≤ ·) (Raw r a b l m) ∧ Below w.heap.size w w'
theorem zbM (w : World) (A : Option Addr) (c k : Nat) (l : List Nat) (hl : l.length ≤ 1000000) (hk : k = l.length) (hr : Rd w .u64 A l) : Calls Tryz.prog 78 #[.slice A k c] w (RetL .u64 l w) := by
 rw [hk]; exact zek w A c l hl hr
set_option maxRecDepth 100000 in
theorem zfz (w : World) (r : RV) (a b : Bool) (l m : List Nat) (hl : l.length ≤ 1000000) (hm : m.length ≤ 1000000) (h : Raw r a b l m w) :
 Calls Tryz.prog 44 #[rA r] w (zm3 a b l m w) := by
 have Hn := zmZ h.nk
 have Hd := zmZ h.dk
 have Ha := zmZ h.na
 have Hb := zmZ h.da
 have HE := zmZ (lyRZ r (h.old))
 have c := Env.c2 HE.out
 have dd := Env.d2 HE.out
 clear h
 unfold rA
 go_enter Tryz.func44, Tryz.ntmps44
 go_wp2_with fail
 go_region_held3 (fun W => CB (w.heap.size) #[.bool r.num.neg, .slice r.num.A r.num.k r.num.c, .bool r.den.neg, .slice r.den.A r.den.k r.den.c] W) (first | exact c.2 | ((repeat' apply And.intro) <;> go_keep))
  (first
   | (go_at_call_of 78 ((#[.slice r.num.A r.num.k r.num.c] : Array Value)); go_must (refine ((zbM _ r.num.A r.num.c r.num.k l hl Hn.out (by first | exact HE.out.o.nr | exact HE.out.drew.o.nr))).mono ?_; rintro e w1 ⟨A1, c1, rfl, hcp, hrd, hb, hf⟩; replace HE := zmZ (Env.rx HE.out (za7 hrd (fun k hk => hf k hk)) hb); replace c := Env.c2 HE.out; have Hc1 := zmZ hcp; clear hcp hrd hb hf))
   | (go_at_call_of 78 ((#[.slice r.den.A r.den.k r.den.c] : Array Value)); go_must (refine ((zbM _ r.den.A r.den.c r.den.k m hm Hd.out (by first | exact HE.out.o.dr | exact HE.out.drew.o.dr))).mono ?_; rintro e w2 ⟨A2, c2, rfl, hcp, hrd, hb, hf⟩; replace HE := zmZ (Env.rx HE.out (za7 hrd (fun k hk => hf k hk)) hb); replace c := Env.c2 HE.out; have Hc2 := zmZ hcp; clear hcp hrd hb hf)))
 all_goals
  go_wp2_with fail
  have hE := HE.out.put4 (.bool r.num.neg) (.slice A1 l.length c1) (.bool r.den.neg) (.slice A2 m.length c2)
  replace c := Env.c2 hE
  exact bodyPost_ret (v := .agg #[.bool r.num.neg, .slice A1 l.length c1, .bool r.den.neg, .slice A2 m.length c2]) (by simp [results, Tryz.results44, go_sem, c]) rfl ⟨⟨⟨r.num.neg, A1, l.length, c1⟩, ⟨r.den.neg, A2, m.length, c2⟩⟩, rfl, (hE.rsn.imp fun _ h => ⟨Ha.out, rfl, h.2.1, Hb.out, rfl, h.1⟩).mono fun _ h => h.1, hE.bel⟩
theorem zeU (w : World) (i j : IV) (a : Bool) (l : List Nat) (hl : l.length ≤ 1000000) (h1 : i.neg = a) (h2 : j.neg = a) (h3 : i.k = l.length) (h4 : j.k = l.length) (hi : Rd w .u64 i.A l) (hj : Rd w .u64 j.A l) :
 Calls Tryz.prog 62 #[.agg #[.bool i.neg, .slice i.A i.k i.c], .agg #[.bool j.neg, .slice j.A j.k j.c]] w fun e w' => e = .returned (.bool true) ∧ Below w.heap.size w w' := by
 rw [h1, h2, h3, h4]; exact zgq w a i.A j.A i.c j.c l (by omega) hi hj
set_option maxRecDepth 100000 in
theorem zfh (w : World) (r s : RV) (a b : Bool) (l m : List Nat) (hl : l.length ≤ 1000000) (hm : m.length ≤ 1000000) (h : Raw r a b l m w) (h2 : Raw s a b l m w) :
 Calls Tryz.prog 36 #[rA r, rA s] w fun e w' => e = .returned (.bool true) ∧ Below w.heap.size w w' := by
 have HC := zmZ (fun (W : World) (k1 : Raw r a b l m W) (k2 : Raw s a b l m W) => (zeU W r.num s.num a l hl k1.na k2.na k1.nk k2.nk k1.nr k2.nr))
 have HD := zmZ (fun (W : World) (k1 : Raw r a b l m W) (k2 : Raw s a b l m W) => (zeU W r.den s.den b m hm k1.da k2.da k1.dk k2.dk k1.dr k2.dr))
 have HE := zmZ (lyRR r s ((h.old).and (h2.old)))
 have c := Env.c2 HE.out
 have dd := Env.d2 HE.out
 clear h h2
 unfold rA
 go_enter Tryz.func36, Tryz.ntmps36
 go_wp2_with fail
 refine (HC.out _ (by first | exact HE.out.o.1 | exact HE.out.drew.o.1) (by first | exact HE.out.o.2 | exact HE.out.drew.o.2)).mono ?_
 rintro e w1 ⟨rfl, hb⟩
 replace HE := zmZ (Env.cx HE.out hb)
 replace c := Env.c2 HE.out
 clear hb
 go_wp2_with fail
 refine (HD.out _ (by first | exact HE.out.o.1 | exact HE.out.drew.o.1) (by first | exact HE.out.o.2 | exact HE.out.drew.o.2)).mono ?_
 rintro e w1 ⟨rfl, hb⟩
 replace HE := zmZ (Env.cx HE.out hb)
 replace c := Env.c2 HE.out
 clear hb
 go_wp2_with fail
 go_ret
 exact ⟨rfl, HE.out.bel⟩

structure Wd where
 a : Bool
 b : Bool
 l : List Nat
 m : List Nat
structure RawW (r : RV) (x : Wd) (V : World) : Prop where
 raw : Raw r x.a x.b x.l x.m V
 l : x.l.length ≤ 1000000
 m : x.m.length ≤ 1000000
theorem RawW.old {r : RV} {x : Wd} {V : World} (h : RawW r x V) : Rests V (· < V.heap.size) (RawW r x) := (h.raw.old).imp fun _ k => ⟨k, h.l, h.m⟩
def nwcells (p : RV × Wd) : Array Value := #[.bool p.1.num.neg, .slice p.1.num.A p.1.num.k p.1.num.c, .bool p.1.den.neg, .slice p.1.den.A p.1.den.k p.1.den.c]
def nwD (p : RV × Wd) (V : World) : Prop := RawW p.1 p.2 V
theorem zc6 (p : RV × Wd) (V : World) (h : nwD p V) : Rests V (· < V.heap.size) (nwD p) := RawW.old h
structure TwV where
 pl : Int
 r : RV
 x : Wd
def twcells (t : TwV) : Array Value := #[.int .i64 t.pl, .bool t.r.num.neg, .slice t.r.num.A t.r.num.k t.r.num.c, .bool t.r.den.neg, .slice t.r.den.A t.r.den.k t.r.den.c]
def twD (t : TwV) (V : World) : Prop := RawW t.r t.x V
theorem zcn (t : TwV) (V : World) (h : twD t V) : Rests V (· < V.heap.size) (twD t) := RawW.old h
def twq (t : TwV) : Int × Wd := (t.pl, t.x)
structure VwV where
 A : Option Addr
 c : Nat
 ts : List TwV
def vwcells (v : VwV) : Array Value := #[.slice v.A v.ts.length v.c]
def vwD (v : VwV) (V : World) : Prop := LsR 5 twcells twD v.A v.ts V
theorem zcq (v : VwV) (V : World) (h : vwD v V) : Rests V (· < V.heap.size) (vwD v) := LsR.old zcn h
def vwq (v : VwV) : List (Int × Wd) := v.ts.map twq
abbrev LaW := LaG VwV (RV × Wd)
structure LwD (l : LaW) (V : World) : Prop where
 rows : LsR 1 vwcells vwD l.Ar l.rows V
 bias : LsR 4 nwcells nwD l.Ab l.bias V
 kern : LsR 4 nwcells nwD l.Ak l.kern V
 grs : LsR 1 grcells grD l.Ag l.grs V
theorem LwD.old (l : LaW) (V : World) (h : LwD l V) : Rests V (· < V.heap.size) (LwD l) :=
 ((h.rows.old zcq).and ((h.bias.old zc6).and ((h.kern.old zc6).and (h.grs.old zc1)))).imp fun _ h => ⟨h.1, h.2.1, h.2.2.1, h.2.2.2⟩
structure WQ where
 kind : Int
 rows : List (List (Int × Wd))
 bias : List Wd
 dims : List Int
 kern : List Wd
 grs : List (List Int)
def LaG.wq (l : LaW) : WQ := ⟨l.kind, l.rows.map vwq, l.bias.map Prod.snd, [l.ch, l.high, l.wide, l.out, l.kh, l.kw, l.st, l.pad], l.kern.map Prod.snd, l.grs.map GrV.l⟩
abbrev NeW := NeG VwV (RV × Wd)
def NwD (f : NeW) (V : World) : Prop := LsR 13 lacells LwD f.A f.las V
theorem NwD.old {f : NeW} {w : World} (h : NwD f w) : Rests w (· < w.heap.size) (NwD f) := LsR.old LwD.old h
def NeG.wq (f : NeW) : Int × List WQ := (f.inputs, f.las.map LaG.wq)
theorem LsR.tw {ok : TwV → World → Prop} {A : Option Addr} {l : List TwV} {w : World} (h : LsR 5 twcells ok A l w) (i : Nat) (hi : i < l.length) : TC A i ⟨l[i].pl, l[i].r, 0⟩ w := by
 have hc := h.cell i hi
 exact ⟨hc 0 (by decide), hc 1 (by decide), hc 2 (by decide), hc 3 (by decide), hc 4 (by decide)⟩
theorem LsR.nw {ok : RV × Wd → World → Prop} {A : Option Addr} {l : List (RV × Wd)} {w : World} (h : LsR 4 nwcells ok A l w) (i : Nat) (hi : i < l.length) : RC A i (l[i].1, 0) w := by
 have hc := h.cell i hi
 exact ⟨hc 0 (by decide), hc 1 (by decide), hc 2 (by decide), hc 3 (by decide)⟩
theorem LsR.vw {ok : VwV → World → Prop} {A : Option Addr} {l : List VwV} {w : World} (h : LsR 1 vwcells ok A l w) (i : Nat) (hi : i < l.length) : w.cell? (adr A i) = some (.slice (l[i]).A (l[i]).ts.length (l[i]).c) := by
 have hc := h.cell i hi 0 (by decide)
 rwa [Nat.mul_one, Nat.add_zero] at hc
theorem zbp {α β κ : Type} {f : α → κ} {g : β → κ} {l : List α} {m : List β} (e : l.map f = m.map g) : l.length = m.length ∧ ∀ i (h : i < l.length) (h' : i < m.length), f l[i] = g m[i] := by
 have h0 := congrArg List.length e
 simp only [List.length_map] at h0
 refine ⟨h0, fun i h h' => ?_⟩
 have h1 := congrArg (fun x => x[i]?) e
 simpa [h, h'] using h1
theorem zeE (w : World) (r s : RV) (x y : Wd) (e : x = y) (h : RawW r x w) (h2 : RawW s y w) :
 Calls Tryz.prog 36 #[rA r, rA s] w fun e w' => e = .returned (.bool true) ∧ Below w.heap.size w w' := by
 subst e
 exact zfh w r s x.a x.b x.l x.m h.l h.m h.raw h2.raw
set_option maxRecDepth 100000 in
theorem zcz (w : World) (A B : Option Addr) (c d : Nat) (l m : List (Int)) (h : LsR 1 icells okI A l w) (h2 : LsR 1 icells okI B m w) (hl : l.length ≤ 1000000) (e : l.map id = m.map id) (nl nm : Nat) (hnl : nl = l.length) (hnm : nm = m.length) :
 Calls Tryz.prog 13 #[.slice A nl c, .slice B nm d] w fun e w' => e = .returned (.bool true) ∧ Below w.heap.size w w' := by
 obtain ⟨e0, e1⟩ := zbp e
 have hmn : nm = nl := by rw [hnl, hnm, e0]
 subst hmn
 have sl1 := h.sl
 have sl2 := h2.sl
 rw [← hnl] at sl1
 rw [← hnm] at sl2
 have hsz2 := zaF
 have hadd := za3
 have hnb : nm ≤ 1000000 := by omega
 have Hn := zmZ hnl
 have Hm := zmZ hnm
 have He := zmZ e1
 have Ho := zmZ ((h.old zdf).and (h2.old zdf))
 have Hb := zmZ (Below.refl w.heap.size w)
 clear h h2 hnl hnm e e0 e1 hl
 go_enter Tryz.func13, Tryz.ntmps13
 go_wp2_with fail
 go_loopw [5] (fun iv wr => ∃ i : Nat, iv = .int .i64 (i : Int) ∧ i ≤ nm ∧ Hid (Below w.heap.size w wr)) (fun iv _ => nm - (intOf iv).toNat)
 case atStart => exact ⟨0, rfl, Nat.zero_le _, Hb⟩
 case round =>
  clear Hb
  obtain ⟨i, rfl, hi, Hb⟩ := hrel
  by_cases hlt : i < nm
  ·have hll : i < l.length := by rw [← Hn.out]; exact hlt
   have hlm : i < m.length := by rw [← Hm.out]; exact hlt
   have HO2 := zmZ (Ho.out.below Hb.out).now
   have c1 := HO2.out.1.ic i hll
   have c2 := HO2.out.2.ic i hlm
   have h9 := He.out i hll hlm
   simp only [id] at h9
   rw [← h9] at c2
   obtain ⟨x, hx⟩ : ∃ x, x = l[i] := ⟨_, rfl⟩
   rw [← hx] at c1 c2
   clear hx h9
   go_upto_region 6 with fail
   go_quiet (fail)
   go_wp2_with fail
   go_roundw
   case rel => exact ⟨i + 1, by go_num, by omega, zmZ (Hb.out.trans (Below.drewN (Below.refl _ _) _))⟩
   case measure => (simp [intOf] <;> omega)
  ·obtain rfl : i = nm := by omega
   go_wp2_with fail
   go_ret
   exact ⟨rfl, Hb.out⟩
set_option maxRecDepth 100000 in
theorem zbe (w : World) (A B : Option Addr) (c d : Nat) (l m : List (RV × Wd)) (h : LsR 4 nwcells nwD A l w) (h2 : LsR 4 nwcells nwD B m w) (hl : l.length ≤ 1000000) (e : l.map Prod.snd = m.map Prod.snd) (nl nm : Nat) (hnl : nl = l.length) (hnm : nm = m.length) :
 Calls Tryz.prog 16 #[.slice A nl c, .slice B nm d] w fun e w' => e = .returned (.bool true) ∧ Below w.heap.size w w' := by
 obtain ⟨e0, e1⟩ := zbp e
 have hmn : nm = nl := by rw [hnl, hnm, e0]
 subst hmn
 have sl1 := h.sl
 have sl2 := h2.sl
 rw [← hnl] at sl1
 rw [← hnm] at sl2
 have hsz2 := zak
 have hadd := za3
 have hnb : nm ≤ 1000000 := by omega
 have Hn := zmZ hnl
 have Hm := zmZ hnm
 have He := zmZ e1
 have Ho := zmZ ((h.old zc6).and (h2.old zc6))
 have Hb := zmZ (Below.refl w.heap.size w)
 clear h h2 hnl hnm e e0 e1 hl
 go_enter Tryz.func16, Tryz.ntmps16
 go_wp2_with fail
 go_loopw [5] (fun iv wr => ∃ i : Nat, iv = .int .i64 (i : Int) ∧ i ≤ nm ∧ Hid (Below w.heap.size w wr)) (fun iv _ => nm - (intOf iv).toNat)
 case atStart => exact ⟨0, rfl, Nat.zero_le _, Hb⟩
 case round =>
  clear Hb
  obtain ⟨i, rfl, hi, Hb⟩ := hrel
  by_cases hlt : i < nm
  ·have hll : i < l.length := by rw [← Hn.out]; exact hlt
   have hlm : i < m.length := by rw [← Hm.out]; exact hlt
   have HO2 := zmZ (Ho.out.below Hb.out).now
   have HE := zmZ (Env.start (((HO2.out.1).old zc6).and ((HO2.out.2).old zc6)))
   have HX := zmZ (fun (V : World) (h1 : LsR 4 nwcells nwD A l V) (h2 : LsR 4 nwcells nwD B m V) => And.intro (h1.nw i hll) (h2.nw i hlm))
   have h9 := He.out i hll hlm
   have HP := zmZ (fun (V : World) (h1 : LsR 4 nwcells nwD A l V) => h1.ok _ (List.getElem_mem hll))
   have HQ := zmZ (fun (V : World) (h1 : LsR 4 nwcells nwD B m V) => h1.ok _ (List.getElem_mem hlm))
   obtain ⟨p, hp⟩ : ∃ p, p = l[i] := ⟨_, rfl⟩
   obtain ⟨q, hq⟩ : ∃ q, q = m[i] := ⟨_, rfl⟩
   rw [← hp] at HX h9 HP
   rw [← hq] at HX h9 HQ
   have H9 := zmZ h9
   clear h9 hp hq HO2
   have c := HX.out _ HE.out.o.1 HE.out.o.2
   go_upto_region 6 with fail
   go_region_held3 (fun V => RC A i (p.1, 0) V ∧ RC B i (q.1, 0) V) (first | with_reducible exact c | with_reducible exact HX.out _ HE.out.drew.o.1 HE.out.drew.o.2 | ((repeat' apply And.intro) <;> go_keep) | exact c)
    (first
     | (go_at_call 36; go_must (refine (zeE _ p.1 q.1 p.2 q.2 H9.out (by first | exact HP.out _ HE.out.o.1 | exact HP.out _ HE.out.drew.o.1) (by first | exact HQ.out _ HE.out.o.2 | exact HQ.out _ HE.out.drew.o.2)).mono ?_; rintro e w1 ⟨rfl, hb⟩; replace HE := zmZ (Env.cx HE.out hb); replace c := HX.out _ HE.out.o.1 HE.out.o.2; clear hb)))
   go_wp2_with fail
   go_roundw
   case rel => exact ⟨i + 1, by go_num, by omega, zmZ (Below.after Hb.out (by first | exact HE.out.bel | exact HE.out.drew.bel))⟩
   case measure => (simp [intOf] <;> omega)
  ·obtain rfl : i = nm := by omega
   go_wp2_with fail
   go_ret
   exact ⟨rfl, Hb.out⟩
set_option maxRecDepth 100000 in
theorem zeJ (w : World) (A B : Option Addr) (c d : Nat) (l m : List (TwV)) (h : LsR 5 twcells twD A l w) (h2 : LsR 5 twcells twD B m w) (hl : l.length ≤ 1000000) (e : l.map twq = m.map twq) (nl nm : Nat) (hnl : nl = l.length) (hnm : nm = m.length) :
 Calls Tryz.prog 42 #[.slice A nl c, .slice B nm d] w fun e w' => e = .returned (.bool true) ∧ Below w.heap.size w w' := by
 obtain ⟨e0, e1⟩ := zbp e
 have hmn : nm = nl := by rw [hnl, hnm, e0]
 subst hmn
 have sl1 := h.sl
 have sl2 := h2.sl
 rw [← hnl] at sl1
 rw [← hnm] at sl2
 have hsz2 := zbW
 have hadd := za3
 have hnb : nm ≤ 1000000 := by omega
 have Hn := zmZ hnl
 have Hm := zmZ hnm
 have He := zmZ e1
 have Ho := zmZ ((h.old zcn).and (h2.old zcn))
 have Hb := zmZ (Below.refl w.heap.size w)
 clear h h2 hnl hnm e e0 e1 hl
 go_enter Tryz.func42, Tryz.ntmps42
 go_wp2_with fail
 go_loopw [5] (fun iv wr => ∃ i : Nat, iv = .int .i64 (i : Int) ∧ i ≤ nm ∧ Hid (Below w.heap.size w wr)) (fun iv _ => nm - (intOf iv).toNat)
 case atStart => exact ⟨0, rfl, Nat.zero_le _, Hb⟩
 case round =>
  clear Hb
  obtain ⟨i, rfl, hi, Hb⟩ := hrel
  by_cases hlt : i < nm
  ·have hll : i < l.length := by rw [← Hn.out]; exact hlt
   have hlm : i < m.length := by rw [← Hm.out]; exact hlt
   have HO2 := zmZ (Ho.out.below Hb.out).now
   have HE := zmZ (Env.start (((HO2.out.1).old zcn).and ((HO2.out.2).old zcn)))
   have HX := zmZ (fun (V : World) (h1 : LsR 5 twcells twD A l V) (h2 : LsR 5 twcells twD B m V) => And.intro (h1.tw i hll) (h2.tw i hlm))
   have h9 := He.out i hll hlm
   have HP := zmZ (fun (V : World) (h1 : LsR 5 twcells twD A l V) => h1.ok _ (List.getElem_mem hll))
   have HQ := zmZ (fun (V : World) (h1 : LsR 5 twcells twD B m V) => h1.ok _ (List.getElem_mem hlm))
   obtain ⟨p, hp⟩ : ∃ p, p = l[i] := ⟨_, rfl⟩
   obtain ⟨q, hq⟩ : ∃ q, q = m[i] := ⟨_, rfl⟩
   rw [← hp] at HX h9 HP
   rw [← hq] at HX h9 HQ
   have H9 := zmZ h9
   clear h9 hp hq HO2
   have c := HX.out _ HE.out.o.1 HE.out.o.2
   have H8 := zmZ (congrArg Prod.snd H9.out)
   have h7 : p.pl = q.pl := congrArg Prod.fst H9.out
   have h6 : (p.pl != q.pl) = false := by simp [h7]
   have H7 := zmZ h7
   clear h7
   dsimp only [twq] at H8
   go_upto_region 6 with fail
   go_region_held3 (fun V => TC A i ⟨p.pl, p.r, 0⟩ V ∧ TC B i ⟨q.pl, q.r, 0⟩ V) (first | with_reducible exact c | with_reducible exact HX.out _ HE.out.drew.o.1 HE.out.drew.o.2 | ((repeat' apply And.intro) <;> go_keep) | exact c)
    (first
     | (go_at_call 36; go_must (refine (zeE _ p.r q.r p.x q.x H8.out (by first | exact HP.out _ HE.out.o.1 | exact HP.out _ HE.out.drew.o.1) (by first | exact HQ.out _ HE.out.o.2 | exact HQ.out _ HE.out.drew.o.2)).mono ?_; rintro e w1 ⟨rfl, hb⟩; replace HE := zmZ (Env.cx HE.out hb); replace c := HX.out _ HE.out.o.1 HE.out.o.2; clear hb)))
   go_wp2_with fail
   go_roundw
   case rel => exact ⟨i + 1, by go_num, by omega, zmZ (Below.after Hb.out (by first | exact HE.out.bel | exact HE.out.drew.bel))⟩
   case measure => (simp [intOf] <;> omega)
  ·obtain rfl : i = nm := by omega
   go_wp2_with fail
   go_ret
   exact ⟨rfl, Hb.out⟩
set_option maxRecDepth 100000 in
theorem zdc (w : World) (A B : Option Addr) (c d : Nat) (l m : List (GrV)) (h : LsR 1 grcells grD A l w) (h2 : LsR 1 grcells grD B m w) (hl : l.length ≤ 1000000) (hs : ∀ g ∈ l, g.l.length ≤ 1000000) (e : l.map GrV.l = m.map GrV.l) (nl nm : Nat) (hnl : nl = l.length) (hnm : nm = m.length) :
 Calls Tryz.prog 55 #[.slice A nl c, .slice B nm d] w fun e w' => e = .returned (.bool true) ∧ Below w.heap.size w w' := by
 obtain ⟨e0, e1⟩ := zbp e
 have hmn : nm = nl := by rw [hnl, hnm, e0]
 subst hmn
 have sl1 := h.sl
 have sl2 := h2.sl
 rw [← hnl] at sl1
 rw [← hnm] at sl2
 have hsz2 := zbt
 have hadd := za3
 have hnb : nm ≤ 1000000 := by omega
 have Hn := zmZ hnl
 have Hm := zmZ hnm
 have He := zmZ e1
 have Hs := zmZ hs
 clear hs
 have Ho := zmZ ((h.old zc1).and (h2.old zc1))
 have Hb := zmZ (Below.refl w.heap.size w)
 clear h h2 hnl hnm e e0 e1 hl
 go_enter Tryz.func55, Tryz.ntmps55
 go_wp2_with fail
 go_loopw [5] (fun iv wr => ∃ i : Nat, iv = .int .i64 (i : Int) ∧ i ≤ nm ∧ Hid (Below w.heap.size w wr)) (fun iv _ => nm - (intOf iv).toNat)
 case atStart => exact ⟨0, rfl, Nat.zero_le _, Hb⟩
 case round =>
  clear Hb
  obtain ⟨i, rfl, hi, Hb⟩ := hrel
  by_cases hlt : i < nm
  ·have hll : i < l.length := by rw [← Hn.out]; exact hlt
   have hlm : i < m.length := by rw [← Hm.out]; exact hlt
   have HO2 := zmZ (Ho.out.below Hb.out).now
   have HE := zmZ (Env.start (((HO2.out.1).old zc1).and ((HO2.out.2).old zc1)))
   have HX := zmZ (fun (V : World) (h1 : LsR 1 grcells grD A l V) (h2 : LsR 1 grcells grD B m V) => And.intro (h1.gc i hll) (h2.gc i hlm))
   have h9 := He.out i hll hlm
   have HP := zmZ (fun (V : World) (h1 : LsR 1 grcells grD A l V) => h1.ok _ (List.getElem_mem hll))
   have HQ := zmZ (fun (V : World) (h1 : LsR 1 grcells grD B m V) => h1.ok _ (List.getElem_mem hlm))
   obtain ⟨p, hp⟩ : ∃ p, p = l[i] := ⟨_, rfl⟩
   obtain ⟨q, hq⟩ : ∃ q, q = m[i] := ⟨_, rfl⟩
   rw [← hp] at HX h9 HP
   rw [← hq] at HX h9 HQ
   have H9 := zmZ h9
   have Hmp := zmZ (show p ∈ l by rw [hp]; exact List.getElem_mem hll)
   clear h9 hp hq HO2
   have c := HX.out _ HE.out.o.1 HE.out.o.2
   go_upto_region 6 with fail
   go_region_held3 (fun V => V.cell? (adr A i) = some (.slice p.A p.l.length p.c) ∧ V.cell? (adr B i) = some (.slice q.A q.l.length q.c)) (first | with_reducible exact c | with_reducible exact HX.out _ HE.out.drew.o.1 HE.out.drew.o.2 | ((repeat' apply And.intro) <;> go_keep) | exact c)
    (first
     | (go_at_call 13; go_must (refine (zcz _ p.A q.A p.c q.c p.l q.l (by first | exact HP.out _ HE.out.o.1 | exact HP.out _ HE.out.drew.o.1) (by first | exact HQ.out _ HE.out.o.2 | exact HQ.out _ HE.out.drew.o.2) (Hs.out p Hmp.out) (by rw [H9.out]) _ _ rfl rfl).mono ?_; rintro e w1 ⟨rfl, hb⟩; replace HE := zmZ (Env.cx HE.out hb); replace c := HX.out _ HE.out.o.1 HE.out.o.2; clear hb)))
   go_wp2_with fail
   go_roundw
   case rel => exact ⟨i + 1, by go_num, by omega, zmZ (Below.after Hb.out (by first | exact HE.out.bel | exact HE.out.drew.bel))⟩
   case measure => (simp [intOf] <;> omega)
  ·obtain rfl : i = nm := by omega
   go_wp2_with fail
   go_ret
   exact ⟨rfl, Hb.out⟩
set_option maxRecDepth 100000 in
theorem zcG (w : World) (A B : Option Addr) (c d : Nat) (l m : List (VwV)) (h : LsR 1 vwcells vwD A l w) (h2 : LsR 1 vwcells vwD B m w) (hl : l.length ≤ 1000000) (hs : ∀ v ∈ l, v.ts.length ≤ 1000000) (e : l.map vwq = m.map vwq) (nl nm : Nat) (hnl : nl = l.length) (hnm : nm = m.length) :
 Calls Tryz.prog 22 #[.slice A nl c, .slice B nm d] w fun e w' => e = .returned (.bool true) ∧ Below w.heap.size w w' := by
 obtain ⟨e0, e1⟩ := zbp e
 have hmn : nm = nl := by rw [hnl, hnm, e0]
 subst hmn
 have sl1 := h.sl
 have sl2 := h2.sl
 rw [← hnl] at sl1
 rw [← hnm] at sl2
 have hsz2 := zb9
 have hadd := za3
 have hnb : nm ≤ 1000000 := by omega
 have Hn := zmZ hnl
 have Hm := zmZ hnm
 have He := zmZ e1
 have Hs := zmZ hs
 clear hs
 have Ho := zmZ ((h.old zcq).and (h2.old zcq))
 have Hb := zmZ (Below.refl w.heap.size w)
 clear h h2 hnl hnm e e0 e1 hl
 go_enter Tryz.func22, Tryz.ntmps22
 go_wp2_with fail
 go_loopw [5] (fun iv wr => ∃ i : Nat, iv = .int .i64 (i : Int) ∧ i ≤ nm ∧ Hid (Below w.heap.size w wr)) (fun iv _ => nm - (intOf iv).toNat)
 case atStart => exact ⟨0, rfl, Nat.zero_le _, Hb⟩
 case round =>
  clear Hb
  obtain ⟨i, rfl, hi, Hb⟩ := hrel
  by_cases hlt : i < nm
  ·have hll : i < l.length := by rw [← Hn.out]; exact hlt
   have hlm : i < m.length := by rw [← Hm.out]; exact hlt
   have HO2 := zmZ (Ho.out.below Hb.out).now
   have HE := zmZ (Env.start (((HO2.out.1).old zcq).and ((HO2.out.2).old zcq)))
   have HX := zmZ (fun (V : World) (h1 : LsR 1 vwcells vwD A l V) (h2 : LsR 1 vwcells vwD B m V) => And.intro (h1.vw i hll) (h2.vw i hlm))
   have h9 := He.out i hll hlm
   have HP := zmZ (fun (V : World) (h1 : LsR 1 vwcells vwD A l V) => h1.ok _ (List.getElem_mem hll))
   have HQ := zmZ (fun (V : World) (h1 : LsR 1 vwcells vwD B m V) => h1.ok _ (List.getElem_mem hlm))
   obtain ⟨p, hp⟩ : ∃ p, p = l[i] := ⟨_, rfl⟩
   obtain ⟨q, hq⟩ : ∃ q, q = m[i] := ⟨_, rfl⟩
   rw [← hp] at HX h9 HP
   rw [← hq] at HX h9 HQ
   have H9 := zmZ h9
   have Hmp := zmZ (show p ∈ l by rw [hp]; exact List.getElem_mem hll)
   clear h9 hp hq HO2
   have c := HX.out _ HE.out.o.1 HE.out.o.2
   go_upto_region 6 with fail
   go_region_held3 (fun V => V.cell? (adr A i) = some (.slice p.A p.ts.length p.c) ∧ V.cell? (adr B i) = some (.slice q.A q.ts.length q.c)) (first | with_reducible exact c | with_reducible exact HX.out _ HE.out.drew.o.1 HE.out.drew.o.2 | ((repeat' apply And.intro) <;> go_keep) | exact c)
    (first
     | (go_at_call 42; go_must (refine (zeJ _ p.A q.A p.c q.c p.ts q.ts (by first | exact HP.out _ HE.out.o.1 | exact HP.out _ HE.out.drew.o.1) (by first | exact HQ.out _ HE.out.o.2 | exact HQ.out _ HE.out.drew.o.2) (Hs.out p Hmp.out) H9.out _ _ rfl rfl).mono ?_; rintro e w1 ⟨rfl, hb⟩; replace HE := zmZ (Env.cx HE.out hb); replace c := HX.out _ HE.out.o.1 HE.out.o.2; clear hb)))
   go_wp2_with fail
   go_roundw
   case rel => exact ⟨i + 1, by go_num, by omega, zmZ (Below.after Hb.out (by first | exact HE.out.bel | exact HE.out.drew.bel))⟩
   case measure => (simp [intOf] <;> omega)
  ·obtain rfl : i = nm := by omega
   go_wp2_with fail
   go_ret
   exact ⟨rfl, Hb.out⟩
structure LwS (l : LaW) : Prop where
 rows : l.rows.length ≤ 1000000
 row : ∀ v ∈ l.rows, v.ts.length ≤ 1000000
 bias : l.bias.length ≤ 1000000
 kern : l.kern.length ≤ 1000000
 grs : l.grs.length ≤ 1000000
 gr : ∀ g ∈ l.grs, g.l.length ≤ 1000000
structure LensW (l : LaW) (nr nb nk ng : Nat) : Prop where
 r : nr = l.rows.length
 b : nb = l.bias.length
 k : nk = l.kern.length
 g : ng = l.grs.length
set_option maxRecDepth 100000 in
theorem zdJ (w : World) (l m : LaW) (h : LwD l w) (h2 : LwD m w) (hs : LwS l) (hq : l.wq = m.wq) (nr nb nk ng nr2 nb2 nk2 ng2 : Nat) (HL : Hid (LensW l nr nb nk ng)) (HM : Hid (LensW m nr2 nb2 nk2 ng2)) : Calls Tryz.prog 32 #[lA l nr nb nk ng, lA m nr2 nb2 nk2 ng2] w fun e w' => e = .returned (.bool true) ∧ Below w.heap.size w w' := by
 have E := hq
 unfold LaG.wq at E
 simp only [WQ.mk.injEq, List.cons.injEq, and_true] at E
 obtain ⟨ek, er, eb, ⟨d1, d2, d3, d4, d5, d6, d7, d8⟩, ekn, eg⟩ := E
 have ek' : (l.kind == m.kind) = true := by simp [ek]
 have d1' : (l.ch == m.ch) = true := by simp [d1]
 have d2' : (l.high == m.high) = true := by simp [d2]
 have d3' : (l.wide == m.wide) = true := by simp [d3]
 have d4' : (l.out == m.out) = true := by simp [d4]
 have d5' : (l.kh == m.kh) = true := by simp [d5]
 have d6' : (l.kw == m.kw) = true := by simp [d6]
 have d7' : (l.st == m.st) = true := by simp [d7]
 have d8' : (l.pad == m.pad) = true := by simp [d8]
 have Er := zmZ er
 have Eb := zmZ eb
 have Ekn := zmZ ekn
 have Eg := zmZ eg
 have Hs := zmZ hs
 clear hq ek er eb ekn eg d1 d2 d3 d4 d5 d6 d7 d8 hs
 obtain ⟨W0, hW0⟩ : ∃ W0, W0 = ((w.alloc (.cells #[.int .u8 l.kind, .slice l.Ar nr l.cr, .slice l.Ab nb l.cb, .int .i64 l.ch, .int .i64 l.high, .int .i64 l.wide, .int .i64 l.out, .int .i64 l.kh, .int .i64 l.kw, .int .i64 l.st, .int .i64 l.pad, .slice l.Ak nk l.ck, .slice l.Ag ng l.cg] 36)).alloc (.cells #[.int .u8 m.kind, .slice m.Ar nr2 m.cr, .slice m.Ab nb2 m.cb, .int .i64 m.ch, .int .i64 m.high, .int .i64 m.wide, .int .i64 m.out, .int .i64 m.kh, .int .i64 m.kw, .int .i64 m.st, .int .i64 m.pad, .slice m.Ak nk2 m.ck, .slice m.Ag ng2 m.cg] 36)) := ⟨_, rfl⟩
 have HE := zmZ (Env.lay2 (Env.start (((LwD.old l w h)).and ((LwD.old m w h2)))) hW0)
 subst hW0
 have c := Env.c2 HE.out
 have dd := Env.d2 HE.out
 clear h h2
 unfold lA
 go_enter Tryz.func32, Tryz.ntmps32
 go_wp2_with fail
 refine (zcG _ l.Ar m.Ar l.cr m.cr l.rows m.rows HE.out.o.1.rows HE.out.o.2.rows Hs.out.rows Hs.out.row Er.out nr nr2 HL.out.r HM.out.r).mono ?_
 rintro e w1 ⟨rfl, hb⟩
 replace HE := zmZ (Env.call HE.out hb)
 replace c := Env.c2 HE.out
 clear hb
 go_wp2_with fail
 refine (zbe _ l.Ab m.Ab l.cb m.cb l.bias m.bias HE.out.o.1.bias HE.out.o.2.bias Hs.out.bias Eb.out nb nb2 HL.out.b HM.out.b).mono ?_
 rintro e w1 ⟨rfl, hb⟩
 replace HE := zmZ (Env.call HE.out hb)
 replace c := Env.c2 HE.out
 clear hb
 go_wp2_with fail
 refine (zbe _ l.Ak m.Ak l.ck m.ck l.kern m.kern HE.out.o.1.kern HE.out.o.2.kern Hs.out.kern Ekn.out nk nk2 HL.out.k HM.out.k).mono ?_
 rintro e w1 ⟨rfl, hb⟩
 replace HE := zmZ (Env.call HE.out hb)
 replace c := Env.c2 HE.out
 clear hb
 go_wp2_with fail
 refine (zdc _ l.Ag m.Ag l.cg m.cg l.grs m.grs HE.out.o.1.grs HE.out.o.2.grs Hs.out.grs Hs.out.gr Eg.out ng ng2 HL.out.g HM.out.g).mono ?_
 rintro e w1 ⟨rfl, hb⟩
 replace HE := zmZ (Env.call HE.out hb)
 replace c := Env.c2 HE.out
 clear hb
 go_wp2_with fail
 exact bodyPost_ret (v := .bool true) (by simp [results, Tryz.results32, go_sem]) rfl ⟨rfl, HE.out.bel⟩
set_option maxRecDepth 100000 in
theorem zcY (w : World) (f g : NeW) (h : NwD f w) (h2 : NwD g w) (hs : ∀ l ∈ f.las, LwS l) (hl : f.las.length ≤ 1000000) (hq : f.wq = g.wq) (nl nm : Nat) (hnl : nl = f.las.length) (hnm : nm = g.las.length) : Calls Tryz.prog 11 #[.agg #[.int .i64 f.inputs, .slice f.A nl f.c], .agg #[.int .i64 g.inputs, .slice g.A nm g.c]] w fun e w' => e = .returned (.bool true) ∧ Below w.heap.size w w' := by
 obtain ⟨e0, e1⟩ := zbp (congrArg Prod.snd hq : f.las.map LaG.wq = g.las.map LaG.wq)
 have ei : f.inputs = g.inputs := congrArg Prod.fst hq
 have ei' : (f.inputs != g.inputs) = false := by simp [ei]
 have Ei := zmZ ei
 have hmn : nm = nl := by rw [hnl, hnm, e0]
 subst hmn
 have sl1 := h.sl
 have sl2 := h2.sl
 rw [← hnl] at sl1
 rw [← hnm] at sl2
 have hsz1 := zb5
 have hadd := za3
 have hnb : nm ≤ 1000000 := by omega
 have Hn := zmZ hnl
 have Hm := zmZ hnm
 have He := zmZ e1
 have Hs := zmZ hs
 obtain ⟨W0, hW0⟩ : ∃ W0, W0 = ((w.alloc (.cells #[.int .i64 f.inputs, .slice f.A nm f.c] 24)).alloc (.cells #[.int .i64 g.inputs, .slice g.A nm g.c] 24)) := ⟨_, rfl⟩
 have HE := zmZ (Env.lay2 (Env.start ((h.old).and (h2.old))) hW0)
 subst hW0
 have c := Env.c2 HE.out
 have dd := Env.d2 HE.out
 clear h h2 hnl hnm e0 e1 hs hq ei hl
 go_enter Tryz.func11, Tryz.ntmps11
 go_wp2_with fail
 clear c
 go_loopw [5] (fun iv wr => ∃ i : Nat, iv = .int .i64 (i : Int) ∧ i ≤ nm ∧ Hid (Env w [⟨w.heap.size + 1, 24, #[.int .i64 g.inputs, .slice g.A nm g.c]⟩, ⟨w.heap.size, 24, #[.int .i64 f.inputs, .slice f.A nm f.c]⟩] (fun V => NwD f V ∧ NwD g V) (fun _ => True) wr)) (fun iv _ => nm - (intOf iv).toNat)
 case atStart => exact ⟨0, rfl, Nat.zero_le _, HE⟩
 case round =>
  clear HE
  obtain ⟨i, rfl, hi, HE⟩ := hrel
  by_cases hlt : i < nm
  ·have hll : i < f.las.length := by rw [← Hn.out]; exact hlt
   have hlm : i < g.las.length := by rw [← Hm.out]; exact hlt
   have HX := zmZ (fun (V : World) (h : Env w [⟨w.heap.size + 1, 24, #[.int .i64 g.inputs, .slice g.A nm g.c]⟩, ⟨w.heap.size, 24, #[.int .i64 f.inputs, .slice f.A nm f.c]⟩] (fun V => NwD f V ∧ NwD g V) (fun _ => True) V) => And.intro (Env.c2 h) (And.intro (h.o.1.lac i hll) (h.o.2.lac i hlm)))
   have h9 := He.out i hll hlm
   have HP := zmZ (fun (V : World) (h1 : NwD f V) => h1.ok _ (List.getElem_mem hll))
   have HQ := zmZ (fun (V : World) (h1 : NwD g V) => h1.ok _ (List.getElem_mem hlm))
   have HS := zmZ (Hs.out _ (List.getElem_mem hll))
   obtain ⟨p, hp⟩ : ∃ p, p = f.las[i] := ⟨_, rfl⟩
   obtain ⟨q, hq⟩ : ∃ q, q = g.las[i] := ⟨_, rfl⟩
   rw [← hp] at HX h9 HP HS
   rw [← hq] at HX h9 HQ
   have H9 := zmZ h9
   clear h9 hp hq
   have c := HX.out _ HE.out
   go_upto_region 6 with fail
   go_region_held3 (fun V => (CB (w.heap.size + 1) #[.int .i64 g.inputs, .slice g.A nm g.c] V ∧ CB (w.heap.size) #[.int .i64 f.inputs, .slice f.A nm f.c] V) ∧ LC f.A i p V ∧ LC g.A i q V) (first | with_reducible exact c | with_reducible exact HX.out _ HE.out.drew | ((repeat' apply And.intro) <;> go_keep) | exact c)
    (first
     | (go_at_call 32; go_must (refine (zdJ _ p q (by first | exact HP.out _ HE.out.o.1 | exact HP.out _ HE.out.drew.o.1) (by first | exact HQ.out _ HE.out.o.2 | exact HQ.out _ HE.out.drew.o.2) HS.out H9.out _ _ _ _ _ _ _ _ (zmZ ⟨rfl, rfl, rfl, rfl⟩) (zmZ ⟨rfl, rfl, rfl, rfl⟩)).mono ?_; rintro e w1 ⟨rfl, hb⟩; replace HE := zmZ (Env.cx HE.out hb); replace c := HX.out _ HE.out; clear hb)))
   go_wp2_with fail
   go_roundw
   case rel => exact ⟨i + 1, by go_num, by omega, (by first | exact HE | exact zmZ HE.out.drew)⟩
   case measure => (simp [intOf] <;> omega)
  ·obtain rfl : i = nm := by omega
   have c := Env.c2 HE.out
   go_wp2_with fail
   go_ret
   exact ⟨rfl, HE.out.bel⟩

theorem zdj (p : RV × Wd) : ∀ u ∈ (nwcells p).toList, u.oneCell' = true := by simp [nwcells, Value.oneCell']
theorem zdz (p : TwV) : ∀ u ∈ (twcells p).toList, u.oneCell' = true := by simp [twcells, Value.oneCell']
theorem zdh (v : VwV) : ∀ u ∈ (vwcells v).toList, u.oneCell' = true := by simp [vwcells, Value.oneCell']
theorem zdv (l : LaW) : ∀ u ∈ (lacells l).toList, u.oneCell' = true := by simp [lacells, Value.oneCell']
theorem zcW (w : World) (A : Option Addr) (c : Nat) (l : List Int) (hl : l.length ≤ 1000000) (h : LsR 1 icells okI A l w) :
 ∃ v' w', (Builtin.append_ #[46, 46] 46 #[.slice none 0 0, .slice A l.length c]).run Tryz.prog w = .ok v' w' ∧ OwnE w' w.heap.size 3 1 v' (l.map icells) ∧ Below w.heap.size w w' := by
 obtain ⟨i0, hi0, hz0, hz1, hz2⟩ := info_parts zcB
 cases A with
 | none =>
  have h0 : l = [] := by
   rcases Nat.eq_zero_or_pos l.length with h9 | h9
   ·exact List.eq_nil_of_length_eq_zero h9
   ·obtain ⟨b, o, e⟩ := h.sl h9; cases e
  subst h0
  exact ⟨.slice none 0 0, w, by simp [Builtin.append_, run_underlying zcf, sizeOf, typeInfo, hi0, Builtin.lenOf, Builtin.firstCells], OwnE.nil_ _ _ _ _, Below.refl _ _⟩
 | some a =>
  obtain ⟨v', w', hrun, ho, hb⟩ := OwnE.apps' (P := Tryz.prog) (c := c) zcf zcB rfl (by decide) (OwnE.nil_ w w.heap.size 3 1) h.el (fun d hd u hu => by
   obtain ⟨z, -, rfl⟩ := List.mem_map.1 hd
   exact zdT z u hu) (by simp; omega) (by simp [maxLen]; omega) (Nat.le_refl _)
  rw [List.length_map] at hrun
  exact ⟨v', w', hrun, by simpa using ho, hb⟩
set_option maxRecDepth 100000 in
theorem zkw (w : World) (A : Option Addr) (c : Nat) (l : List Int) (h : LsR 1 icells okI A l w) (hl : l.length ≤ 1000000) (nl : Nat) (hnl : nl = l.length) :
 Calls Tryz.prog 26 #[.slice A nl c] w (CpRes 1 icells okI id (l.map id) w) := by
 obtain ⟨v', w', hrun, ho, hb⟩ := zcW w A c l hl h
 rw [← hnl] at hrun
 obtain ⟨A1, c1, hv, hc1, hr1⟩ := ho.reads
 rw [List.length_map] at hv hc1
 subst hv
 have Hrun := zmZ hrun
 have Hc := zmZ hc1
 have Hr := zmZ hr1
 have Hb := zmZ hb
 clear hrun ho hb h hnl hl hc1 hr1
 go_enter Tryz.func26, Tryz.ntmps26
 go_wp2_with (at_builtin; refine za1 rfl (.tmp 4) (.tmp 5) 46 _ _ _ rfl rfl rfl Hrun.out ?_)
 go_ret
 exact ⟨A1, c1, l, rfl, Hc.out, rfl, Hr.out.imp fun V h => ⟨h, fun _ _ => trivial⟩, Hb.out⟩
theorem zeI (w : World) (r : RV) (x : Wd) (h : RawW r x w) : Calls Tryz.prog 44 #[rA r] w fun e w' => ∃ y : RV × Wd, e = .returned (.agg #[.bool y.1.num.neg, .slice y.1.num.A y.1.num.k y.1.num.c, .bool y.1.den.neg, .slice y.1.den.A y.1.den.k y.1.den.c]) ∧ y.2 = x ∧ Rests w' (w.heap.size ≤ ·) (nwD y) ∧ Below w.heap.size w w' :=
 (zfz w r x.a x.b x.l x.m h.l h.m h.raw).mono fun _e _w' ⟨y, h1, h2, h3⟩ => ⟨(y, x), h1, rfl, h2.imp fun _V k => ⟨k, h.l, h.m⟩, h3⟩
set_option maxRecDepth 100000 in
theorem zhQ (w : World) (A : Option Addr) (c : Nat) (l : List (RV × Wd)) (h : LsR 4 nwcells nwD A l w) (hl : l.length ≤ 100000)  (nl : Nat) (hnl : nl = l.length) :
 Calls Tryz.prog 25 #[.slice A nl c] w (CpRes 4 (nwcells : RV × Wd → Array Value) nwD (Prod.snd) (l.map (Prod.snd)) w) := by
 have sl1 := h.sl
 rw [← hnl] at sl1
 have hsz2 := zak
 have hadd := za3
 have hnb : nl ≤ 100000 := by omega
 have Hn := zmZ hnl
 have Hl := zmZ hl
 have HG := zmZ ((GL.start (Env.start (h.old zc6))).new_ 41 4)
 clear h hnl hl
 go_enter Tryz.func25, Tryz.ntmps25
 go_wp2_with fail
 go_loopw [3, 4] (fun ov iv wr => ∃ (Ao : Option Addr) (co i : Nat) (os : List (RV × Wd)), ov = .slice Ao os.length co ∧ iv = .int .i64 (i : Int) ∧ i ≤ nl ∧ Hid (os.map (Prod.snd) = (l.take i).map (Prod.snd)) ∧ Hid (GL w [⟨41, 4, .slice Ao os.length co, os.map nwcells⟩] (fun V => LsR 4 nwcells nwD A l V) (fun V => ∀ y ∈ os, nwD y V) wr)) (fun _ iv _ => nl - (intOf iv).toNat)
 case atStart => exact ⟨none, 0, 0, [], rfl, rfl, Nat.zero_le _, zmZ rfl, zmZ (HG.out.imp (fun _ h => h.2) (fun _ _ => by simp))⟩
 case round =>
  clear HG
  obtain ⟨Ao, co, i, os, rfl, rfl, hi, HM, HG⟩ := hrel
  by_cases hlt : i < nl
  ·have hlt2 : i < l.length := by rw [← Hn.out]; exact hlt
   have HE := zmZ HG.out.env
   have HX := zmZ (fun (V : World) (h : LsR 4 nwcells nwD A l V) => h.nw i hlt2)
   have HM2 := zmZ (fun (y : Wd) (hy : y = (Prod.snd) l[i]) => zau HM.out hlt2 hy)
   have hos := congrArg List.length HM.out
   rw [List.length_map, List.length_map, List.length_take] at hos
   have hosl : os.length ≤ 100000 := by have := Hl.out; omega
   clear hos
   have HP := zmZ (fun (V : World) (h1 : LsR 4 nwcells nwD A l V) => h1.ok _ (List.getElem_mem hlt2))
   obtain ⟨p, hp⟩ : ∃ p, p = l[i] := ⟨_, rfl⟩
   rw [← hp] at HX HM2 HP
   have Hm := zmZ (show p ∈ l by rw [hp]; exact List.getElem_mem hlt2)
   clear hp
   have c0 := HX.out _ HE.out.o.1
   go_wp2_with fail
   refine (zeI _ p.1 p.2 (HP.out _ HE.out.o.1)).mono ?_
   rintro e w3 ⟨y, rfl, hy, hk, hb⟩
   have HM3 := zmZ (HM2.out _ hy)
   replace HE := zmZ (Env.ret HE.out hk hb)
   obtain ⟨A', c', w8, hrun, hG⟩ := GL.appX (cells := nwcells) zb0 zbO rfl (by decide) (by decide) HG.out HE.out y rfl (zdj y) (by omega)
   have Hrun := zmZ hrun
   have HG2 := zmZ hG
   clear hrun hG hk hb hy c0
   go_wp2_with (at_builtin; refine za1 rfl (.tmp 11) (.tmp 17) 33 _ _ _ rfl rfl rfl Hrun.out ?_)
   clear Hrun
   go_wp2_with fail
   go_roundw
   case rel => exact ⟨A', c', i + 1, os ++ [y], by simp, by go_num, by omega, zmZ (by rw [List.map_append]; exact HM3.out), zmZ (HG2.out.imp (fun _ h => h) (fun V h p hp => by
    rcases List.mem_append.1 hp with hp | hp
    ·exact h.2 p hp
    ·rw [List.mem_singleton.1 hp]; exact h.1.1))⟩
   case measure => (simp [intOf] <;> omega)
  ·obtain rfl : i = nl := by omega
   obtain ⟨A', c', hv, hc, hr⟩ := HG.out.tell (cells := nwcells) (ok := nwD) (l := os) (fun V h => h)
   obtain ⟨rfl, rfl⟩ : Ao = A' ∧ co = c' := by simpa using hv
   have Hr := zmZ hr
   have Hc := zmZ hc
   have Hbel := zmZ HG.out.bel
   clear hr hv HG hc
   go_wp2_with fail
   go_ret
   exact ⟨Ao, co, os, rfl, Hc.out, by rw [HM.out, Hn.out, List.take_length], Hr.out, Hbel.out⟩
set_option maxRecDepth 100000 in
theorem zmm (w : World) (A : Option Addr) (c : Nat) (l : List (TwV)) (h : LsR 5 twcells twD A l w) (hl : l.length ≤ 100000)  (nl : Nat) (hnl : nl = l.length) :
 Calls Tryz.prog 43 #[.slice A nl c] w (CpRes 5 (twcells : TwV → Array Value) twD (twq) (l.map (twq)) w) := by
 have sl1 := h.sl
 rw [← hnl] at sl1
 have hsz2 := zas
 have hadd := za3
 have hnb : nl ≤ 100000 := by omega
 have Hn := zmZ hnl
 have Hl := zmZ hl
 have HG := zmZ ((GL.start (Env.start (h.old zcn))).new_ 45 5)
 clear h hnl hl
 go_enter Tryz.func43, Tryz.ntmps43
 go_wp2_with fail
 go_loopw [3, 4] (fun ov iv wr => ∃ (Ao : Option Addr) (co i : Nat) (os : List (TwV)), ov = .slice Ao os.length co ∧ iv = .int .i64 (i : Int) ∧ i ≤ nl ∧ Hid (os.map (twq) = (l.take i).map (twq)) ∧ Hid (GL w [⟨45, 5, .slice Ao os.length co, os.map twcells⟩] (fun V => LsR 5 twcells twD A l V) (fun V => ∀ y ∈ os, twD y V) wr)) (fun _ iv _ => nl - (intOf iv).toNat)
 case atStart => exact ⟨none, 0, 0, [], rfl, rfl, Nat.zero_le _, zmZ rfl, zmZ (HG.out.imp (fun _ h => h.2) (fun _ _ => by simp))⟩
 case round =>
  clear HG
  obtain ⟨Ao, co, i, os, rfl, rfl, hi, HM, HG⟩ := hrel
  by_cases hlt : i < nl
  ·have hlt2 : i < l.length := by rw [← Hn.out]; exact hlt
   have HE := zmZ HG.out.env
   have HX := zmZ (fun (V : World) (h : LsR 5 twcells twD A l V) => h.tw i hlt2)
   have HM2 := zmZ (fun (y : Int × Wd) (hy : y = (twq) l[i]) => zau HM.out hlt2 hy)
   have hos := congrArg List.length HM.out
   rw [List.length_map, List.length_map, List.length_take] at hos
   have hosl : os.length ≤ 100000 := by have := Hl.out; omega
   clear hos
   have HP := zmZ (fun (V : World) (h1 : LsR 5 twcells twD A l V) => h1.ok _ (List.getElem_mem hlt2))
   obtain ⟨p, hp⟩ : ∃ p, p = l[i] := ⟨_, rfl⟩
   rw [← hp] at HX HM2 HP
   have Hm := zmZ (show p ∈ l by rw [hp]; exact List.getElem_mem hlt2)
   clear hp
   have c0 := HX.out _ HE.out.o.1
   go_upto_region 5 with fail
   go_region_held3 (fun V => TC A i ⟨p.pl, p.r, 0⟩ V) (first | with_reducible exact c0 | with_reducible exact HX.out _ HE.out.o.1 | with_reducible exact HX.out _ HE.out.drew.o.1 | ((repeat' apply And.intro) <;> go_keep) | exact HX.out _ (HE.out.other _).o.1 | exact HX.out _ (HE.out.drew.other _).o.1)
    (first
     | (go_at_call 44; go_must (refine (zeI _ p.r p.x (by first | exact HP.out _ HE.out.o.1 | exact HP.out _ HE.out.drew.o.1)).mono ?_; rintro e w3 ⟨y, rfl, hy, hk, hb⟩; replace HE := zmZ (Env.rx HE.out hk hb); have HY := zmZ hy; replace c0 := HX.out _ HE.out.o.1; clear hk hb hy))
     | (obtain ⟨A', c', w8, hrun, hG⟩ := GL.appX (cells := twcells) zaK zbz rfl (by decide) (by decide) HG.out HE.out (⟨p.pl, y.1, p.x⟩ : TwV) rfl (zdz _) (by omega); refine zbw rfl (.tmp 11) (.tmp 24) 42 _ _ _ rfl rfl rfl hrun ?_; replace c0 := HX.out _ hG.o; have HG2 := zmZ hG; clear hrun hG HE))
   have HM3 := zmZ (HM2.out (twq ⟨p.pl, y.1, p.x⟩) rfl)
   replace HG2 := zmZ (HG2.out.imp (fun _ h => h) (fun V h => (⟨⟨(show twD ⟨p.pl, y.1, p.x⟩ V from by have h9 := h.1.1; unfold nwD at h9; rw [HY.out] at h9; exact h9), trivial⟩, h.2⟩ : (twD ⟨p.pl, y.1, p.x⟩ V ∧ True) ∧ ∀ y ∈ os, twD y V)))
   go_wp2_with fail
   go_roundw
   case rel => exact ⟨A', c', i + 1, os ++ [⟨p.pl, y.1, p.x⟩], by simp, by go_num, by omega, zmZ (by rw [List.map_append]; exact HM3.out), zmZ (HG2.out.imp (fun _ h => h) (fun V h p hp => by
    rcases List.mem_append.1 hp with hp | hp
    ·exact h.2 p hp
    ·rw [List.mem_singleton.1 hp]; exact h.1.1))⟩
   case measure => (simp [intOf] <;> omega)
  ·obtain rfl : i = nl := by omega
   obtain ⟨A', c', hv, hc, hr⟩ := HG.out.tell (cells := twcells) (ok := twD) (l := os) (fun V h => h)
   obtain ⟨rfl, rfl⟩ : Ao = A' ∧ co = c' := by simpa using hv
   have Hr := zmZ hr
   have Hc := zmZ hc
   have Hbel := zmZ HG.out.bel
   clear hr hv HG hc
   go_wp2_with fail
   go_ret
   exact ⟨Ao, co, os, rfl, Hc.out, by rw [HM.out, Hn.out, List.take_length], Hr.out, Hbel.out⟩
theorem zhP (w : World) (v : VwV) (h : vwD v w) (hl : v.ts.length ≤ 100000) : Calls Tryz.prog 43 #[.slice v.A v.ts.length v.c] w fun e w' => ∃ y : VwV, e = .returned (.slice y.A y.ts.length y.c) ∧ vwq y = vwq v ∧ Rests w' (w.heap.size ≤ ·) (vwD y) ∧ Below w.heap.size w w' :=
 (zmm w v.A v.c v.ts h hl _ rfl).mono fun _e _w' ⟨A, c, os, h1, _h2, h3, h4, h5⟩ => ⟨⟨A, c, os⟩, h1, h3, h4, h5⟩
theorem zgs (w : World) (g : GrV) (h : grD g w) (hl : g.l.length ≤ 1000000) : Calls Tryz.prog 26 #[.slice g.A g.l.length g.c] w fun e w' => ∃ y : GrV, e = .returned (.slice y.A y.l.length y.c) ∧ y.l = g.l ∧ Rests w' (w.heap.size ≤ ·) (grD y) ∧ Below w.heap.size w w' :=
 (zkw w g.A g.c g.l h hl _ rfl).mono fun e w' ⟨A, c, os, h1, h2, h3, h4, h5⟩ => ⟨⟨A, c, os⟩, h1, by simpa using h3, h4, h5⟩
set_option maxRecDepth 100000 in
theorem zkJ (w : World) (A : Option Addr) (c : Nat) (l : List (VwV)) (h : LsR 1 vwcells vwD A l w) (hl : l.length ≤ 100000) (hv : ∀ v ∈ l, v.ts.length ≤ 100000) (nl : Nat) (hnl : nl = l.length) :
 Calls Tryz.prog 24 #[.slice A nl c] w (CpRes 1 (vwcells : VwV → Array Value) vwD (vwq) (l.map (vwq)) w) := by
 have sl1 := h.sl
 rw [← hnl] at sl1
 have hsz2 := zb9
 have hadd := za3
 have hnb : nl ≤ 100000 := by omega
 have Hn := zmZ hnl
 have Hl := zmZ hl
 have Hv := zmZ hv
 clear hv
 have HG := zmZ ((GL.start (Env.start (h.old zcq))).new_ 43 1)
 clear h hnl hl
 go_enter Tryz.func24, Tryz.ntmps24
 go_wp2_with fail
 go_loopw [3, 4] (fun ov iv wr => ∃ (Ao : Option Addr) (co i : Nat) (os : List (VwV)), ov = .slice Ao os.length co ∧ iv = .int .i64 (i : Int) ∧ i ≤ nl ∧ Hid (os.map (vwq) = (l.take i).map (vwq)) ∧ Hid (GL w [⟨43, 1, .slice Ao os.length co, os.map vwcells⟩] (fun V => LsR 1 vwcells vwD A l V) (fun V => ∀ y ∈ os, vwD y V) wr)) (fun _ iv _ => nl - (intOf iv).toNat)
 case atStart => exact ⟨none, 0, 0, [], rfl, rfl, Nat.zero_le _, zmZ rfl, zmZ (HG.out.imp (fun _ h => h.2) (fun _ _ => by simp))⟩
 case round =>
  clear HG
  obtain ⟨Ao, co, i, os, rfl, rfl, hi, HM, HG⟩ := hrel
  by_cases hlt : i < nl
  ·have hlt2 : i < l.length := by rw [← Hn.out]; exact hlt
   have HE := zmZ HG.out.env
   have HX := zmZ (fun (V : World) (h : LsR 1 vwcells vwD A l V) => h.vw i hlt2)
   have HM2 := zmZ (fun (y : List (Int × Wd)) (hy : y = (vwq) l[i]) => zau HM.out hlt2 hy)
   have hos := congrArg List.length HM.out
   rw [List.length_map, List.length_map, List.length_take] at hos
   have hosl : os.length ≤ 100000 := by have := Hl.out; omega
   clear hos
   have HP := zmZ (fun (V : World) (h1 : LsR 1 vwcells vwD A l V) => h1.ok _ (List.getElem_mem hlt2))
   obtain ⟨p, hp⟩ : ∃ p, p = l[i] := ⟨_, rfl⟩
   rw [← hp] at HX HM2 HP
   have Hm := zmZ (show p ∈ l by rw [hp]; exact List.getElem_mem hlt2)
   clear hp
   have c0 := HX.out _ HE.out.o.1
   go_wp2_with fail
   refine (zhP _ p (HP.out _ HE.out.o.1) (Hv.out p Hm.out)).mono ?_
   rintro e w3 ⟨y, rfl, hy, hk, hb⟩
   have HM3 := zmZ (HM2.out _ hy)
   replace HE := zmZ (Env.ret HE.out hk hb)
   obtain ⟨A', c', w8, hrun, hG⟩ := GL.appX (cells := vwcells) zce zd6 rfl (by decide) (by decide) HG.out HE.out y rfl (zdh y) (by omega)
   have Hrun := zmZ hrun
   have HG2 := zmZ hG
   clear hrun hG hk hb hy c0
   go_wp2_with (at_builtin; refine za1 rfl (.tmp 11) (.tmp 17) 32 _ _ _ rfl rfl rfl Hrun.out ?_)
   clear Hrun
   go_wp2_with fail
   go_roundw
   case rel => exact ⟨A', c', i + 1, os ++ [y], by simp, by go_num, by omega, zmZ (by rw [List.map_append]; exact HM3.out), zmZ (HG2.out.imp (fun _ h => h) (fun V h p hp => by
    rcases List.mem_append.1 hp with hp | hp
    ·exact h.2 p hp
    ·rw [List.mem_singleton.1 hp]; exact h.1.1))⟩
   case measure => (simp [intOf] <;> omega)
  ·obtain rfl : i = nl := by omega
   obtain ⟨A', c', hv, hc, hr⟩ := HG.out.tell (cells := vwcells) (ok := vwD) (l := os) (fun V h => h)
   obtain ⟨rfl, rfl⟩ : Ao = A' ∧ co = c' := by simpa using hv
   have Hr := zmZ hr
   have Hc := zmZ hc
   have Hbel := zmZ HG.out.bel
   clear hr hv HG hc
   go_wp2_with fail
   go_ret
   exact ⟨Ao, co, os, rfl, Hc.out, by rw [HM.out, Hn.out, List.take_length], Hr.out, Hbel.out⟩

theorem GL.dropL {w W : World} {ls : List Ow} {old new : World → Prop} {e : TypeId} {sz n c : Nat} {A : Option Addr} {cs : List (Array Value)} (h : GL w (⟨e, sz, .slice A n c, cs⟩ :: ls) old new W) : GL w ls old (fun V => El V sz A cs ∧ new V) W := by
 have ho : OwnE W w.heap.size e sz (.slice A n c) cs := h.own _ (List.mem_cons_self ..)
 have hnd := List.pairwise_cons.1 h.nd
 have hr : Rests W (fun b => (Value.slice A n c).ownBlock = some b) (fun V => El V sz A cs) := ⟨ho.el.1, fun w' hw => (ho.keep (fun b hb e => hw b e hb)).el.1⟩
 exact ⟨fun o ho => h.own o (List.mem_cons_of_mem _ ho), hnd.2, h.rso.mono fun n hn o ho => hn o (List.mem_cons_of_mem _ ho), Rests.and (hr.mono fun b hb => ⟨(ho.lt b hb).1, fun o ho e => hnd.1 o ho b hb e⟩) (h.rsn.mono fun n hn => ⟨hn.1, fun o ho => hn.2 o (List.mem_cons_of_mem _ ho)⟩), h.bel⟩
theorem LsR.mk' {α : Type} {sz : Nat} {cells : α → Array Value} {ok : α → World → Prop} {A : Option Addr} {l : List α} {V : World} (h : El V sz A (l.map cells)) (hok : ∀ p ∈ l, ok p V) : LsR sz cells ok A l V := ⟨h, hok⟩
def zmW (q : Int × List WQ) (w : World) (e : Ending) (w' : World) : Prop := ∃ g : NeW, e = .returned (.agg #[.int .i64 g.inputs, .slice g.A g.las.length g.c]) ∧ g.wq = q ∧ g.las.length ≤ g.c ∧ Rests w' (w.heap.size ≤ ·) (NwD g) ∧ Below w.heap.size w w'
structure LwS2 (l : LaW) : Prop where
 rows : l.rows.length ≤ 100000
 row : ∀ v ∈ l.rows, v.ts.length ≤ 100000
 bias : l.bias.length ≤ 100000
 kern : l.kern.length ≤ 100000
 grs : l.grs.length ≤ 100000
 gr : ∀ g ∈ l.grs, g.l.length ≤ 100000
set_option maxRecDepth 100000 in
theorem zfv (w : World) (f : NeW) (h : NwD f w) (hs : ∀ l ∈ f.las, LwS2 l) (hl : f.las.length ≤ 100000) (nl : Nat) (hnl : nl = f.las.length) : Calls Tryz.prog 8 #[.agg #[.int .i64 f.inputs, .slice f.A nl f.c]] w (zmW f.wq w) := by
 have sl1 := h.sl
 rw [← hnl] at sl1
 have hsz1 := zb5
 have hszg := zbt
 have hadd := za3
 have hnlb : nl ≤ 100000 := by omega
 have Hn := zmZ hnl
 have Hs := zmZ hs
 have Hl := zmZ hl
 obtain ⟨W0, hW0⟩ : ∃ W0, W0 = ((w.alloc (.cells #[.int .i64 f.inputs, .slice f.A nl f.c] 24)).alloc (.cells #[.int .i64 0, .slice none 0 0] 24)) := ⟨_, rfl⟩
 have HE := zmZ (Env.lay2 (Env.start (h.old)) hW0)
 subst hW0
 have c := Env.c2 HE.out
 have dd := Env.d2 HE.out
 clear h hnl hs hl
 go_enter Tryz.func8, Tryz.ntmps8
 go_upto_region 3 with fail
 have HE5 := zmZ (HE.out.new_ (g := w.heap.size + 1 + 1) (by simp) 24 #[.int .i64 f.inputs, .slice none 0 0])
 have HG := zmZ (((GL.ofEnv (bs1 := [⟨w.heap.size + 1 + 1, 24, #[.int .i64 f.inputs, .slice none 0 0]⟩, ⟨w.heap.size + 1, 24, #[.int .i64 0, .slice none 0 0]⟩]) (bs2 := [⟨w.heap.size, 24, #[.int .i64 f.inputs, .slice f.A nl f.c]⟩]) HE5.out).new_ 36 13).imp (φ := fun V => (∀ b ∈ [(⟨w.heap.size, 24, #[.int .i64 f.inputs, .slice f.A nl f.c]⟩ : Bo)], Blk V b.g b.t b.cs) ∧ NwD f V) (ψ := fun V => ∀ zl ∈ ([] : List LaW), LwD zl V) (fun _ h => h) (fun _ _ => by simp))
 clear HE HE5 c dd
 go_loopw [4] (fun iv wr => ∃ (i : Nat) (Al : Option Addr) (cl : Nat) (ls : List LaW), iv = .int .i64 (i : Int) ∧ i ≤ nl ∧ Hid (ls.map LaG.wq = (f.las.take i).map LaG.wq) ∧ Hid (GL w (⟨36, 13, .slice Al (List.length ls) cl, List.map lacells ls⟩ :: bow (w.heap.size + 1 + 1) 24 2 #[.int .i64 f.inputs, .slice Al (List.length ls) cl] :: bow (w.heap.size + 1) 24 2 #[.int .i64 0, .slice none 0 0] :: []) (fun V => (∀ b ∈ [(⟨w.heap.size, 24, #[.int .i64 f.inputs, .slice f.A nl f.c]⟩ : Bo)], Blk V b.g b.t b.cs) ∧ NwD f V) (fun V => ∀ zl ∈ ls, LwD zl V) wr)) (fun iv _ => nl - (intOf iv).toNat)
 case atStart => exact ⟨0, none, 0, [], rfl, Nat.zero_le _, zmZ rfl, HG⟩
 case round =>
  clear HG
  obtain ⟨i, Al, cl, ls, rfl, hi, HM, HG⟩ := hrel
  have cf := Blk.cb (HG.out.o.1 _ (List.mem_singleton_self _))
  by_cases hlt : i < nl
  ·have hlt2 : i < f.las.length := by rw [← Hn.out]; exact hlt
   have hlsl := congrArg List.length HM.out
   rw [List.length_map, List.length_map, List.length_take] at hlsl
   have hlsb : ls.length ≤ 100000 := by have := Hl.out; omega
   clear hlsl
   have HM2 := zmZ (fun (y : WQ) (hy : y = LaG.wq f.las[i]) => zau HM.out hlt2 hy)
   have HP := zmZ (fun (V : World) (h1 : NwD f V) => h1.ok _ (List.getElem_mem hlt2))
   have HS := zmZ (Hs.out _ (List.getElem_mem hlt2))
   have c0 := HG.out.o.2.lac i hlt2
   obtain ⟨p, hp⟩ : ∃ p, p = f.las[i] := ⟨_, rfl⟩
   rw [← hp] at c0 HM2 HP HS
   clear hp
   have slg := (HP.out _ HG.out.o.2).grs.sl
   obtain ⟨nr, hnr⟩ : ∃ k, k = p.rows.length := ⟨_, rfl⟩
   obtain ⟨nb, hnb⟩ : ∃ k, k = p.bias.length := ⟨_, rfl⟩
   obtain ⟨nk, hnk⟩ : ∃ k, k = p.kern.length := ⟨_, rfl⟩
   obtain ⟨ng, hng⟩ : ∃ k, k = p.grs.length := ⟨_, rfl⟩
   dsimp only [LC] at c0
   rw [← hnr, ← hnb, ← hnk, ← hng] at c0
   rw [← hng] at slg
   have hngb : ng ≤ 100000 := by rw [hng]; exact HS.out.grs
   have Hnr := zmZ hnr
   have Hnb := zmZ hnb
   have Hnk := zmZ hnk
   have Hng := zmZ hng
   clear hnr hnb hnk hng
   go_upto_region 6 with fail
   have HG5 := HG.out.addb 36 #[.int .u8 p.kind, .slice p.Ar nr p.cr, .slice p.Ab nb p.cb, .int .i64 p.ch, .int .i64 p.high, .int .i64 p.wide, .int .i64 p.out, .int .i64 p.kh, .int .i64 p.kw, .int .i64 p.st, .int .i64 p.pad, .slice p.Ak nk p.ck, .slice p.Ag ng p.cg]
   obtain ⟨W2, g5, hW2, hg5⟩ : ∃ W2 g5, wr.alloc (.cells #[.int .u8 p.kind, .slice p.Ar nr p.cr, .slice p.Ab nb p.cb, .int .i64 p.ch, .int .i64 p.high, .int .i64 p.wide, .int .i64 p.out, .int .i64 p.kh, .int .i64 p.kw, .int .i64 p.st, .int .i64 p.pad, .slice p.Ak nk p.ck, .slice p.Ag ng p.cg] 36) = W2 ∧ wr.heap.size = g5 := ⟨_, _, rfl, rfl⟩
   rw [hW2, hg5] at HG5 ⊢
   replace HG : Hid (GL w (bow g5 36 13 #[.int .u8 p.kind, .slice p.Ar nr p.cr, .slice p.Ab nb p.cb, .int .i64 p.ch, .int .i64 p.high, .int .i64 p.wide, .int .i64 p.out, .int .i64 p.kh, .int .i64 p.kw, .int .i64 p.st, .int .i64 p.pad, .slice p.Ak nk p.ck, .slice p.Ag ng p.cg] :: ⟨36, 13, .slice Al (List.length ls) cl, List.map lacells ls⟩ :: bow (w.heap.size + 1 + 1) 24 2 #[.int .i64 f.inputs, .slice Al (List.length ls) cl] :: bow (w.heap.size + 1) 24 2 #[.int .i64 0, .slice none 0 0] :: []) (fun V => (∀ b ∈ [(⟨w.heap.size, 24, #[.int .i64 f.inputs, .slice f.A nl f.c]⟩ : Bo)], Blk V b.g b.t b.cs) ∧ NwD f V) (fun V => ∀ zl ∈ ls, LwD zl V) W2) := zmZ HG5
   clear HG5 hW2 hg5 c0 cf
   have cb := HG.out.cb (k := 0) rfl
   go_wp2_with fail
   clear cb
   refine (zkJ _ p.Ar p.cr p.rows (HP.out _ HG.out.o.2).rows HS.out.rows HS.out.row nr Hnr.out).mono ?_
   rintro e w1 ⟨A1, c1, os1, rfl, hc1, hm1, hk9, hb9⟩
   have HM_1 := zmZ hm1
   replace HG := zmZ (HG.out.call hk9 hb9)
   clear hc1 hm1 hk9 hb9
   have cb := HG.out.cb (k := 0) rfl
   go_upto_region 7 with fail
   clear cb
   have HG5 := HG.out.putc (k := 0) (i := 1) rfl (by decide) (.slice A1 (List.length os1) c1)
   obtain ⟨W1, hW1⟩ : ∃ W', World.setCell w1 ⟨g5, 1, none⟩ (.slice A1 (List.length os1) c1) = W' := ⟨_, rfl⟩
   rw [hW1] at HG5 ⊢
   replace HG : Hid (GL w (bow g5 36 13 #[.int .u8 p.kind, .slice A1 (List.length os1) c1, .slice p.Ab nb p.cb, .int .i64 p.ch, .int .i64 p.high, .int .i64 p.wide, .int .i64 p.out, .int .i64 p.kh, .int .i64 p.kw, .int .i64 p.st, .int .i64 p.pad, .slice p.Ak nk p.ck, .slice p.Ag ng p.cg] :: ⟨36, 13, .slice Al (List.length ls) cl, List.map lacells ls⟩ :: bow (w.heap.size + 1 + 1) 24 2 #[.int .i64 f.inputs, .slice Al (List.length ls) cl] :: bow (w.heap.size + 1) 24 2 #[.int .i64 0, .slice none 0 0] :: []) (fun V => (∀ b ∈ [(⟨w.heap.size, 24, #[.int .i64 f.inputs, .slice f.A nl f.c]⟩ : Bo)], Blk V b.g b.t b.cs) ∧ NwD f V) _ W1) := zmZ HG5
   clear HG5 hW1
   have cb := HG.out.cb (k := 0) rfl
   go_wp2_with fail
   clear cb
   refine (zhQ _ p.Ab p.cb p.bias (HP.out _ HG.out.o.2).bias HS.out.bias nb Hnb.out).mono ?_
   rintro e w2 ⟨A2, c2, os2, rfl, hc2, hm2, hk9, hb9⟩
   have HM_2 := zmZ hm2
   replace HG := zmZ (HG.out.call hk9 hb9)
   clear hc2 hm2 hk9 hb9
   have cb := HG.out.cb (k := 0) rfl
   go_upto_region 8 with fail
   clear cb
   have HG5 := HG.out.putc (k := 0) (i := 2) rfl (by decide) (.slice A2 (List.length os2) c2)
   obtain ⟨W2, hW2⟩ : ∃ W', World.setCell w2 ⟨g5, 2, none⟩ (.slice A2 (List.length os2) c2) = W' := ⟨_, rfl⟩
   rw [hW2] at HG5 ⊢
   replace HG : Hid (GL w (bow g5 36 13 #[.int .u8 p.kind, .slice A1 (List.length os1) c1, .slice A2 (List.length os2) c2, .int .i64 p.ch, .int .i64 p.high, .int .i64 p.wide, .int .i64 p.out, .int .i64 p.kh, .int .i64 p.kw, .int .i64 p.st, .int .i64 p.pad, .slice p.Ak nk p.ck, .slice p.Ag ng p.cg] :: ⟨36, 13, .slice Al (List.length ls) cl, List.map lacells ls⟩ :: bow (w.heap.size + 1 + 1) 24 2 #[.int .i64 f.inputs, .slice Al (List.length ls) cl] :: bow (w.heap.size + 1) 24 2 #[.int .i64 0, .slice none 0 0] :: []) (fun V => (∀ b ∈ [(⟨w.heap.size, 24, #[.int .i64 f.inputs, .slice f.A nl f.c]⟩ : Bo)], Blk V b.g b.t b.cs) ∧ NwD f V) _ W2) := zmZ HG5
   clear HG5 hW2
   have cb := HG.out.cb (k := 0) rfl
   go_wp2_with fail
   clear cb
   refine (zhQ _ p.Ak p.ck p.kern (HP.out _ HG.out.o.2).kern HS.out.kern nk Hnk.out).mono ?_
   rintro e w3 ⟨A3, c3, os3, rfl, hc3, hm3, hk9, hb9⟩
   have HM_3 := zmZ hm3
   replace HG := zmZ (HG.out.call hk9 hb9)
   clear hc3 hm3 hk9 hb9
   have cb := HG.out.cb (k := 0) rfl
   go_upto_region 9 with fail
   clear cb
   have HG5 := HG.out.putc (k := 0) (i := 11) rfl (by decide) (.slice A3 (List.length os3) c3)
   obtain ⟨W3, hW3⟩ : ∃ W', World.setCell w3 ⟨g5, 11, none⟩ (.slice A3 (List.length os3) c3) = W' := ⟨_, rfl⟩
   rw [hW3] at HG5 ⊢
   replace HG : Hid (GL w (bow g5 36 13 #[.int .u8 p.kind, .slice A1 (List.length os1) c1, .slice A2 (List.length os2) c2, .int .i64 p.ch, .int .i64 p.high, .int .i64 p.wide, .int .i64 p.out, .int .i64 p.kh, .int .i64 p.kw, .int .i64 p.st, .int .i64 p.pad, .slice A3 (List.length os3) c3, .slice p.Ag ng p.cg] :: ⟨36, 13, .slice Al (List.length ls) cl, List.map lacells ls⟩ :: bow (w.heap.size + 1 + 1) 24 2 #[.int .i64 f.inputs, .slice Al (List.length ls) cl] :: bow (w.heap.size + 1) 24 2 #[.int .i64 0, .slice none 0 0] :: []) (fun V => (∀ b ∈ [(⟨w.heap.size, 24, #[.int .i64 f.inputs, .slice f.A nl f.c]⟩ : Bo)], Blk V b.g b.t b.cs) ∧ NwD f V) _ W3) := zmZ HG5
   clear HG5 hW3
   have cb := HG.out.cb (k := 0) rfl
   go_upto_region 11 with fail
   clear cb
   replace HG := zmZ (show GL w (⟨46, 1, .slice none (List.length ([] : List GrV)) 0, List.map grcells ([] : List GrV)⟩ :: bow g5 36 13 #[.int .u8 p.kind, .slice A1 (List.length os1) c1, .slice A2 (List.length os2) c2, .int .i64 p.ch, .int .i64 p.high, .int .i64 p.wide, .int .i64 p.out, .int .i64 p.kh, .int .i64 p.kw, .int .i64 p.st, .int .i64 p.pad, .slice A3 (List.length os3) c3, .slice p.Ag ng p.cg] :: ⟨36, 13, .slice Al (List.length ls) cl, List.map lacells ls⟩ :: bow (w.heap.size + 1 + 1) 24 2 #[.int .i64 f.inputs, .slice Al (List.length ls) cl] :: bow (w.heap.size + 1) 24 2 #[.int .i64 0, .slice none 0 0] :: []) (fun V => (∀ b ∈ [(⟨w.heap.size, 24, #[.int .i64 f.inputs, .slice f.A nl f.c]⟩ : Bo)], Blk V b.g b.t b.cs) ∧ NwD f V) (fun V => ((∀ zg ∈ ([] : List GrV), grD zg V) ∧ (fun V => LsR 4 nwcells nwD A3 os3 V ∧ LsR 4 nwcells nwD A2 os2 V ∧ LsR 1 vwcells vwD A1 os1 V ∧ ∀ zl ∈ ls, LwD zl V) V)) _ from (HG.out.new_ 46 1).imp (fun _ h => h) (fun V h => ⟨by simp, h⟩))
   go_loopw [6, 7] (fun gv kv wr => ∃ (Ag : Option Addr) (cg k : Nat) (gs : List GrV), gv = .slice Ag (List.length gs) cg ∧ kv = .int .i64 (k : Int) ∧ k ≤ ng ∧ Hid (gs.map GrV.l = (p.grs.take k).map GrV.l) ∧ Hid (GL w (⟨46, 1, .slice Ag (List.length gs) cg, List.map grcells gs⟩ :: bow g5 36 13 #[.int .u8 p.kind, .slice A1 (List.length os1) c1, .slice A2 (List.length os2) c2, .int .i64 p.ch, .int .i64 p.high, .int .i64 p.wide, .int .i64 p.out, .int .i64 p.kh, .int .i64 p.kw, .int .i64 p.st, .int .i64 p.pad, .slice A3 (List.length os3) c3, .slice p.Ag ng p.cg] :: ⟨36, 13, .slice Al (List.length ls) cl, List.map lacells ls⟩ :: bow (w.heap.size + 1 + 1) 24 2 #[.int .i64 f.inputs, .slice Al (List.length ls) cl] :: bow (w.heap.size + 1) 24 2 #[.int .i64 0, .slice none 0 0] :: []) (fun V => (∀ b ∈ [(⟨w.heap.size, 24, #[.int .i64 f.inputs, .slice f.A nl f.c]⟩ : Bo)], Blk V b.g b.t b.cs) ∧ NwD f V) (fun V => ((∀ zg ∈ gs, grD zg V) ∧ (fun V => LsR 4 nwcells nwD A3 os3 V ∧ LsR 4 nwcells nwD A2 os2 V ∧ LsR 1 vwcells vwD A1 os1 V ∧ ∀ zl ∈ ls, LwD zl V) V)) wr)) (fun _ kv _ => ng - (intOf kv).toNat)
   case atStart => exact ⟨none, 0, 0, [], rfl, rfl, Nat.zero_le _, zmZ rfl, HG⟩
   case round =>
    clear HG
    obtain ⟨Ag, cg, k, gs, rfl, rfl, hk, HN, HG⟩ := hrel
    have cb := HG.out.cb (k := 1) rfl
    by_cases hlk : k < ng
    ·have hlk2 : k < p.grs.length := by rw [← Hng.out]; exact hlk
     have hgl := congrArg List.length HN.out
     rw [List.length_map, List.length_map, List.length_take] at hgl
     have hgb : gs.length ≤ 100000 := by omega
     clear hgl
     have HN2 := zmZ (fun (y : List Int) (hy : y = GrV.l p.grs[k]) => zau HN.out hlk2 hy)
     have HPg := zmZ (fun (V : World) (h1 : NwD f V) => (HP.out _ h1).grs.ok _ (List.getElem_mem hlk2))
     have Hgb := zmZ (HS.out.gr _ (List.getElem_mem hlk2))
     have cg0 := (HP.out _ HG.out.o.2).grs.gc k hlk2
     obtain ⟨q, hq⟩ : ∃ q, q = p.grs[k] := ⟨_, rfl⟩
     rw [← hq] at cg0 HN2 HPg Hgb
     clear hq
     go_wp2_with fail
     refine (zgs _ q (HPg.out _ HG.out.o.2) (by have := Hgb.out; omega)).mono ?_
     rintro e w5 ⟨y, rfl, hy, hk9, hb9⟩
     have HY := zmZ (HN2.out _ hy)
     replace HG := zmZ (HG.out.call hk9 hb9)
     clear hy hk9 hb9 cg0 cb
     have HGa := HG.out.box 46 (grcells y)
     obtain ⟨A', c', w8, hrun, hG⟩ := GL.appG (k := 0) (cells := grcells) zdo zfH rfl (by decide) (by decide) HGa rfl y rfl (zci y) HGa.n.1 (by omega)
     have Hrun := zmZ hrun
     have HG2 := zmZ hG
     clear hrun hG HGa HG
     go_wp2_with (at_builtin; refine za1 rfl (.tmp 42) (.tmp 49) 34 _ _ _ rfl rfl rfl Hrun.out ?_)
     clear Hrun
     go_wp2_with fail
     go_roundw
     case rel => exact ⟨A', c', k + 1, gs ++ [y], by simp, by go_num, by omega, zmZ (by rw [List.map_append]; exact HY.out), zmZ (HG2.out.imp (fun _ h => h) (fun V h => ⟨fun zg hz => (List.mem_append.1 hz).elim (fun hz => h.2.2.1 zg hz) (fun hz => by rw [List.mem_singleton.1 hz]; exact h.2.1), h.2.2.2⟩))⟩
     case measure => (simp [intOf] <;> omega)
    ·obtain rfl : k = ng := by omega
     go_upto_region 15 with fail
     clear cb
     have HG5 := HG.out.putc (k := 1) (i := 12) rfl (by decide) (.slice Ag (List.length gs) cg)
     obtain ⟨W6, hW6⟩ : ∃ W', World.setCell wr ⟨g5, 12, none⟩ (.slice Ag (List.length gs) cg) = W' := ⟨_, rfl⟩
     rw [hW6] at HG5 ⊢
     obtain ⟨y, hy⟩ : ∃ y : LaW, y = ⟨p.kind, A1, c1, os1, A2, c2, os2, p.ch, p.high, p.wide, p.out, p.kh, p.kw, p.st, p.pad, A3, c3, os3, Ag, cg, gs⟩ := ⟨_, rfl⟩
     have HYQ := zmZ (show LaG.wq y = LaG.wq p from by rw [hy]; unfold LaG.wq; dsimp only; rw [HM_1.out, HM_2.out, HM_3.out, HN.out, Hng.out, List.take_length])
     have HYC := zmZ (show lacells y = #[.int .u8 p.kind, .slice A1 (List.length os1) c1, .slice A2 (List.length os2) c2, .int .i64 p.ch, .int .i64 p.high, .int .i64 p.wide, .int .i64 p.out, .int .i64 p.kh, .int .i64 p.kw, .int .i64 p.st, .int .i64 p.pad, .slice A3 (List.length os3) c3, .slice Ag (List.length gs) cg] from by rw [hy]; rfl)
     have HYV := zmZ hy
     clear hy
     replace HG := zmZ (show GL w (⟨46, 1, .slice Ag (List.length gs) cg, List.map grcells gs⟩ :: bow g5 36 13 #[.int .u8 p.kind, .slice A1 (List.length os1) c1, .slice A2 (List.length os2) c2, .int .i64 p.ch, .int .i64 p.high, .int .i64 p.wide, .int .i64 p.out, .int .i64 p.kh, .int .i64 p.kw, .int .i64 p.st, .int .i64 p.pad, .slice A3 (List.length os3) c3, .slice Ag (List.length gs) cg] :: ⟨36, 13, .slice Al (List.length ls) cl, List.map lacells ls⟩ :: bow (w.heap.size + 1 + 1) 24 2 #[.int .i64 f.inputs, .slice Al (List.length ls) cl] :: bow (w.heap.size + 1) 24 2 #[.int .i64 0, .slice none 0 0] :: []) (fun V => (∀ b ∈ [(⟨w.heap.size, 24, #[.int .i64 f.inputs, .slice f.A nl f.c]⟩ : Bo)], Blk V b.g b.t b.cs) ∧ NwD f V) (fun V => ((∀ zg ∈ gs, grD zg V) ∧ (fun V => LsR 4 nwcells nwD A3 os3 V ∧ LsR 4 nwcells nwD A2 os2 V ∧ LsR 1 vwcells vwD A1 os1 V ∧ ∀ zl ∈ ls, LwD zl V) V)) W6 from HG5)
     clear HG5 hW6
     replace HG := zmZ (HG.out.dropL)
     have cb := HG.out.cb (k := 0) rfl
     have co := HG.out.cb (k := 2) rfl
     have HGa := HG.out.box 36 (lacells y)
     obtain ⟨A', c', w8, hrun, hG⟩ := GL.appG (k := 1) (cells := lacells) zdE zep rfl (by decide) (by decide) HGa rfl y rfl (zdv y) HGa.n.1 (by omega)
     have Hrun := zmZ hrun
     have HG2 := zmZ hG
     clear hrun hG HGa HG
     have hcc := HYC.out
     rw [hcc] at Hrun
     clear hcc
     have co8 := HG2.out.cb (k := 2) rfl
     go_wp2_with (at_builtin; refine za1 rfl (.tmp 54) (.tmp 56) 22 _ _ _ rfl rfl rfl Hrun.out ?_)
     clear Hrun cb co co8
     go_wp2_with fail
     have HG5 := HG2.out.putc (k := 2) (i := 1) rfl (by decide) (.slice A' (List.length (ls ++ [y])) c')
     have HG6 := zmZ (show GL w (⟨36, 13, .slice A' (List.length (ls ++ [y])) c', List.map lacells (ls ++ [y])⟩ :: bow (w.heap.size + 1 + 1) 24 2 #[.int .i64 f.inputs, .slice A' (List.length (ls ++ [y])) c'] :: bow (w.heap.size + 1) 24 2 #[.int .i64 0, .slice none 0 0] :: []) (fun V => (∀ b ∈ [(⟨w.heap.size, 24, #[.int .i64 f.inputs, .slice f.A nl f.c]⟩ : Bo)], Blk V b.g b.t b.cs) ∧ NwD f V) (fun V => ∀ zl ∈ (ls ++ [y]), LwD zl V) _ from HG5.drop_.imp (fun _ h => h) (fun V h => fun zl hz => (List.mem_append.1 hz).elim (fun hz => h.2.2.2.2.2.2.2 zl hz) (fun hz => by rw [List.mem_singleton.1 hz, HYV.out]; exact ⟨h.2.2.2.2.2.2.1, h.2.2.2.2.2.1, h.2.2.2.2.1, LsR.mk' h.2.2.1 h.2.2.2.1⟩)))
     clear HG5 HG2
     go_roundw
     case rel => exact ⟨i + 1, A', c', ls ++ [y], by go_num, by omega, zmZ (by rw [List.map_append]; exact HM2.out _ HYQ.out), by first | exact HG6 | (have h9 := HG6; simp only [List.length_append, List.length_cons, List.length_nil, Nat.zero_add] at h9 ⊢; exact h9)⟩
     case measure => (simp [intOf] <;> omega)
  ·obtain rfl : i = nl := by omega
   have co := HG.out.cb (k := 1) rfl
   have c2 := HG.out.cb (k := 2) rfl
   go_wp2_with fail
   have hG := (HG.out.putc (k := 2) (i := 0) rfl (by decide) (.int .i64 f.inputs)).putc (k := 2) (i := 1) rfl (by decide) (.slice Al (List.length ls) cl)
   replace c2 := hG.cb (k := 2) rfl
   have hcl : ls.length ≤ cl := by
    obtain ⟨A9, c9, hv9, hc9, -⟩ := (HG.out.own _ (List.mem_cons_self ..)).form
    rw [List.length_map] at hv9 hc9
    obtain ⟨-, rfl⟩ : Al = A9 ∧ cl = c9 := by simpa using hv9
    exact hc9
   have hwq : (f.inputs, ls.map LaG.wq) = (f.inputs, f.las.map LaG.wq) := by rw [HM.out, Hn.out, List.take_length]
   exact bodyPost_ret (v := .agg #[.int .i64 f.inputs, .slice Al (List.length ls) cl]) (by simp [results, Tryz.results8, go_sem, c2]) rfl ⟨⟨f.inputs, Al, cl, ls⟩, rfl, hwq, hcl, ((hG.els9 (k := 0) rfl).and (hG.rsn.mono fun _ h => h.1)).imp fun V h => ⟨h.1, h.2⟩, hG.bel⟩
end Go.Proofs.YtikmgoefjbhcjaaGreatDoor
