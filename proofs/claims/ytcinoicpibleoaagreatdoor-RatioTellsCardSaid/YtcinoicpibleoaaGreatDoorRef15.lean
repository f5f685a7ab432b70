/-
  tripwirelow: CopyRat, SameRat of a copy.
-/
import Derived.Test.YtcinoicpibleoaaGreatDoorCW
import Derived.Test.YtcinoicpibleoaaGreatDoorEM
namespace Go.Proofs.YtcinoicpibleoaaGreatDoor
open Go.RowKit

/-- a fraction as it stands in memory -/
structure Raw (r : RV) (a b : Bool) (l m : List Nat) (V : World) : Prop where
  na : r.num.neg = a
  nk : r.num.k = l.length
  nr : Rd V .u64 r.num.A l
  da : r.den.neg = b
  dk : r.den.k = m.length
  dr : Rd V .u64 r.den.A m
theorem Raw.old {r : RV} {a b : Bool} {l m : List Nat} {V : World} (h : Raw r a b l m V) : Rests V (· < V.heap.size) (Raw r a b l m) :=
  ((rests_rd (F := (· < V.heap.size)) h.nr fun i hi => h.nr.lt i hi).and (rests_rd (F := (· < V.heap.size)) h.dr fun i hi => h.dr.lt i hi)).imp fun _ k => ⟨h.na, h.nk, k.1, h.da, h.dk, k.2⟩
def RetRaw (a b : Bool) (l m : List Nat) (w : World) (e : Ending) (w' : World) : Prop :=
  ∃ r : RV, e = .returned (.agg #[.bool r.num.neg, .slice r.num.A r.num.k r.num.c, .bool r.den.neg, .slice r.den.A r.den.k r.den.c]) ∧ Rests w' (w.heap.size ≤ ·) (Raw r a b l m) ∧ Below w.heap.size w w'
theorem copyWords_r (w : World) (A : Option Addr) (c k : Nat) (l : List Nat) (hl : l.length ≤ 1000000) (hk : k = l.length) (hr : Rd w .u64 A l) : Calls Tryz.prog 68 #[.slice A k c] w (RetL .u64 l w) := by
  rw [hk]; exact copyWords_any w A c l hl hr
set_option maxRecDepth 100000 in
set_option maxHeartbeats 2000000 in
theorem copyRat_any (w : World) (r : RV) (a b : Bool) (l m : List Nat) (hl : l.length ≤ 1000000) (hm : m.length ≤ 1000000) (h : Raw r a b l m w) :
    Calls Tryz.prog 14 #[.agg #[.bool r.num.neg, .slice r.num.A r.num.k r.num.c, .bool r.den.neg, .slice r.den.A r.den.k r.den.c]] w (RetRaw a b l m w) := by
  have Hn := Lib.hid h.nk
  have Hd := Lib.hid h.dk
  have Ha := Lib.hid h.na
  have Hb := Lib.hid h.da
  obtain ⟨W0, hW0⟩ : ∃ W0, W0 = ((w.alloc (.cells #[.bool r.num.neg, .slice r.num.A r.num.k r.num.c, .bool r.den.neg, .slice r.den.A r.den.k r.den.c] 31)).alloc (.cells #[.bool false, .slice none 0 0, .bool false, .slice none 0 0] 31)) := ⟨_, rfl⟩
  have HE := Lib.hid (Env.lay2 (Env.start (h.old)) hW0)
  subst hW0
  have c := Env.c2 HE.out
  have dd := Env.d2 HE.out
  clear h
  go_enter Tryz.func14, Tryz.ntmps14
  go_wp2_with fail
  go_region_held3 (fun W => CB (w.heap.size) #[.bool r.num.neg, .slice r.num.A r.num.k r.num.c, .bool r.den.neg, .slice r.den.A r.den.k r.den.c] W) (first | exact c.2 | ((repeat' apply And.intro) <;> go_keep))
    (first
      | (go_at_call_of 68 ((#[.slice r.num.A r.num.k r.num.c] : Array Value)); go_must (refine ((copyWords_r _ r.num.A r.num.c r.num.k l hl Hn.out (by first | exact HE.out.o.nr | exact HE.out.drew.o.nr))).mono ?_; rintro e w1 ⟨A1, c1, rfl, hcp, hrd, hb, hf⟩; replace HE := Lib.hid (Env.ret (by first | exact HE.out | exact HE.out.drew) (rests_rd hrd (fun k hk => hf k hk)) hb); replace c := Env.c2 HE.out; have Hc1 := Lib.hid hcp; clear hcp hrd hb hf))
      | (go_at_call_of 68 ((#[.slice r.den.A r.den.k r.den.c] : Array Value)); go_must (refine ((copyWords_r _ r.den.A r.den.c r.den.k m hm Hd.out (by first | exact HE.out.o.dr | exact HE.out.drew.o.dr))).mono ?_; rintro e w2 ⟨A2, c2, rfl, hcp, hrd, hb, hf⟩; replace HE := Lib.hid (Env.ret (by first | exact HE.out | exact HE.out.drew) (rests_rd hrd (fun k hk => hf k hk)) hb); replace c := Env.c2 HE.out; have Hc2 := Lib.hid hcp; clear hcp hrd hb hf)))
  all_goals
    go_wp2_with fail
    have hE := HE.out.put4 (.bool r.num.neg) (.slice A1 l.length c1) (.bool r.den.neg) (.slice A2 m.length c2)
    replace c := Env.c2 hE
    exact bodyPost_ret (v := .agg #[.bool r.num.neg, .slice A1 l.length c1, .bool r.den.neg, .slice A2 m.length c2]) (by simp [results, Tryz.results14, go_sem, c]) rfl ⟨⟨⟨r.num.neg, A1, l.length, c1⟩, ⟨r.den.neg, A2, m.length, c2⟩⟩, rfl, (hE.rsn.imp fun _ h => ⟨Ha.out, rfl, h.2.1, Hb.out, rfl, h.1⟩).mono fun _ h => h.1, hE.bel⟩
theorem sameInt_r (w : World) (i j : IV) (a : Bool) (l : List Nat) (hl : l.length ≤ 1000000) (h1 : i.neg = a) (h2 : j.neg = a) (h3 : i.k = l.length) (h4 : j.k = l.length) (hi : Rd w .u64 i.A l) (hj : Rd w .u64 j.A l) :
    Calls Tryz.prog 43 #[.agg #[.bool i.neg, .slice i.A i.k i.c], .agg #[.bool j.neg, .slice j.A j.k j.c]] w fun e w' => e = .returned (.bool true) ∧ Below w.heap.size w w' := by
  rw [h1, h2, h3, h4]; exact sameInt_eq w a i.A j.A i.c j.c l (by omega) hi hj
set_option maxRecDepth 100000 in
set_option maxHeartbeats 2000000 in
theorem sameRat_raw (w : World) (r s : RV) (a b : Bool) (l m : List Nat) (hl : l.length ≤ 1000000) (hm : m.length ≤ 1000000) (h : Raw r a b l m w) (h2 : Raw s a b l m w) :
    Calls Tryz.prog 15 #[.agg #[.bool r.num.neg, .slice r.num.A r.num.k r.num.c, .bool r.den.neg, .slice r.den.A r.den.k r.den.c], .agg #[.bool s.num.neg, .slice s.num.A s.num.k s.num.c, .bool s.den.neg, .slice s.den.A s.den.k s.den.c]] w fun e w' => e = .returned (.bool true) ∧ Below w.heap.size w w' := by
  have HC := Lib.hid (fun (W : World) (k1 : Raw r a b l m W) (k2 : Raw s a b l m W) => (sameInt_r W r.num s.num a l hl k1.na k2.na k1.nk k2.nk k1.nr k2.nr))
  have HD := Lib.hid (fun (W : World) (k1 : Raw r a b l m W) (k2 : Raw s a b l m W) => (sameInt_r W r.den s.den b m hm k1.da k2.da k1.dk k2.dk k1.dr k2.dr))
  obtain ⟨W0, hW0⟩ : ∃ W0, W0 = ((w.alloc (.cells #[.bool r.num.neg, .slice r.num.A r.num.k r.num.c, .bool r.den.neg, .slice r.den.A r.den.k r.den.c] 31)).alloc (.cells #[.bool s.num.neg, .slice s.num.A s.num.k s.num.c, .bool s.den.neg, .slice s.den.A s.den.k s.den.c] 31)) := ⟨_, rfl⟩
  have HE := Lib.hid (Env.lay2 (Env.start ((h.old).and (h2.old))) hW0)
  subst hW0
  have c := Env.c2 HE.out
  have dd := Env.d2 HE.out
  clear h h2
  go_enter Tryz.func15, Tryz.ntmps15
  go_wp2_with fail
  refine (HC.out _ (by first | exact HE.out.o.1 | exact HE.out.drew.o.1) (by first | exact HE.out.o.2 | exact HE.out.drew.o.2)).mono ?_
  rintro e w1 ⟨rfl, hb⟩
  replace HE := Lib.hid (Env.call (by first | exact HE.out | exact HE.out.drew) hb)
  replace c := Env.c2 HE.out
  clear hb
  go_wp2_with fail
  refine (HD.out _ (by first | exact HE.out.o.1 | exact HE.out.drew.o.1) (by first | exact HE.out.o.2 | exact HE.out.drew.o.2)).mono ?_
  rintro e w1 ⟨rfl, hb⟩
  replace HE := Lib.hid (Env.call (by first | exact HE.out | exact HE.out.drew) hb)
  replace c := Env.c2 HE.out
  clear hb
  go_wp2_with fail
  go_ret
  exact ⟨rfl, HE.out.bel⟩
end Go.Proofs.YtcinoicpibleoaaGreatDoor
