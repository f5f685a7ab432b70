/-
 ratio: fractions as values; one. The state of a walk: its boxes, what is known of memory beside them, what was there before. The state of a walk over fractions: what the calls tell, what a result is.
-/
import Derived.Test.YtikmgoefjbhcjaaGreatDoorWE
import Derived.Test.YtikmgoefjbhcjaaGreatDoorVal
namespace Go.Proofs.YtikmgoefjbhcjaaGreatDoor
set_option maxHeartbeats 1000000
open Go.RowKit

def dn (q : Rat) : Int := if q.den = 1 then 0 else (q.den : Int)
structure RatD (r : RV) (q : Rat) (n : Nat) (w : World) : Prop where
 ex : ∃ x d : Int, IntD r.num x n w ∧ IntD r.den d n w ∧ q = (if r.den.k = 0 then Rat.divInt x 1 else Rat.divInt x d)
structure RatN (r : RV) (q : Rat) (w : World) : Prop where
 num : IntN r.num q.num w
 den : IntN r.den (dn q) w
theorem dn_k {r : RV} {q : Rat} {w : World} (h : RatN r q w) : r.den.k = 0 ↔ q.den = 1 := by
 rw [h.den.k]
 unfold dn
 by_cases h1 : q.den = 1
 ·simp [h1, zbi]
 ·have := zah (X := q.den) q.den_nz
  rw [if_neg h1, Int.natAbs_natCast]
  exact ⟨fun e => absurd e (by omega), fun e => absurd e h1⟩
def Sz (q : Rat) (n : Nat) : Prop := q.num.natAbs < B64 ^ n ∧ q.den < B64 ^ n
theorem RatN.rat {r : RV} {q : Rat} {w : World} (h : RatN r q w) {n : Nat} (hs : Sz q n) : RatD r q n w := by
 refine ⟨⟨q.num, dn q, h.num.ofLt hs.1, h.den.ofLt ?_, ?_⟩⟩
 ·unfold dn; split
  ·exact Nat.pow_pos za0
  ·exact hs.2
 ·by_cases h1 : r.den.k = 0
  ·rw [if_pos h1]
   have h2 := (dn_k h).1 h1
   have := Rat.num_divInt_den q
   rw [h2] at this; exact this.symm
  ·rw [if_neg h1]
   have h2 : q.den ≠ 1 := fun e => h1 ((dn_k h).2 e)
   unfold dn; rw [if_neg h2]
   exact (Rat.num_divInt_den q).symm
theorem RatD.rests {r : RV} {q : Rat} {n : Nat} {w : World} {F : Nat → Prop} (h : RatD r q n w) (h1 : ∀ x, IntD r.num x n w → Rests w F (IntD r.num x n)) (h2 : ∀ x, IntD r.den x n w → Rests w F (IntD r.den x n)) : Rests w F (RatD r q n) := by
 obtain ⟨x, d, hx, hd, hq⟩ := h.ex
 exact ⟨h, fun w' hw => ⟨⟨x, d, (h1 x hx).lift w' hw, (h2 d hd).lift w' hw, hq⟩⟩⟩
theorem RatD.old {r : RV} {q : Rat} {n : Nat} {w : World} (h : RatD r q n w) : Rests w (· < w.heap.size) (RatD r q n) := h.rests (fun _ h => h.old) (fun _ h => h.old)
theorem RatN.old {r : RV} {q : Rat} {w : World} (h : RatN r q w) : Rests w (· < w.heap.size) (RatN r q) := ⟨h, fun w' hw => ⟨h.num.old.lift w' hw, h.den.old.lift w' hw⟩⟩
def RetR (q : Rat) (w : World) (e : Ending) (w' : World) : Prop :=
 ∃ r : RV, e = .returned (.agg #[.bool r.num.neg, .slice r.num.A r.num.k r.num.c, .bool r.den.neg, .slice r.den.A r.den.k r.den.c]) ∧ Rests w' (w.heap.size ≤ ·) (RatN r q) ∧ Below w.heap.size w w'

theorem zdi {x : Nat} (h0 : 0 < x) (h : x < B64) : digs B64 x = [x] := by
 have h1 := zf2 (b := B64) (l := [x]) (by decide) (zcH h) (.inr ⟨x, rfl, by omega⟩)
 rw [show val B64 [x] = x by simp [val]] at h1
 exact h1.symm
theorem zf9 {x : Nat} (h : (digs B64 x).length = 1) : 0 < x ∧ x < B64 := by
 refine ⟨?_, ?_⟩
 ·rcases Nat.eq_zero_or_pos x with rfl | h'
  ·simp [zbi] at h
  ·exact h'
 ·have := zax (n := x) (k := 1) (by omega)
  simpa using this

set_option maxRecDepth 100000 in
theorem zkQ (w : World) (A : Option Addr) (k c : Nat) (z : Int) (_h : IntN ⟨true, A, k, c⟩ z w) :
 Calls Tryz.prog 94 #[.agg #[.bool true, .slice A k c]] w fun e w' => e = .returned (.bool false) ∧ Below w.heap.size w w' := by
 have Hbel := zmZ (Below.of_alloc w (.cells #[.bool true, .slice A k c] 39))
 clear _h
 go_enter Tryz.func94, Tryz.ntmps94
 go_wp2_with fail
 go_ret
 exact ⟨rfl, Hbel.out⟩

set_option maxRecDepth 100000 in
theorem ziW (w : World) (A : Option Addr) (k c : Nat) (z : Int) (_h : IntN ⟨false, A, k, c⟩ z w) (hk : k ≠ 1) :
 Calls Tryz.prog 94 #[.agg #[.bool false, .slice A k c]] w fun e w' => e = .returned (.bool false) ∧ Below w.heap.size w w' := by
 have Hbel := zmZ (Below.of_alloc w (.cells #[.bool false, .slice A k c] 39))
 have hk1 : ((k : Int) == 1) = false := by simp; omega
 clear hk
 clear _h
 go_enter Tryz.func94, Tryz.ntmps94
 go_wp2_with fail
 go_ret
 exact ⟨rfl, Hbel.out⟩

set_option maxRecDepth 100000 in
theorem zkK (w : World) (A : Option Addr) (k c : Nat) (z : Int) (h : IntN ⟨false, A, k, c⟩ z w) (hk : k = 1) (hz : z = 1) :
 Calls Tryz.prog 94 #[.agg #[.bool false, .slice A k c]] w fun e w' => e = .returned (.bool true) ∧ Below w.heap.size w w' := by
 have Hbel := zmZ (Below.of_alloc w (.cells #[.bool false, .slice A k c] 39))
 subst hk hz
 have hr := h.rd
 rw [show (1 : Int).natAbs = 1 from rfl, zdi (by decide) (by decide)] at hr
 have hsl : Sl A 1 := hr.sl
 have hs1 := zao
 have hcell : (w.alloc (.cells #[.bool false, .slice A 1 c] 39)).cell? (adr A 0) = some (.int .u64 1) := (hr.alloc _).cell 0 (by simp)
 clear hr
 clear h
 go_enter Tryz.func94, Tryz.ntmps94
 go_wp2_with fail
 go_ret
 exact ⟨rfl, Hbel.out⟩

set_option maxRecDepth 100000 in
theorem zlG (w : World) (A : Option Addr) (k c : Nat) (z : Int) (h : IntN ⟨false, A, k, c⟩ z w) (hk : k = 1) (hz : z ≠ 1) :
 Calls Tryz.prog 94 #[.agg #[.bool false, .slice A k c]] w fun e w' => e = .returned (.bool false) ∧ Below w.heap.size w w' := by
 have Hbel := zmZ (Below.of_alloc w (.cells #[.bool false, .slice A k c] 39))
 subst hk
 have hr := h.rd
 have hl := zf9 h.k.symm
 have hneg := h.neg
 have hx : ((z.natAbs : Int) == 1) = false := by
  have : ¬ z < 0 := by simpa using hneg.symm
  simp; omega
 rw [zdi hl.1 hl.2] at hr
 have hsl : Sl A 1 := hr.sl
 have hs1 := zao
 have hcell : (w.alloc (.cells #[.bool false, .slice A 1 c] 39)).cell? (adr A 0) = some (.int .u64 (z.natAbs : Nat)) := (hr.alloc _).cell 0 (by simp)
 clear hr hl hz hneg
 generalize z.natAbs = x at *
 clear h
 go_enter Tryz.func94, Tryz.ntmps94
 go_wp2_with fail
 go_ret
 exact ⟨rfl, Hbel.out⟩

theorem ze4 (w : World) (i : IV) (z : Int) (h : IntN i z w) : Calls Tryz.prog 94 #[iA i] w fun e w' => e = .returned (.bool (decide (z = 1))) ∧ Below w.heap.size w w' := by
 obtain ⟨ng, A, k, c⟩ := i
 have hneg := h.neg
 cases ng
 ·by_cases hk : k = 1
  ·by_cases hz : z = 1
   ·rw [decide_eq_true hz]; exact zkK w A k c z h hk hz
   ·rw [decide_eq_false hz]; exact zlG w A k c z h hk hz
  ·have hz : z ≠ 1 := fun e => hk (by have h5 : k = (digs B64 z.natAbs).length := h.k; rw [e] at h5; rw [h5, show (1 : Int).natAbs = 1 from rfl, zdi (by decide) (by decide)]; rfl)
   rw [decide_eq_false hz]; exact ziW w A k c z h hk
 ·have hz : z ≠ 1 := fun e => by rw [e] at hneg; simp at hneg
  rw [decide_eq_false hz]; exact zkQ w A k c z h

structure Bo where
 g : Nat
 t : TypeId
 cs : Array Value
structure Env (w : World) (bs : List Bo) (old new : World → Prop) (W : World) : Prop where
 bx : ∀ b ∈ bs, Blk W b.g b.t b.cs
 rso : Rests W (fun n => ∀ b ∈ bs, b.g ≠ n) old
 rsn : Rests W (fun n => w.heap.size ≤ n ∧ ∀ b ∈ bs, b.g ≠ n) new
 bel : Below w.heap.size w W
 own : ∀ b ∈ bs, w.heap.size ≤ b.g
 nd : bs.Pairwise fun a b => a.g ≠ b.g
theorem Rests.fresh {w : World} {F G : Nat → Prop} {φ : World → Prop} (h : Rests w F φ) (hF : ∀ b, F b → b < w.heap.size → G b) (o : Obj) : Rests (w.alloc o) G φ :=
 ⟨h.lift _ fun b _ hb => Below.heap_alloc w o b hb, fun w' hw => h.lift _ fun b hb hlt => (hw b (hF b hb hlt) (by simp; omega)).trans (Below.heap_alloc w o b hlt)⟩
section
variable {w W W' : World} {bs : List Bo} {old new φ ψ : World → Prop}
theorem Env.o (h : Env w bs old new W) : old W := h.rso.now
theorem Env.n (h : Env w bs old new W) : new W := h.rsn.now
theorem Env.start (h : Rests w (· < w.heap.size) old) : Env w [] old (fun _ => True) w :=
 ⟨fun b hb => (by simp at hb), h.mono (fun n _ b hb => by simp at hb), .pure trivial _ _, .refl _ _, fun b hb => (by simp at hb), .nil⟩
theorem Env.drew (h : Env w bs old new W) : Env w bs old new W.drew := ⟨h.bx, h.rso.drew, h.rsn.drew, h.bel.drew, h.own, h.nd⟩
theorem Env.call (h : Env w bs old new W) (hb : Below W.heap.size W W') : Env w bs old new W' :=
 ⟨fun b hm => (h.bx b hm).below hb (h.bx b hm).lt, h.rso.below hb, h.rsn.below hb, Below.after h.bel hb, h.own, h.nd⟩
theorem Env.ret (h : Env w bs old new W) (hr : Rests W' (W.heap.size ≤ ·) ψ) (hb : Below W.heap.size W W') : Env w bs old (fun V => ψ V ∧ new V) W' :=
 have k := h.call hb
 ⟨k.bx, k.rso, (hr.mono fun n hn => ⟨Nat.le_trans h.bel.size hn, fun b hm e => by have := (h.bx b hm).lt; have : W.heap.size ≤ n := hn; omega⟩).and k.rsn, k.bel, k.own, k.nd⟩
theorem Env.imp (h : Env w bs old new W) (ho : ∀ V, old V → φ V) (hn : ∀ V, new V → ψ V) : Env w bs φ ψ W := ⟨h.bx, h.rso.imp ho, h.rsn.imp hn, h.bel, h.own, h.nd⟩
theorem Env.new_ (h : Env w bs old new W) {g : Nat} (hg : W.heap.size = g) (t : TypeId) (cs : Array Value) : Env w (⟨g, t, cs⟩ :: bs) old new (W.alloc (.cells cs t)) := by
 subst hg
 have hne : ∀ b ∈ bs, W.heap.size ≠ b.g := fun b hm e => by have := (h.bx b hm).lt; omega
 have hfr : ∀ n, (∀ b ∈ bs, b.g ≠ n) → n < W.heap.size → ∀ b ∈ (⟨W.heap.size, t, cs⟩ :: bs : List Bo), b.g ≠ n := fun n hn hlt b hm => by
  rcases List.mem_cons.1 hm with rfl | hm
  ·exact fun e : W.heap.size = n => by omega
  ·exact hn b hm
 have hbx : ∀ b ∈ (⟨W.heap.size, t, cs⟩ :: bs : List Bo), Blk (W.alloc (.cells cs t)) b.g b.t b.cs := fun b hm => by
  rcases List.mem_cons.1 hm with rfl | hm
  ·exact Blk.new W t cs
  ·exact (h.bx b hm).alloc _
 have hown : ∀ b ∈ (⟨W.heap.size, t, cs⟩ :: bs : List Bo), w.heap.size ≤ b.g := fun b hm => by
  rcases List.mem_cons.1 hm with rfl | hm
  ·exact h.bel.size
  ·exact h.own b hm
 exact ⟨hbx, h.rso.fresh hfr _, h.rsn.fresh (fun n hn hlt => ⟨hn.1, hfr n hn.2 hlt⟩) _, h.bel.alloc h.bel.size _, hown, .cons hne h.nd⟩
theorem Env.other (h : Env w bs old new W) (o : Obj) : Env w bs old new (W.alloc o) :=
 ⟨fun b hm => (h.bx b hm).alloc _, h.rso.alloc _, h.rsn.alloc _, h.bel.alloc h.bel.size _, h.own, h.nd⟩
theorem Env.put {g : Nat} {t : TypeId} {cs : Array Value} (h : Env w (⟨g, t, cs⟩ :: bs) old new W) (i : Nat) (v : Value) : Env w (⟨g, t, cs.setIfInBounds i v⟩ :: bs) old new (W.setCell ⟨g, i, none⟩ v) := by
 have hne : ∀ b ∈ bs, g ≠ b.g := (List.pairwise_cons.1 h.nd).1
 have h0 := h.bx ⟨g, t, cs⟩ (List.mem_cons_self ..)
 have hfr : ∀ n, (∀ b ∈ (⟨g, t, cs⟩ :: bs : List Bo), b.g ≠ n) → ∀ b ∈ (⟨g, t, cs.setIfInBounds i v⟩ :: bs : List Bo), b.g ≠ n := fun n hn b hm => by
  rcases List.mem_cons.1 hm with rfl | hm
  ·exact hn ⟨g, t, cs⟩ (List.mem_cons_self ..)
  ·exact hn b (List.mem_cons_of_mem _ hm)
 have hbx : ∀ b ∈ (⟨g, t, cs.setIfInBounds i v⟩ :: bs : List Bo), Blk (W.setCell ⟨g, i, none⟩ v) b.g b.t b.cs := fun b hm => by
  rcases List.mem_cons.1 hm with rfl | hm
  ·exact h0.set_ i v
  ·exact (h.bx b (List.mem_cons_of_mem _ hm)).far (p := ⟨g, i, none⟩) (fun e => hne b hm e.symm) v
 have hown : ∀ b ∈ (⟨g, t, cs.setIfInBounds i v⟩ :: bs : List Bo), w.heap.size ≤ b.g := fun b hm => by
  rcases List.mem_cons.1 hm with rfl | hm
  ·exact h.own ⟨g, t, cs⟩ (List.mem_cons_self ..)
  ·exact h.own b (List.mem_cons_of_mem _ hm)
 exact ⟨hbx, (h.rso.set (fun k => k _ (List.mem_cons_self ..) rfl) v).mono hfr, (h.rsn.set (fun k => k.2 _ (List.mem_cons_self ..) rfl) v).mono fun n hn => ⟨hn.1, hfr n hn.2⟩, h.bel.setCell (h.own _ (List.mem_cons_self ..) : w.heap.size ≤ g) v, hown, .cons hne (List.pairwise_cons.1 h.nd).2⟩
theorem Env.perm {bs' : List Bo} (h : Env w bs old new W) (p : bs'.Perm bs) : Env w bs' old new W :=
 ⟨fun b hm => h.bx b (p.mem_iff.1 hm), h.rso.mono fun _ hn b hm => hn b (p.mem_iff.1 hm), h.rsn.mono fun _ hn => ⟨hn.1, fun b hm => hn.2 b (p.mem_iff.1 hm)⟩, h.bel, fun b hm => h.own b (p.mem_iff.1 hm), (p.pairwise_iff fun h => Ne.symm h).2 h.nd⟩
@[reducible] def CB (g : Nat) (cs : Array Value) (W : World) : Prop := (∀ i, W.cell? ⟨g, i, none⟩ = cs[i]?) ∧ (∀ i, W.frozen? ⟨g, i, none⟩ = false)
theorem Blk.cb {g : Nat} {t : TypeId} {cs : Array Value} (h : Blk W g t cs) : CB g cs W := ⟨h.cell, h.frozen⟩
theorem Env.c1 {g0 : Nat} {t0 : TypeId} {c0 : Array Value} (h : Env w [⟨g0, t0, c0⟩] old new W) : CB g0 c0 W :=
 (h.bx ⟨g0, t0, c0⟩ (by simp)).cb
theorem Env.lay1 {t0 : TypeId} {c0 : Array Value} (h : Env w [] old new w) (e : W = (w.alloc (.cells c0 t0))) : Env w [⟨w.heap.size, t0, c0⟩] old new W := by
 subst e
 exact h.new_ (g := w.heap.size) (by simp) t0 c0
theorem Env.c2 {g0 g1 : Nat} {t0 t1 : TypeId} {c0 c1 : Array Value} (h : Env w [⟨g0, t0, c0⟩, ⟨g1, t1, c1⟩] old new W) : CB g0 c0 W ∧ CB g1 c1 W :=
 ⟨(h.bx ⟨g0, t0, c0⟩ (by simp)).cb, (h.bx ⟨g1, t1, c1⟩ (by simp)).cb⟩
theorem Env.d2 {g0 g1 : Nat} {t0 t1 : TypeId} {c0 c1 : Array Value} (h : Env w [⟨g0, t0, c0⟩, ⟨g1, t1, c1⟩] old new W) : g0 ≠ g1 ∧ g1 ≠ g0 := by
 have h := h.nd
 simp only [List.pairwise_cons, List.mem_cons, List.not_mem_nil, or_false, forall_eq] at h
 simp_all [ne_comm]
theorem Env.lay2 {t0 t1 : TypeId} {c0 c1 : Array Value} (h : Env w [] old new w) (e : W = ((w.alloc (.cells c0 t0)).alloc (.cells c1 t1))) : Env w [⟨w.heap.size + 1, t1, c1⟩, ⟨w.heap.size, t0, c0⟩] old new W := by
 subst e
 exact h.new_ (g := w.heap.size) (by simp) t0 c0 |>.new_ (g := w.heap.size + 1) (by simp) t1 c1
theorem Env.c3 {g0 g1 g2 : Nat} {t0 t1 t2 : TypeId} {c0 c1 c2 : Array Value} (h : Env w [⟨g0, t0, c0⟩, ⟨g1, t1, c1⟩, ⟨g2, t2, c2⟩] old new W) : CB g0 c0 W ∧ CB g1 c1 W ∧ CB g2 c2 W :=
 ⟨(h.bx ⟨g0, t0, c0⟩ (by simp)).cb, (h.bx ⟨g1, t1, c1⟩ (by simp)).cb, (h.bx ⟨g2, t2, c2⟩ (by simp)).cb⟩
theorem Env.d3 {g0 g1 g2 : Nat} {t0 t1 t2 : TypeId} {c0 c1 c2 : Array Value} (h : Env w [⟨g0, t0, c0⟩, ⟨g1, t1, c1⟩, ⟨g2, t2, c2⟩] old new W) : g0 ≠ g1 ∧ g0 ≠ g2 ∧ g1 ≠ g0 ∧ g1 ≠ g2 ∧ g2 ≠ g0 ∧ g2 ≠ g1 := by
 have h := h.nd
 simp only [List.pairwise_cons, List.mem_cons, List.not_mem_nil, or_false, forall_eq_or_imp, forall_eq] at h
 simp_all [ne_comm]
theorem Env.lay3 {t0 t1 t2 : TypeId} {c0 c1 c2 : Array Value} (h : Env w [] old new w) (e : W = (((w.alloc (.cells c0 t0)).alloc (.cells c1 t1)).alloc (.cells c2 t2))) : Env w [⟨w.heap.size + 1 + 1, t2, c2⟩, ⟨w.heap.size + 1, t1, c1⟩, ⟨w.heap.size, t0, c0⟩] old new W := by
 subst e
 exact h.new_ (g := w.heap.size) (by simp) t0 c0 |>.new_ (g := w.heap.size + 1) (by simp) t1 c1 |>.new_ (g := w.heap.size + 1 + 1) (by simp) t2 c2
theorem Env.c4 {g0 g1 g2 g3 : Nat} {t0 t1 t2 t3 : TypeId} {c0 c1 c2 c3 : Array Value} (h : Env w [⟨g0, t0, c0⟩, ⟨g1, t1, c1⟩, ⟨g2, t2, c2⟩, ⟨g3, t3, c3⟩] old new W) : CB g0 c0 W ∧ CB g1 c1 W ∧ CB g2 c2 W ∧ CB g3 c3 W :=
 ⟨(h.bx ⟨g0, t0, c0⟩ (by simp)).cb, (h.bx ⟨g1, t1, c1⟩ (by simp)).cb, (h.bx ⟨g2, t2, c2⟩ (by simp)).cb, (h.bx ⟨g3, t3, c3⟩ (by simp)).cb⟩
theorem Env.d4 {g0 g1 g2 g3 : Nat} {t0 t1 t2 t3 : TypeId} {c0 c1 c2 c3 : Array Value} (h : Env w [⟨g0, t0, c0⟩, ⟨g1, t1, c1⟩, ⟨g2, t2, c2⟩, ⟨g3, t3, c3⟩] old new W) : g0 ≠ g1 ∧ g0 ≠ g2 ∧ g0 ≠ g3 ∧ g1 ≠ g0 ∧ g1 ≠ g2 ∧ g1 ≠ g3 ∧ g2 ≠ g0 ∧ g2 ≠ g1 ∧ g2 ≠ g3 ∧ g3 ≠ g0 ∧ g3 ≠ g1 ∧ g3 ≠ g2 := by
 have h := h.nd
 simp only [List.pairwise_cons, List.mem_cons, List.not_mem_nil, or_false, forall_eq_or_imp, forall_eq] at h
 simp_all [ne_comm]
theorem Env.lay4 {t0 t1 t2 t3 : TypeId} {c0 c1 c2 c3 : Array Value} (h : Env w [] old new w) (e : W = ((((w.alloc (.cells c0 t0)).alloc (.cells c1 t1)).alloc (.cells c2 t2)).alloc (.cells c3 t3))) : Env w [⟨w.heap.size + 1 + 1 + 1, t3, c3⟩, ⟨w.heap.size + 1 + 1, t2, c2⟩, ⟨w.heap.size + 1, t1, c1⟩, ⟨w.heap.size, t0, c0⟩] old new W := by
 subst e
 exact h.new_ (g := w.heap.size) (by simp) t0 c0 |>.new_ (g := w.heap.size + 1) (by simp) t1 c1 |>.new_ (g := w.heap.size + 1 + 1) (by simp) t2 c2 |>.new_ (g := w.heap.size + 1 + 1 + 1) (by simp) t3 c3
theorem Env.c5 {g0 g1 g2 g3 g4 : Nat} {t0 t1 t2 t3 t4 : TypeId} {c0 c1 c2 c3 c4 : Array Value} (h : Env w [⟨g0, t0, c0⟩, ⟨g1, t1, c1⟩, ⟨g2, t2, c2⟩, ⟨g3, t3, c3⟩, ⟨g4, t4, c4⟩] old new W) : CB g0 c0 W ∧ CB g1 c1 W ∧ CB g2 c2 W ∧ CB g3 c3 W ∧ CB g4 c4 W :=
 ⟨(h.bx ⟨g0, t0, c0⟩ (by simp)).cb, (h.bx ⟨g1, t1, c1⟩ (by simp)).cb, (h.bx ⟨g2, t2, c2⟩ (by simp)).cb, (h.bx ⟨g3, t3, c3⟩ (by simp)).cb, (h.bx ⟨g4, t4, c4⟩ (by simp)).cb⟩
theorem Env.d5 {g0 g1 g2 g3 g4 : Nat} {t0 t1 t2 t3 t4 : TypeId} {c0 c1 c2 c3 c4 : Array Value} (h : Env w [⟨g0, t0, c0⟩, ⟨g1, t1, c1⟩, ⟨g2, t2, c2⟩, ⟨g3, t3, c3⟩, ⟨g4, t4, c4⟩] old new W) : g0 ≠ g1 ∧ g0 ≠ g2 ∧ g0 ≠ g3 ∧ g0 ≠ g4 ∧ g1 ≠ g0 ∧ g1 ≠ g2 ∧ g1 ≠ g3 ∧ g1 ≠ g4 ∧ g2 ≠ g0 ∧ g2 ≠ g1 ∧ g2 ≠ g3 ∧ g2 ≠ g4 ∧ g3 ≠ g0 ∧ g3 ≠ g1 ∧ g3 ≠ g2 ∧ g3 ≠ g4 ∧ g4 ≠ g0 ∧ g4 ≠ g1 ∧ g4 ≠ g2 ∧ g4 ≠ g3 := by
 have h := h.nd
 simp only [List.pairwise_cons, List.mem_cons, List.not_mem_nil, or_false, forall_eq_or_imp, forall_eq] at h
 simp_all [ne_comm]
theorem Env.c6 {g0 g1 g2 g3 g4 g5 : Nat} {t0 t1 t2 t3 t4 t5 : TypeId} {c0 c1 c2 c3 c4 c5 : Array Value} (h : Env w [⟨g0, t0, c0⟩, ⟨g1, t1, c1⟩, ⟨g2, t2, c2⟩, ⟨g3, t3, c3⟩, ⟨g4, t4, c4⟩, ⟨g5, t5, c5⟩] old new W) : CB g0 c0 W ∧ CB g1 c1 W ∧ CB g2 c2 W ∧ CB g3 c3 W ∧ CB g4 c4 W ∧ CB g5 c5 W :=
 ⟨(h.bx ⟨g0, t0, c0⟩ (by simp)).cb, (h.bx ⟨g1, t1, c1⟩ (by simp)).cb, (h.bx ⟨g2, t2, c2⟩ (by simp)).cb, (h.bx ⟨g3, t3, c3⟩ (by simp)).cb, (h.bx ⟨g4, t4, c4⟩ (by simp)).cb, (h.bx ⟨g5, t5, c5⟩ (by simp)).cb⟩
theorem Env.d6 {g0 g1 g2 g3 g4 g5 : Nat} {t0 t1 t2 t3 t4 t5 : TypeId} {c0 c1 c2 c3 c4 c5 : Array Value} (h : Env w [⟨g0, t0, c0⟩, ⟨g1, t1, c1⟩, ⟨g2, t2, c2⟩, ⟨g3, t3, c3⟩, ⟨g4, t4, c4⟩, ⟨g5, t5, c5⟩] old new W) : g0 ≠ g1 ∧ g0 ≠ g2 ∧ g0 ≠ g3 ∧ g0 ≠ g4 ∧ g0 ≠ g5 ∧ g1 ≠ g0 ∧ g1 ≠ g2 ∧ g1 ≠ g3 ∧ g1 ≠ g4 ∧ g1 ≠ g5 ∧ g2 ≠ g0 ∧ g2 ≠ g1 ∧ g2 ≠ g3 ∧ g2 ≠ g4 ∧ g2 ≠ g5 ∧ g3 ≠ g0 ∧ g3 ≠ g1 ∧ g3 ≠ g2 ∧ g3 ≠ g4 ∧ g3 ≠ g5 ∧ g4 ≠ g0 ∧ g4 ≠ g1 ∧ g4 ≠ g2 ∧ g4 ≠ g3 ∧ g4 ≠ g5 ∧ g5 ≠ g0 ∧ g5 ≠ g1 ∧ g5 ≠ g2 ∧ g5 ≠ g3 ∧ g5 ≠ g4 := by
 have h := h.nd
 simp only [List.pairwise_cons, List.mem_cons, List.not_mem_nil, or_false, forall_eq_or_imp, forall_eq] at h
 simp_all [ne_comm]
theorem Env.c7 {g0 g1 g2 g3 g4 g5 g6 : Nat} {t0 t1 t2 t3 t4 t5 t6 : TypeId} {c0 c1 c2 c3 c4 c5 c6 : Array Value} (h : Env w [⟨g0, t0, c0⟩, ⟨g1, t1, c1⟩, ⟨g2, t2, c2⟩, ⟨g3, t3, c3⟩, ⟨g4, t4, c4⟩, ⟨g5, t5, c5⟩, ⟨g6, t6, c6⟩] old new W) : CB g0 c0 W ∧ CB g1 c1 W ∧ CB g2 c2 W ∧ CB g3 c3 W ∧ CB g4 c4 W ∧ CB g5 c5 W ∧ CB g6 c6 W :=
 ⟨(h.bx ⟨g0, t0, c0⟩ (by simp)).cb, (h.bx ⟨g1, t1, c1⟩ (by simp)).cb, (h.bx ⟨g2, t2, c2⟩ (by simp)).cb, (h.bx ⟨g3, t3, c3⟩ (by simp)).cb, (h.bx ⟨g4, t4, c4⟩ (by simp)).cb, (h.bx ⟨g5, t5, c5⟩ (by simp)).cb, (h.bx ⟨g6, t6, c6⟩ (by simp)).cb⟩
theorem Env.d7 {g0 g1 g2 g3 g4 g5 g6 : Nat} {t0 t1 t2 t3 t4 t5 t6 : TypeId} {c0 c1 c2 c3 c4 c5 c6 : Array Value} (h : Env w [⟨g0, t0, c0⟩, ⟨g1, t1, c1⟩, ⟨g2, t2, c2⟩, ⟨g3, t3, c3⟩, ⟨g4, t4, c4⟩, ⟨g5, t5, c5⟩, ⟨g6, t6, c6⟩] old new W) : g0 ≠ g1 ∧ g0 ≠ g2 ∧ g0 ≠ g3 ∧ g0 ≠ g4 ∧ g0 ≠ g5 ∧ g0 ≠ g6 ∧ g1 ≠ g0 ∧ g1 ≠ g2 ∧ g1 ≠ g3 ∧ g1 ≠ g4 ∧ g1 ≠ g5 ∧ g1 ≠ g6 ∧ g2 ≠ g0 ∧ g2 ≠ g1 ∧ g2 ≠ g3 ∧ g2 ≠ g4 ∧ g2 ≠ g5 ∧ g2 ≠ g6 ∧ g3 ≠ g0 ∧ g3 ≠ g1 ∧ g3 ≠ g2 ∧ g3 ≠ g4 ∧ g3 ≠ g5 ∧ g3 ≠ g6 ∧ g4 ≠ g0 ∧ g4 ≠ g1 ∧ g4 ≠ g2 ∧ g4 ≠ g3 ∧ g4 ≠ g5 ∧ g4 ≠ g6 ∧ g5 ≠ g0 ∧ g5 ≠ g1 ∧ g5 ≠ g2 ∧ g5 ≠ g3 ∧ g5 ≠ g4 ∧ g5 ≠ g6 ∧ g6 ≠ g0 ∧ g6 ≠ g1 ∧ g6 ≠ g2 ∧ g6 ≠ g3 ∧ g6 ≠ g4 ∧ g6 ≠ g5 := by
 have h := h.nd
 simp only [List.pairwise_cons, List.mem_cons, List.not_mem_nil, or_false, forall_eq_or_imp, forall_eq] at h
 simp_all [ne_comm]
theorem Env.put2 {g : Nat} {t : TypeId} {u0 u1 : Value} (h : Env w (⟨g, t, #[u0, u1]⟩ :: bs) old new W) (a b : Value) : Env w (⟨g, t, #[a, b]⟩ :: bs) old new ((W.setCell ⟨g, 0, none⟩ a).setCell ⟨g, 1, none⟩ b) := (h.put 0 a).put 1 b
theorem Env.put4 {g : Nat} {t : TypeId} {u0 u1 u2 u3 : Value} (h : Env w (⟨g, t, #[u0, u1, u2, u3]⟩ :: bs) old new W) (a b c d : Value) : Env w (⟨g, t, #[a, b, c, d]⟩ :: bs) old new ((((W.setCell ⟨g, 0, none⟩ a).setCell ⟨g, 1, none⟩ b).setCell ⟨g, 2, none⟩ c).setCell ⟨g, 3, none⟩ d) := (((h.put 0 a).put 1 b).put 2 c).put 3 d
theorem Env.put2_at {g : Nat} {t : TypeId} {u0 u1 : Value} (l : List Bo) (h : Env w (l ++ ⟨g, t, #[u0, u1]⟩ :: bs) old new W) (a b : Value) : Env w (l ++ ⟨g, t, #[a, b]⟩ :: bs) old new ((W.setCell ⟨g, 0, none⟩ a).setCell ⟨g, 1, none⟩ b) := ((h.perm List.perm_middle.symm).put2 a b).perm List.perm_middle
theorem Env.put2_1 {b0 : Bo} {g : Nat} {t : TypeId} {u0 u1 : Value} (h : Env w (b0 :: ⟨g, t, #[u0, u1]⟩ :: bs) old new W) (a b : Value) : Env w (b0 :: ⟨g, t, #[a, b]⟩ :: bs) old new ((W.setCell ⟨g, 0, none⟩ a).setCell ⟨g, 1, none⟩ b) := Env.put2_at [b0] h a b
theorem Env.put2_2 {b0 b1 : Bo} {g : Nat} {t : TypeId} {u0 u1 : Value} (h : Env w (b0 :: b1 :: ⟨g, t, #[u0, u1]⟩ :: bs) old new W) (a b : Value) : Env w (b0 :: b1 :: ⟨g, t, #[a, b]⟩ :: bs) old new ((W.setCell ⟨g, 0, none⟩ a).setCell ⟨g, 1, none⟩ b) := Env.put2_at [b0, b1] h a b
theorem Env.put2_3 {b0 b1 b2 : Bo} {g : Nat} {t : TypeId} {u0 u1 : Value} (h : Env w (b0 :: b1 :: b2 :: ⟨g, t, #[u0, u1]⟩ :: bs) old new W) (a b : Value) : Env w (b0 :: b1 :: b2 :: ⟨g, t, #[a, b]⟩ :: bs) old new ((W.setCell ⟨g, 0, none⟩ a).setCell ⟨g, 1, none⟩ b) := Env.put2_at [b0, b1, b2] h a b
theorem Env.put4_at {g : Nat} {t : TypeId} {u0 u1 u2 u3 : Value} (l : List Bo) (h : Env w (l ++ ⟨g, t, #[u0, u1, u2, u3]⟩ :: bs) old new W) (a b c d : Value) : Env w (l ++ ⟨g, t, #[a, b, c, d]⟩ :: bs) old new ((((W.setCell ⟨g, 0, none⟩ a).setCell ⟨g, 1, none⟩ b).setCell ⟨g, 2, none⟩ c).setCell ⟨g, 3, none⟩ d) := ((h.perm List.perm_middle.symm).put4 a b c d).perm List.perm_middle
theorem Env.put4_1 {b0 : Bo} {g : Nat} {t : TypeId} {u0 u1 u2 u3 : Value} (h : Env w (b0 :: ⟨g, t, #[u0, u1, u2, u3]⟩ :: bs) old new W) (a b c d : Value) : Env w (b0 :: ⟨g, t, #[a, b, c, d]⟩ :: bs) old new ((((W.setCell ⟨g, 0, none⟩ a).setCell ⟨g, 1, none⟩ b).setCell ⟨g, 2, none⟩ c).setCell ⟨g, 3, none⟩ d) := Env.put4_at [b0] h a b c d
theorem Env.put4_2 {b0 b1 : Bo} {g : Nat} {t : TypeId} {u0 u1 u2 u3 : Value} (h : Env w (b0 :: b1 :: ⟨g, t, #[u0, u1, u2, u3]⟩ :: bs) old new W) (a b c d : Value) : Env w (b0 :: b1 :: ⟨g, t, #[a, b, c, d]⟩ :: bs) old new ((((W.setCell ⟨g, 0, none⟩ a).setCell ⟨g, 1, none⟩ b).setCell ⟨g, 2, none⟩ c).setCell ⟨g, 3, none⟩ d) := Env.put4_at [b0, b1] h a b c d
theorem Env.put4_4 {b0 b1 b2 b3 : Bo} {g : Nat} {t : TypeId} {u0 u1 u2 u3 : Value} (h : Env w (b0 :: b1 :: b2 :: b3 :: ⟨g, t, #[u0, u1, u2, u3]⟩ :: bs) old new W) (a b c d : Value) : Env w (b0 :: b1 :: b2 :: b3 :: ⟨g, t, #[a, b, c, d]⟩ :: bs) old new ((((W.setCell ⟨g, 0, none⟩ a).setCell ⟨g, 1, none⟩ b).setCell ⟨g, 2, none⟩ c).setCell ⟨g, 3, none⟩ d) := Env.put4_at [b0, b1, b2, b3] h a b c d
theorem Env.retZ {g : Nat} {t : TypeId} {i : IV} {z : Int} (h : Env w (⟨g, t, #[.bool i.neg, .slice i.A i.k i.c]⟩ :: bs) old new W) (hn : ∀ V, new V → IntN i z V) : RetZ z w (.returned (.agg #[.bool i.neg, .slice i.A i.k i.c])) W :=
 ⟨i, rfl, (h.rsn.imp hn).mono fun _ h => h.1, h.bel⟩
theorem Env.st2_0 {g : Nat} {t : TypeId} {u0 u1 : Value} (h : Env w (⟨g, t, #[u0, u1]⟩ :: bs) old new W) (a b : Value) : ∃ W', ((W.setCell ⟨g, 0, none⟩ a).setCell ⟨g, 1, none⟩ b) = W' ∧ Hid (Env w (⟨g, t, #[a, b]⟩ :: bs) old new W') := ⟨_, rfl, zmZ (Env.put2 h a b)⟩
theorem Env.st2_1 {b0 : Bo} {g : Nat} {t : TypeId} {u0 u1 : Value} (h : Env w (b0 :: ⟨g, t, #[u0, u1]⟩ :: bs) old new W) (a b : Value) : ∃ W', ((W.setCell ⟨g, 0, none⟩ a).setCell ⟨g, 1, none⟩ b) = W' ∧ Hid (Env w (b0 :: ⟨g, t, #[a, b]⟩ :: bs) old new W') := ⟨_, rfl, zmZ (Env.put2_1 h a b)⟩
theorem Env.st2_2 {b0 b1 : Bo} {g : Nat} {t : TypeId} {u0 u1 : Value} (h : Env w (b0 :: b1 :: ⟨g, t, #[u0, u1]⟩ :: bs) old new W) (a b : Value) : ∃ W', ((W.setCell ⟨g, 0, none⟩ a).setCell ⟨g, 1, none⟩ b) = W' ∧ Hid (Env w (b0 :: b1 :: ⟨g, t, #[a, b]⟩ :: bs) old new W') := ⟨_, rfl, zmZ (Env.put2_2 h a b)⟩
theorem Env.st2_3 {b0 b1 b2 : Bo} {g : Nat} {t : TypeId} {u0 u1 : Value} (h : Env w (b0 :: b1 :: b2 :: ⟨g, t, #[u0, u1]⟩ :: bs) old new W) (a b : Value) : ∃ W', ((W.setCell ⟨g, 0, none⟩ a).setCell ⟨g, 1, none⟩ b) = W' ∧ Hid (Env w (b0 :: b1 :: b2 :: ⟨g, t, #[a, b]⟩ :: bs) old new W') := ⟨_, rfl, zmZ (Env.put2_3 h a b)⟩
theorem Env.st4_0 {g : Nat} {t : TypeId} {u0 u1 u2 u3 : Value} (h : Env w (⟨g, t, #[u0, u1, u2, u3]⟩ :: bs) old new W) (a b c d : Value) : ∃ W', ((((W.setCell ⟨g, 0, none⟩ a).setCell ⟨g, 1, none⟩ b).setCell ⟨g, 2, none⟩ c).setCell ⟨g, 3, none⟩ d) = W' ∧ Hid (Env w (⟨g, t, #[a, b, c, d]⟩ :: bs) old new W') := ⟨_, rfl, zmZ (Env.put4 h a b c d)⟩
theorem Env.al (h : Env w bs old new W) (t : TypeId) (cs : Array Value) : ∃ W' g, W.alloc (.cells cs t) = W' ∧ W.heap.size = g ∧ Hid (Env w (⟨g, t, cs⟩ :: bs) old new W') := ⟨_, _, rfl, rfl, zmZ (h.new_ rfl t cs)⟩
theorem Env.nn (h : Env w bs old new W) (t : TypeId) (cs : Array Value) : Env w (⟨W.heap.size, t, cs⟩ :: bs) old new (W.alloc (.cells cs t)) := h.new_ rfl t cs
theorem Env.nd_ (h : Env w bs old new W) (t : TypeId) (cs : Array Value) : Env w (⟨W.heap.size, t, cs⟩ :: bs) old new (W.drew.alloc (.cells cs t)) := h.drew.new_ rfl t cs
theorem Env.rx {V X : World} (h : Env w bs old new W) (hr : Rests X (V.heap.size ≤ ·) ψ) (hb : Below V.heap.size V X) (e : V = W ∨ V = W.drew := by first | with_reducible exact .inl rfl | with_reducible exact .inr rfl | exact .inl rfl | exact .inr rfl) : Env w bs old (fun V => ψ V ∧ new V) X := by
 rcases e with rfl | rfl
 ·exact h.ret hr hb
 ·exact h.drew.ret hr hb
theorem Env.cx {V X : World} (h : Env w bs old new W) (hb : Below V.heap.size V X) (e : V = W ∨ V = W.drew := by first | with_reducible exact .inl rfl | with_reducible exact .inr rfl | exact .inl rfl | exact .inr rfl) : Env w bs old new X := by
 rcases e with rfl | rfl
 ·exact h.call hb
 ·exact h.drew.call hb
end
theorem lyR {w : World} {o : World → Prop} (a : RV) (h : Rests w (· < w.heap.size) o) : Env w [⟨w.heap.size, 41, #[.bool a.num.neg, .slice a.num.A a.num.k a.num.c, .bool a.den.neg, .slice a.den.A a.den.k a.den.c]⟩] o (fun _ => True) (w.alloc (.cells #[.bool a.num.neg, .slice a.num.A a.num.k a.num.c, .bool a.den.neg, .slice a.den.A a.den.k a.den.c] 41)) := Env.lay1 (Env.start h) rfl
theorem lyRZ {w : World} {o : World → Prop} (a : RV) (h : Rests w (· < w.heap.size) o) : Env w [⟨w.heap.size + 1, 41, #[.bool false, .slice none 0 0, .bool false, .slice none 0 0]⟩, ⟨w.heap.size, 41, #[.bool a.num.neg, .slice a.num.A a.num.k a.num.c, .bool a.den.neg, .slice a.den.A a.den.k a.den.c]⟩] o (fun _ => True) ((w.alloc (.cells #[.bool a.num.neg, .slice a.num.A a.num.k a.num.c, .bool a.den.neg, .slice a.den.A a.den.k a.den.c] 41)).alloc (.cells #[.bool false, .slice none 0 0, .bool false, .slice none 0 0] 41)) := Env.lay2 (Env.start h) rfl
theorem lyRR {w : World} {o : World → Prop} (a : RV) (b : RV) (h : Rests w (· < w.heap.size) o) : Env w [⟨w.heap.size + 1, 41, #[.bool b.num.neg, .slice b.num.A b.num.k b.num.c, .bool b.den.neg, .slice b.den.A b.den.k b.den.c]⟩, ⟨w.heap.size, 41, #[.bool a.num.neg, .slice a.num.A a.num.k a.num.c, .bool a.den.neg, .slice a.den.A a.den.k a.den.c]⟩] o (fun _ => True) ((w.alloc (.cells #[.bool a.num.neg, .slice a.num.A a.num.k a.num.c, .bool a.den.neg, .slice a.den.A a.den.k a.den.c] 41)).alloc (.cells #[.bool b.num.neg, .slice b.num.A b.num.k b.num.c, .bool b.den.neg, .slice b.den.A b.den.k b.den.c] 41)) := Env.lay2 (Env.start h) rfl
theorem zfq {w : World} {o : World → Prop} (a : RV) (b : RV) (h : Rests w (· < w.heap.size) o) : Env w [⟨w.heap.size + 1 + 1, 41, #[.bool false, .slice none 0 0, .bool false, .slice none 0 0]⟩, ⟨w.heap.size + 1, 41, #[.bool b.num.neg, .slice b.num.A b.num.k b.num.c, .bool b.den.neg, .slice b.den.A b.den.k b.den.c]⟩, ⟨w.heap.size, 41, #[.bool a.num.neg, .slice a.num.A a.num.k a.num.c, .bool a.den.neg, .slice a.den.A a.den.k a.den.c]⟩] o (fun _ => True) (((w.alloc (.cells #[.bool a.num.neg, .slice a.num.A a.num.k a.num.c, .bool a.den.neg, .slice a.den.A a.den.k a.den.c] 41)).alloc (.cells #[.bool b.num.neg, .slice b.num.A b.num.k b.num.c, .bool b.den.neg, .slice b.den.A b.den.k b.den.c] 41)).alloc (.cells #[.bool false, .slice none 0 0, .bool false, .slice none 0 0] 41)) := Env.lay3 (Env.start h) rfl
theorem zm8 {w : World} {o : World → Prop} (a : IV) (b : IV) (h : Rests w (· < w.heap.size) o) : Env w [⟨w.heap.size + 1 + 1, 41, #[.bool false, .slice none 0 0, .bool false, .slice none 0 0]⟩, ⟨w.heap.size + 1, 39, #[.bool b.neg, .slice b.A b.k b.c]⟩, ⟨w.heap.size, 39, #[.bool a.neg, .slice a.A a.k a.c]⟩] o (fun _ => True) (((w.alloc (.cells #[.bool a.neg, .slice a.A a.k a.c] 39)).alloc (.cells #[.bool b.neg, .slice b.A b.k b.c] 39)).alloc (.cells #[.bool false, .slice none 0 0, .bool false, .slice none 0 0] 41)) := Env.lay3 (Env.start h) rfl
theorem lyII {w : World} {o : World → Prop} (a : IV) (b : IV) (h : Rests w (· < w.heap.size) o) : Env w [⟨w.heap.size + 1, 39, #[.bool b.neg, .slice b.A b.k b.c]⟩, ⟨w.heap.size, 39, #[.bool a.neg, .slice a.A a.k a.c]⟩] o (fun _ => True) ((w.alloc (.cells #[.bool a.neg, .slice a.A a.k a.c] 39)).alloc (.cells #[.bool b.neg, .slice b.A b.k b.c] 39)) := Env.lay2 (Env.start h) rfl
theorem zmN {w : World} {o : World → Prop} (a : IV) (b : IV) (h : Rests w (· < w.heap.size) o) : Env w [⟨w.heap.size + 1 + 1, 39, #[.bool false, .slice none 0 0]⟩, ⟨w.heap.size + 1, 39, #[.bool b.neg, .slice b.A b.k b.c]⟩, ⟨w.heap.size, 39, #[.bool a.neg, .slice a.A a.k a.c]⟩] o (fun _ => True) (((w.alloc (.cells #[.bool a.neg, .slice a.A a.k a.c] 39)).alloc (.cells #[.bool b.neg, .slice b.A b.k b.c] 39)).alloc (.cells #[.bool false, .slice none 0 0] 39)) := Env.lay3 (Env.start h) rfl
theorem zh9 {w : World} {o : World → Prop} (a : IV) (b : IV) (h : Rests w (· < w.heap.size) o) : Env w [⟨w.heap.size + 1 + 1 + 1, 39, #[.bool false, .slice none 0 0]⟩, ⟨w.heap.size + 1 + 1, 39, #[.bool false, .slice none 0 0]⟩, ⟨w.heap.size + 1, 39, #[.bool b.neg, .slice b.A b.k b.c]⟩, ⟨w.heap.size, 39, #[.bool a.neg, .slice a.A a.k a.c]⟩] o (fun _ => True) ((((w.alloc (.cells #[.bool a.neg, .slice a.A a.k a.c] 39)).alloc (.cells #[.bool b.neg, .slice b.A b.k b.c] 39)).alloc (.cells #[.bool false, .slice none 0 0] 39)).alloc (.cells #[.bool false, .slice none 0 0] 39)) := Env.lay4 (Env.start h) rfl
theorem zlR {w : World} {o : World → Prop} (a : RV) (h : Rests w (· < w.heap.size) o) : Env w [⟨w.heap.size + 1 + 1, 39, #[.bool false, .slice none 0 0]⟩, ⟨w.heap.size + 1, 39, #[.bool false, .slice none 0 0]⟩, ⟨w.heap.size, 41, #[.bool a.num.neg, .slice a.num.A a.num.k a.num.c, .bool a.den.neg, .slice a.den.A a.den.k a.den.c]⟩] o (fun _ => True) (((w.alloc (.cells #[.bool a.num.neg, .slice a.num.A a.num.k a.num.c, .bool a.den.neg, .slice a.den.A a.den.k a.den.c] 41)).alloc (.cells #[.bool false, .slice none 0 0] 39)).alloc (.cells #[.bool false, .slice none 0 0] 39)) := Env.lay3 (Env.start h) rfl
theorem lyZ {w : World} {o : World → Prop} (h : Rests w (· < w.heap.size) o) : Env w [⟨w.heap.size, 41, #[.bool false, .slice none 0 0, .bool false, .slice none 0 0]⟩] o (fun _ => True) (w.alloc (.cells #[.bool false, .slice none 0 0, .bool false, .slice none 0 0] 41)) := Env.lay1 (Env.start h) rfl
theorem lyO {w : World} {o : World → Prop} (h : Rests w (· < w.heap.size) o) : Env w [⟨w.heap.size, 39, #[.bool false, .slice none 0 0]⟩] o (fun _ => True) (w.alloc (.cells #[.bool false, .slice none 0 0] 39)) := Env.lay1 (Env.start h) rfl
theorem lyZZ {w : World} {o : World → Prop} (h : Rests w (· < w.heap.size) o) : Env w [⟨w.heap.size + 1, 41, #[.bool false, .slice none 0 0, .bool false, .slice none 0 0]⟩, ⟨w.heap.size, 41, #[.bool false, .slice none 0 0, .bool false, .slice none 0 0]⟩] o (fun _ => True) ((w.alloc (.cells #[.bool false, .slice none 0 0, .bool false, .slice none 0 0] 41)).alloc (.cells #[.bool false, .slice none 0 0, .bool false, .slice none 0 0] 41)) := Env.lay2 (Env.start h) rfl
theorem lyI {w : World} {o : World → Prop} (a : IV) (h : Rests w (· < w.heap.size) o) : Env w [⟨w.heap.size, 39, #[.bool a.neg, .slice a.A a.k a.c]⟩] o (fun _ => True) (w.alloc (.cells #[.bool a.neg, .slice a.A a.k a.c] 39)) := Env.lay1 (Env.start h) rfl
theorem zfx {x d : Int} (hd : 0 < d) : (Rat.divInt x d).num = x / (Nat.gcd x.natAbs d.natAbs : Int) ∧ ((Rat.divInt x d).den : Int) = d / (Nat.gcd x.natAbs d.natAbs : Int) := by
 rw [Rat.num_divInt, Rat.den_divInt, if_neg (by omega), Int.sign_eq_one_of_pos hd, Int.one_mul]
 have e : Int.gcd d x = Nat.gcd x.natAbs d.natAbs := by unfold Int.gcd; exact Nat.gcd_comm _ _
 rw [e]
 refine ⟨rfl, ?_⟩
 rw [Int.natCast_ediv]
 congr 1
 omega
theorem zmo (w : World) (F : Nat → Prop) : Rests w F (IntN ⟨false, none, 0, 0⟩ 0) :=
 ⟨⟨rfl, Nat.le_refl _, rfl, Rd.nil_ _ _⟩, fun _ _ => ⟨rfl, Nat.le_refl _, rfl, Rd.nil_ _ _⟩⟩
def zfi : RV := ⟨⟨false, none, 0, 0⟩, ⟨false, none, 0, 0⟩⟩
theorem Rests.clip' {w : World} {F G : Nat → Prop} {φ : World → Prop} (h : Rests w F φ) (hG : ∀ b, F b → b < w.heap.size → G b) : Rests w G φ := ⟨h.now, fun w' hw => h.lift w' fun b hF hb => hw b (hG b hF hb) hb⟩
section
variable {w W W' : World} {bs : List Bo} {old new φ ψ : World → Prop}
theorem Env.al2 (h : Env w bs old new W) (t t' : TypeId) (cs cs' : Array Value) : ∃ W' g g', (W.alloc (.cells cs t)).alloc (.cells cs' t') = W' ∧ W.heap.size + 1 = g' ∧ W.heap.size = g ∧ Hid (Env w (⟨g', t', cs'⟩ :: ⟨g, t, cs⟩ :: bs) old new W') :=
 ⟨_, _, _, rfl, rfl, rfl, zmZ ((h.new_ rfl t cs).new_ (by simp) t' cs')⟩
theorem Env.retR' {r : RV} {q : Rat} {v : Value} (h : Env w bs old new W) (hv : v = .agg #[.bool r.num.neg, .slice r.num.A r.num.k r.num.c, .bool r.den.neg, .slice r.den.A r.den.k r.den.c]) (hn : ∀ V, new V → RatN r q V) : RetR q w (.returned v) W := by
 subst hv
 exact ⟨r, rfl, (h.rsn.imp hn).mono fun _ h => h.1, h.bel⟩
theorem Env.up (h : Env w bs old new W) {F : Nat → Prop} (hn : ∀ V, new V → φ V) : Rests W (fun b => F b ∨ w.heap.size ≤ b) φ := (h.rsn.imp hn).mono fun _ h => .inr h.1
theorem Env.keep_ (h : Env w bs old new W) {F : Nat → Prop} (hr : Rests w F φ) : Rests W (fun b => F b ∨ w.heap.size ≤ b) φ := (hr.below h.bel).mono fun _ h => .inl h
theorem Env.dr (h : Env w bs old new W) : ∃ W', W.drew = W' ∧ Hid (Env w bs old new W') := ⟨_, rfl, zmZ h.drew⟩
theorem zcM (V : World) : IntN ⟨false, none, 0, 0⟩ 0 V := ⟨by simp [zbi], Nat.le_refl _, rfl, by simpa [zbi] using Rd.nil_ V .u64⟩
theorem Env.drop {b : Bo} (h : Env w (b :: bs) old new W) : Env w bs old new W :=
 ⟨fun c hc => h.bx c (List.mem_cons_of_mem _ hc), h.rso.mono fun _ hn c hc => hn c (List.mem_cons_of_mem _ hc), h.rsn.mono fun _ hn => ⟨hn.1, fun c hc => hn.2 c (List.mem_cons_of_mem _ hc)⟩, h.bel, fun c hc => h.own c (List.mem_cons_of_mem _ hc), (List.pairwise_cons.1 h.nd).2⟩
theorem RatN.zd {k : IV} {q : Rat} {V : World} {X : Int} (h : IntN k X V) (hx : q.num = X) (hd : q.den = 1) : RatN ⟨k, ⟨false, none, 0, 0⟩⟩ q V :=
 ⟨by rw [hx]; exact h, by unfold dn; rw [if_pos hd]; exact zcM V⟩
theorem RatN.md {k l : IV} {q : Rat} {V : World} {X D : Int} (h : IntN k X V) (h' : IntN l D V) (hx : q.num = X) (hd : (q.den : Int) = D) (h1 : D ≠ 1) : RatN ⟨k, l⟩ q V :=
 ⟨by rw [hx]; exact h, by unfold dn; rw [if_neg (by omega), hd]; exact h'⟩
end
end Go.Proofs.YtikmgoefjbhcjaaGreatDoor
