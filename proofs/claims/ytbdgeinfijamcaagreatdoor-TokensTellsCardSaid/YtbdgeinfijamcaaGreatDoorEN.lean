/-
  The state of a walk: its boxes, what is known of memory beside them, what was there before.
-/
import Derived.Test.YtbdgeinfijamcaaGreatDoorVal
namespace Go.Proofs.YtbdgeinfijamcaaGreatDoor
open Go.RowKit

/-- a box: its block, the type and the cells -/
structure Bo where
  g : Nat
  t : TypeId
  cs : Array Value
/-- boxes bs of the walk's own; old facts and facts of new memory, both beside the boxes; what was there stays -/
structure Env (w : World) (bs : List Bo) (old new : World → Prop) (W : World) : Prop where
  bx : ∀ b ∈ bs, Blk W b.g b.t b.cs
  rso : Rests W (fun n => ∀ b ∈ bs, b.g ≠ n) old
  rsn : Rests W (fun n => w.heap.size ≤ n ∧ ∀ b ∈ bs, b.g ≠ n) new
  bel : Below w.heap.size w W
  own : ∀ b ∈ bs, w.heap.size ≤ b.g
  nd : bs.Pairwise fun a b => a.g ≠ b.g
theorem Rests.fresh {w : World} {F G : Nat → Prop} {φ : World → Prop} (h : Rests w F φ) (hF : ∀ b, F b → b < w.heap.size → G b) (o : Obj) : Rests (w.alloc o) G φ :=
  ⟨h.lift _ fun b _ hb => Below.heap_alloc w o b hb, fun w' hw => h.lift _ fun b hb hlt => (hw b (hF b hb hlt) (by simp; omega)).trans (Below.heap_alloc w o b hlt)⟩
section
variable {w W W' : World} {bs : List Bo} {old new φ ψ : World → Prop}
theorem Env.o (h : Env w bs old new W) : old W := h.rso.now
theorem Env.n (h : Env w bs old new W) : new W := h.rsn.now
theorem Env.start (h : Rests w (· < w.heap.size) old) : Env w [] old (fun _ => True) w :=
  ⟨fun b hb => (by simp at hb), h.mono (fun n _ b hb => by simp at hb), .pure trivial _ _, .refl _ _, fun b hb => (by simp at hb), .nil⟩
theorem Env.drew (h : Env w bs old new W) : Env w bs old new W.drew := ⟨h.bx, h.rso.drew, h.rsn.drew, h.bel.drew, h.own, h.nd⟩
theorem Env.call (h : Env w bs old new W) (hb : Below W.heap.size W W') : Env w bs old new W' :=
  ⟨fun b hm => (h.bx b hm).below hb (h.bx b hm).lt, h.rso.below hb, h.rsn.below hb, Below.after h.bel hb, h.own, h.nd⟩
/-- a call that tells something in new memory -/
theorem Env.ret (h : Env w bs old new W) (hr : Rests W' (W.heap.size ≤ ·) ψ) (hb : Below W.heap.size W W') : Env w bs old (fun V => ψ V ∧ new V) W' :=
  have k := h.call hb
  ⟨k.bx, k.rso, (hr.mono fun n hn => ⟨Nat.le_trans h.bel.size hn, fun b hm e => by have := (h.bx b hm).lt; have : W.heap.size ≤ n := hn; omega⟩).and k.rsn, k.bel, k.own, k.nd⟩
theorem Env.imp (h : Env w bs old new W) (ho : ∀ V, old V → φ V) (hn : ∀ V, new V → ψ V) : Env w bs φ ψ W := ⟨h.bx, h.rso.imp ho, h.rsn.imp hn, h.bel, h.own, h.nd⟩
/-- a fact of new memory told among the old -/
theorem Env.sink (h : Env w bs old new W) : Env w bs (fun V => new V ∧ old V) new W := ⟨h.bx, (h.rsn.mono fun _ h => h.2).and h.rso, h.rsn, h.bel, h.own, h.nd⟩
theorem Env.new_ (h : Env w bs old new W) {g : Nat} (hg : W.heap.size = g) (t : TypeId) (cs : Array Value) : Env w (⟨g, t, cs⟩ :: bs) old new (W.alloc (.cells cs t)) := by
  subst hg
  have hne : ∀ b ∈ bs, W.heap.size ≠ b.g := fun b hm e => by have := (h.bx b hm).lt; omega
  have hfr : ∀ n, (∀ b ∈ bs, b.g ≠ n) → n < W.heap.size → ∀ b ∈ (⟨W.heap.size, t, cs⟩ :: bs : List Bo), b.g ≠ n := fun n hn hlt b hm => by
    rcases List.mem_cons.1 hm with rfl | hm
    · exact fun e : W.heap.size = n => by omega
    · exact hn b hm
  have hbx : ∀ b ∈ (⟨W.heap.size, t, cs⟩ :: bs : List Bo), Blk (W.alloc (.cells cs t)) b.g b.t b.cs := fun b hm => by
    rcases List.mem_cons.1 hm with rfl | hm
    · exact Blk.new W t cs
    · exact (h.bx b hm).alloc _
  have hown : ∀ b ∈ (⟨W.heap.size, t, cs⟩ :: bs : List Bo), w.heap.size ≤ b.g := fun b hm => by
    rcases List.mem_cons.1 hm with rfl | hm
    · exact h.bel.size
    · exact h.own b hm
  exact ⟨hbx, h.rso.fresh hfr _, h.rsn.fresh (fun n hn hlt => ⟨hn.1, hfr n hn.2 hlt⟩) _, h.bel.alloc h.bel.size _, hown, .cons hne h.nd⟩
/-- an object that is no box -/
theorem Env.other (h : Env w bs old new W) (o : Obj) : Env w bs old new (W.alloc o) :=
  ⟨fun b hm => (h.bx b hm).alloc _, h.rso.alloc _, h.rsn.alloc _, h.bel.alloc h.bel.size _, h.own, h.nd⟩
/-- the first box's cell is set -/
theorem Env.put {g : Nat} {t : TypeId} {cs : Array Value} (h : Env w (⟨g, t, cs⟩ :: bs) old new W) (i : Nat) (v : Value) : Env w (⟨g, t, cs.setIfInBounds i v⟩ :: bs) old new (W.setCell ⟨g, i, none⟩ v) := by
  have hne : ∀ b ∈ bs, g ≠ b.g := (List.pairwise_cons.1 h.nd).1
  have h0 := h.bx ⟨g, t, cs⟩ (List.mem_cons_self ..)
  have hfr : ∀ n, (∀ b ∈ (⟨g, t, cs⟩ :: bs : List Bo), b.g ≠ n) → ∀ b ∈ (⟨g, t, cs.setIfInBounds i v⟩ :: bs : List Bo), b.g ≠ n := fun n hn b hm => by
    rcases List.mem_cons.1 hm with rfl | hm
    · exact hn ⟨g, t, cs⟩ (List.mem_cons_self ..)
    · exact hn b (List.mem_cons_of_mem _ hm)
  have hbx : ∀ b ∈ (⟨g, t, cs.setIfInBounds i v⟩ :: bs : List Bo), Blk (W.setCell ⟨g, i, none⟩ v) b.g b.t b.cs := fun b hm => by
    rcases List.mem_cons.1 hm with rfl | hm
    · exact h0.set_ i v
    · exact (h.bx b (List.mem_cons_of_mem _ hm)).far (p := ⟨g, i, none⟩) (fun e => hne b hm e.symm) v
  have hown : ∀ b ∈ (⟨g, t, cs.setIfInBounds i v⟩ :: bs : List Bo), w.heap.size ≤ b.g := fun b hm => by
    rcases List.mem_cons.1 hm with rfl | hm
    · exact h.own ⟨g, t, cs⟩ (List.mem_cons_self ..)
    · exact h.own b (List.mem_cons_of_mem _ hm)
  exact ⟨hbx, (h.rso.set (fun k => k _ (List.mem_cons_self ..) rfl) v).mono hfr, (h.rsn.set (fun k => k.2 _ (List.mem_cons_self ..) rfl) v).mono fun n hn => ⟨hn.1, hfr n hn.2⟩, h.bel.setCell (h.own _ (List.mem_cons_self ..) : w.heap.size ≤ g) v, hown, .cons hne (List.pairwise_cons.1 h.nd).2⟩
/-- the boxes in another order -/
theorem Env.perm {bs' : List Bo} (h : Env w bs old new W) (p : bs'.Perm bs) : Env w bs' old new W :=
  ⟨fun b hm => h.bx b (p.mem_iff.1 hm), h.rso.mono fun _ hn b hm => hn b (p.mem_iff.1 hm), h.rsn.mono fun _ hn => ⟨hn.1, fun b hm => hn.2 b (p.mem_iff.1 hm)⟩, h.bel, fun b hm => h.own b (p.mem_iff.1 hm), (p.pairwise_iff fun h => Ne.symm h).2 h.nd⟩
/-- a box's cells -/
@[reducible] def CB (g : Nat) (cs : Array Value) (W : World) : Prop := (∀ i, W.cell? ⟨g, i, none⟩ = cs[i]?) ∧ (∀ i, W.frozen? ⟨g, i, none⟩ = false)
theorem Blk.cb {g : Nat} {t : TypeId} {cs : Array Value} (h : Blk W g t cs) : CB g cs W := ⟨h.cell, h.frozen⟩
theorem Env.c1 {g0 : Nat} {t0 : TypeId} {c0 : Array Value} (h : Env w [⟨g0, t0, c0⟩] old new W) : CB g0 c0 W :=
  (h.bx ⟨g0, t0, c0⟩ (by simp)).cb
theorem Env.lay1 {t0 : TypeId} {c0 : Array Value} (h : Env w [] old new w) (e : W = (w.alloc (.cells c0 t0))) : Env w [⟨w.heap.size, t0, c0⟩] old new W := by
  subst e
  exact h.new_ (g := w.heap.size) (by simp) t0 c0
theorem Env.c2 {g0 g1 : Nat} {t0 t1 : TypeId} {c0 c1 : Array Value} (h : Env w [⟨g0, t0, c0⟩, ⟨g1, t1, c1⟩] old new W) : CB g0 c0 W ∧ CB g1 c1 W :=
  ⟨(h.bx ⟨g0, t0, c0⟩ (by simp)).cb, (h.bx ⟨g1, t1, c1⟩ (by simp)).cb⟩
theorem Env.d2 {g0 g1 : Nat} {t0 t1 : TypeId} {c0 c1 : Array Value} (h : Env w [⟨g0, t0, c0⟩, ⟨g1, t1, c1⟩] old new W) : g0 ≠ g1 ∧ g1 ≠ g0 := by
  have h := h.nd
  simp only [List.pairwise_cons, List.mem_cons, List.not_mem_nil, or_false, forall_eq] at h
  simp_all [ne_comm]
theorem Env.lay2 {t0 t1 : TypeId} {c0 c1 : Array Value} (h : Env w [] old new w) (e : W = ((w.alloc (.cells c0 t0)).alloc (.cells c1 t1))) : Env w [⟨w.heap.size + 1, t1, c1⟩, ⟨w.heap.size, t0, c0⟩] old new W := by
  subst e
  exact h.new_ (g := w.heap.size) (by simp) t0 c0 |>.new_ (g := w.heap.size + 1) (by simp) t1 c1
theorem Env.c3 {g0 g1 g2 : Nat} {t0 t1 t2 : TypeId} {c0 c1 c2 : Array Value} (h : Env w [⟨g0, t0, c0⟩, ⟨g1, t1, c1⟩, ⟨g2, t2, c2⟩] old new W) : CB g0 c0 W ∧ CB g1 c1 W ∧ CB g2 c2 W :=
  ⟨(h.bx ⟨g0, t0, c0⟩ (by simp)).cb, (h.bx ⟨g1, t1, c1⟩ (by simp)).cb, (h.bx ⟨g2, t2, c2⟩ (by simp)).cb⟩
theorem Env.d3 {g0 g1 g2 : Nat} {t0 t1 t2 : TypeId} {c0 c1 c2 : Array Value} (h : Env w [⟨g0, t0, c0⟩, ⟨g1, t1, c1⟩, ⟨g2, t2, c2⟩] old new W) : g0 ≠ g1 ∧ g0 ≠ g2 ∧ g1 ≠ g0 ∧ g1 ≠ g2 ∧ g2 ≠ g0 ∧ g2 ≠ g1 := by
  have h := h.nd
  simp only [List.pairwise_cons, List.mem_cons, List.not_mem_nil, or_false, forall_eq_or_imp, forall_eq] at h
  simp_all [ne_comm]
theorem Env.lay3 {t0 t1 t2 : TypeId} {c0 c1 c2 : Array Value} (h : Env w [] old new w) (e : W = (((w.alloc (.cells c0 t0)).alloc (.cells c1 t1)).alloc (.cells c2 t2))) : Env w [⟨w.heap.size + 1 + 1, t2, c2⟩, ⟨w.heap.size + 1, t1, c1⟩, ⟨w.heap.size, t0, c0⟩] old new W := by
  subst e
  exact h.new_ (g := w.heap.size) (by simp) t0 c0 |>.new_ (g := w.heap.size + 1) (by simp) t1 c1 |>.new_ (g := w.heap.size + 1 + 1) (by simp) t2 c2
theorem Env.c4 {g0 g1 g2 g3 : Nat} {t0 t1 t2 t3 : TypeId} {c0 c1 c2 c3 : Array Value} (h : Env w [⟨g0, t0, c0⟩, ⟨g1, t1, c1⟩, ⟨g2, t2, c2⟩, ⟨g3, t3, c3⟩] old new W) : CB g0 c0 W ∧ CB g1 c1 W ∧ CB g2 c2 W ∧ CB g3 c3 W :=
  ⟨(h.bx ⟨g0, t0, c0⟩ (by simp)).cb, (h.bx ⟨g1, t1, c1⟩ (by simp)).cb, (h.bx ⟨g2, t2, c2⟩ (by simp)).cb, (h.bx ⟨g3, t3, c3⟩ (by simp)).cb⟩
theorem Env.d4 {g0 g1 g2 g3 : Nat} {t0 t1 t2 t3 : TypeId} {c0 c1 c2 c3 : Array Value} (h : Env w [⟨g0, t0, c0⟩, ⟨g1, t1, c1⟩, ⟨g2, t2, c2⟩, ⟨g3, t3, c3⟩] old new W) : g0 ≠ g1 ∧ g0 ≠ g2 ∧ g0 ≠ g3 ∧ g1 ≠ g0 ∧ g1 ≠ g2 ∧ g1 ≠ g3 ∧ g2 ≠ g0 ∧ g2 ≠ g1 ∧ g2 ≠ g3 ∧ g3 ≠ g0 ∧ g3 ≠ g1 ∧ g3 ≠ g2 := by
  have h := h.nd
  simp only [List.pairwise_cons, List.mem_cons, List.not_mem_nil, or_false, forall_eq_or_imp, forall_eq] at h
  simp_all [ne_comm]
theorem Env.lay4 {t0 t1 t2 t3 : TypeId} {c0 c1 c2 c3 : Array Value} (h : Env w [] old new w) (e : W = ((((w.alloc (.cells c0 t0)).alloc (.cells c1 t1)).alloc (.cells c2 t2)).alloc (.cells c3 t3))) : Env w [⟨w.heap.size + 1 + 1 + 1, t3, c3⟩, ⟨w.heap.size + 1 + 1, t2, c2⟩, ⟨w.heap.size + 1, t1, c1⟩, ⟨w.heap.size, t0, c0⟩] old new W := by
  subst e
  exact h.new_ (g := w.heap.size) (by simp) t0 c0 |>.new_ (g := w.heap.size + 1) (by simp) t1 c1 |>.new_ (g := w.heap.size + 1 + 1) (by simp) t2 c2 |>.new_ (g := w.heap.size + 1 + 1 + 1) (by simp) t3 c3
theorem Env.c5 {g0 g1 g2 g3 g4 : Nat} {t0 t1 t2 t3 t4 : TypeId} {c0 c1 c2 c3 c4 : Array Value} (h : Env w [⟨g0, t0, c0⟩, ⟨g1, t1, c1⟩, ⟨g2, t2, c2⟩, ⟨g3, t3, c3⟩, ⟨g4, t4, c4⟩] old new W) : CB g0 c0 W ∧ CB g1 c1 W ∧ CB g2 c2 W ∧ CB g3 c3 W ∧ CB g4 c4 W :=
  ⟨(h.bx ⟨g0, t0, c0⟩ (by simp)).cb, (h.bx ⟨g1, t1, c1⟩ (by simp)).cb, (h.bx ⟨g2, t2, c2⟩ (by simp)).cb, (h.bx ⟨g3, t3, c3⟩ (by simp)).cb, (h.bx ⟨g4, t4, c4⟩ (by simp)).cb⟩
theorem Env.d5 {g0 g1 g2 g3 g4 : Nat} {t0 t1 t2 t3 t4 : TypeId} {c0 c1 c2 c3 c4 : Array Value} (h : Env w [⟨g0, t0, c0⟩, ⟨g1, t1, c1⟩, ⟨g2, t2, c2⟩, ⟨g3, t3, c3⟩, ⟨g4, t4, c4⟩] old new W) : g0 ≠ g1 ∧ g0 ≠ g2 ∧ g0 ≠ g3 ∧ g0 ≠ g4 ∧ g1 ≠ g0 ∧ g1 ≠ g2 ∧ g1 ≠ g3 ∧ g1 ≠ g4 ∧ g2 ≠ g0 ∧ g2 ≠ g1 ∧ g2 ≠ g3 ∧ g2 ≠ g4 ∧ g3 ≠ g0 ∧ g3 ≠ g1 ∧ g3 ≠ g2 ∧ g3 ≠ g4 ∧ g4 ≠ g0 ∧ g4 ≠ g1 ∧ g4 ≠ g2 ∧ g4 ≠ g3 := by
  have h := h.nd
  simp only [List.pairwise_cons, List.mem_cons, List.not_mem_nil, or_false, forall_eq_or_imp, forall_eq] at h
  simp_all [ne_comm]
theorem Env.c6 {g0 g1 g2 g3 g4 g5 : Nat} {t0 t1 t2 t3 t4 t5 : TypeId} {c0 c1 c2 c3 c4 c5 : Array Value} (h : Env w [⟨g0, t0, c0⟩, ⟨g1, t1, c1⟩, ⟨g2, t2, c2⟩, ⟨g3, t3, c3⟩, ⟨g4, t4, c4⟩, ⟨g5, t5, c5⟩] old new W) : CB g0 c0 W ∧ CB g1 c1 W ∧ CB g2 c2 W ∧ CB g3 c3 W ∧ CB g4 c4 W ∧ CB g5 c5 W :=
  ⟨(h.bx ⟨g0, t0, c0⟩ (by simp)).cb, (h.bx ⟨g1, t1, c1⟩ (by simp)).cb, (h.bx ⟨g2, t2, c2⟩ (by simp)).cb, (h.bx ⟨g3, t3, c3⟩ (by simp)).cb, (h.bx ⟨g4, t4, c4⟩ (by simp)).cb, (h.bx ⟨g5, t5, c5⟩ (by simp)).cb⟩
theorem Env.d6 {g0 g1 g2 g3 g4 g5 : Nat} {t0 t1 t2 t3 t4 t5 : TypeId} {c0 c1 c2 c3 c4 c5 : Array Value} (h : Env w [⟨g0, t0, c0⟩, ⟨g1, t1, c1⟩, ⟨g2, t2, c2⟩, ⟨g3, t3, c3⟩, ⟨g4, t4, c4⟩, ⟨g5, t5, c5⟩] old new W) : g0 ≠ g1 ∧ g0 ≠ g2 ∧ g0 ≠ g3 ∧ g0 ≠ g4 ∧ g0 ≠ g5 ∧ g1 ≠ g0 ∧ g1 ≠ g2 ∧ g1 ≠ g3 ∧ g1 ≠ g4 ∧ g1 ≠ g5 ∧ g2 ≠ g0 ∧ g2 ≠ g1 ∧ g2 ≠ g3 ∧ g2 ≠ g4 ∧ g2 ≠ g5 ∧ g3 ≠ g0 ∧ g3 ≠ g1 ∧ g3 ≠ g2 ∧ g3 ≠ g4 ∧ g3 ≠ g5 ∧ g4 ≠ g0 ∧ g4 ≠ g1 ∧ g4 ≠ g2 ∧ g4 ≠ g3 ∧ g4 ≠ g5 ∧ g5 ≠ g0 ∧ g5 ≠ g1 ∧ g5 ≠ g2 ∧ g5 ≠ g3 ∧ g5 ≠ g4 := by
  have h := h.nd
  simp only [List.pairwise_cons, List.mem_cons, List.not_mem_nil, or_false, forall_eq_or_imp, forall_eq] at h
  simp_all [ne_comm]
theorem Env.c7 {g0 g1 g2 g3 g4 g5 g6 : Nat} {t0 t1 t2 t3 t4 t5 t6 : TypeId} {c0 c1 c2 c3 c4 c5 c6 : Array Value} (h : Env w [⟨g0, t0, c0⟩, ⟨g1, t1, c1⟩, ⟨g2, t2, c2⟩, ⟨g3, t3, c3⟩, ⟨g4, t4, c4⟩, ⟨g5, t5, c5⟩, ⟨g6, t6, c6⟩] old new W) : CB g0 c0 W ∧ CB g1 c1 W ∧ CB g2 c2 W ∧ CB g3 c3 W ∧ CB g4 c4 W ∧ CB g5 c5 W ∧ CB g6 c6 W :=
  ⟨(h.bx ⟨g0, t0, c0⟩ (by simp)).cb, (h.bx ⟨g1, t1, c1⟩ (by simp)).cb, (h.bx ⟨g2, t2, c2⟩ (by simp)).cb, (h.bx ⟨g3, t3, c3⟩ (by simp)).cb, (h.bx ⟨g4, t4, c4⟩ (by simp)).cb, (h.bx ⟨g5, t5, c5⟩ (by simp)).cb, (h.bx ⟨g6, t6, c6⟩ (by simp)).cb⟩
theorem Env.put2 {g : Nat} {t : TypeId} {u0 u1 : Value} (h : Env w (⟨g, t, #[u0, u1]⟩ :: bs) old new W) (a b : Value) : Env w (⟨g, t, #[a, b]⟩ :: bs) old new ((W.setCell ⟨g, 0, none⟩ a).setCell ⟨g, 1, none⟩ b) := (h.put 0 a).put 1 b
theorem Env.put4 {g : Nat} {t : TypeId} {u0 u1 u2 u3 : Value} (h : Env w (⟨g, t, #[u0, u1, u2, u3]⟩ :: bs) old new W) (a b c d : Value) : Env w (⟨g, t, #[a, b, c, d]⟩ :: bs) old new ((((W.setCell ⟨g, 0, none⟩ a).setCell ⟨g, 1, none⟩ b).setCell ⟨g, 2, none⟩ c).setCell ⟨g, 3, none⟩ d) := (((h.put 0 a).put 1 b).put 2 c).put 3 d
theorem Env.put2_at {g : Nat} {t : TypeId} {u0 u1 : Value} (l : List Bo) (h : Env w (l ++ ⟨g, t, #[u0, u1]⟩ :: bs) old new W) (a b : Value) : Env w (l ++ ⟨g, t, #[a, b]⟩ :: bs) old new ((W.setCell ⟨g, 0, none⟩ a).setCell ⟨g, 1, none⟩ b) := ((h.perm List.perm_middle.symm).put2 a b).perm List.perm_middle
theorem Env.put2_1 {b0 : Bo} {g : Nat} {t : TypeId} {u0 u1 : Value} (h : Env w (b0 :: ⟨g, t, #[u0, u1]⟩ :: bs) old new W) (a b : Value) : Env w (b0 :: ⟨g, t, #[a, b]⟩ :: bs) old new ((W.setCell ⟨g, 0, none⟩ a).setCell ⟨g, 1, none⟩ b) := Env.put2_at [b0] h a b
theorem Env.put2_2 {b0 b1 : Bo} {g : Nat} {t : TypeId} {u0 u1 : Value} (h : Env w (b0 :: b1 :: ⟨g, t, #[u0, u1]⟩ :: bs) old new W) (a b : Value) : Env w (b0 :: b1 :: ⟨g, t, #[a, b]⟩ :: bs) old new ((W.setCell ⟨g, 0, none⟩ a).setCell ⟨g, 1, none⟩ b) := Env.put2_at [b0, b1] h a b
theorem Env.put2_3 {b0 b1 b2 : Bo} {g : Nat} {t : TypeId} {u0 u1 : Value} (h : Env w (b0 :: b1 :: b2 :: ⟨g, t, #[u0, u1]⟩ :: bs) old new W) (a b : Value) : Env w (b0 :: b1 :: b2 :: ⟨g, t, #[a, b]⟩ :: bs) old new ((W.setCell ⟨g, 0, none⟩ a).setCell ⟨g, 1, none⟩ b) := Env.put2_at [b0, b1, b2] h a b
theorem Env.put4_at {g : Nat} {t : TypeId} {u0 u1 u2 u3 : Value} (l : List Bo) (h : Env w (l ++ ⟨g, t, #[u0, u1, u2, u3]⟩ :: bs) old new W) (a b c d : Value) : Env w (l ++ ⟨g, t, #[a, b, c, d]⟩ :: bs) old new ((((W.setCell ⟨g, 0, none⟩ a).setCell ⟨g, 1, none⟩ b).setCell ⟨g, 2, none⟩ c).setCell ⟨g, 3, none⟩ d) := ((h.perm List.perm_middle.symm).put4 a b c d).perm List.perm_middle
theorem Env.put4_1 {b0 : Bo} {g : Nat} {t : TypeId} {u0 u1 u2 u3 : Value} (h : Env w (b0 :: ⟨g, t, #[u0, u1, u2, u3]⟩ :: bs) old new W) (a b c d : Value) : Env w (b0 :: ⟨g, t, #[a, b, c, d]⟩ :: bs) old new ((((W.setCell ⟨g, 0, none⟩ a).setCell ⟨g, 1, none⟩ b).setCell ⟨g, 2, none⟩ c).setCell ⟨g, 3, none⟩ d) := Env.put4_at [b0] h a b c d
theorem Env.put4_2 {b0 b1 : Bo} {g : Nat} {t : TypeId} {u0 u1 u2 u3 : Value} (h : Env w (b0 :: b1 :: ⟨g, t, #[u0, u1, u2, u3]⟩ :: bs) old new W) (a b c d : Value) : Env w (b0 :: b1 :: ⟨g, t, #[a, b, c, d]⟩ :: bs) old new ((((W.setCell ⟨g, 0, none⟩ a).setCell ⟨g, 1, none⟩ b).setCell ⟨g, 2, none⟩ c).setCell ⟨g, 3, none⟩ d) := Env.put4_at [b0, b1] h a b c d
theorem Env.retZ {g : Nat} {t : TypeId} {i : IV} {z : Int} (h : Env w (⟨g, t, #[.bool i.neg, .slice i.A i.k i.c]⟩ :: bs) old new W) (hn : ∀ V, new V → IntN i z V) : RetZ z w (.returned (.agg #[.bool i.neg, .slice i.A i.k i.c])) W :=
  ⟨i, rfl, (h.rsn.imp hn).mono fun _ h => h.1, h.bel⟩
theorem Env.st2_1 {b0 : Bo} {g : Nat} {t : TypeId} {u0 u1 : Value} (h : Env w (b0 :: ⟨g, t, #[u0, u1]⟩ :: bs) old new W) (a b : Value) : ∃ W', ((W.setCell ⟨g, 0, none⟩ a).setCell ⟨g, 1, none⟩ b) = W' ∧ Hid (Env w (b0 :: ⟨g, t, #[a, b]⟩ :: bs) old new W') := ⟨_, rfl, Lib.hid (Env.put2_1 h a b)⟩
theorem Env.st2_2 {b0 b1 : Bo} {g : Nat} {t : TypeId} {u0 u1 : Value} (h : Env w (b0 :: b1 :: ⟨g, t, #[u0, u1]⟩ :: bs) old new W) (a b : Value) : ∃ W', ((W.setCell ⟨g, 0, none⟩ a).setCell ⟨g, 1, none⟩ b) = W' ∧ Hid (Env w (b0 :: b1 :: ⟨g, t, #[a, b]⟩ :: bs) old new W') := ⟨_, rfl, Lib.hid (Env.put2_2 h a b)⟩
theorem Env.st2_3 {b0 b1 b2 : Bo} {g : Nat} {t : TypeId} {u0 u1 : Value} (h : Env w (b0 :: b1 :: b2 :: ⟨g, t, #[u0, u1]⟩ :: bs) old new W) (a b : Value) : ∃ W', ((W.setCell ⟨g, 0, none⟩ a).setCell ⟨g, 1, none⟩ b) = W' ∧ Hid (Env w (b0 :: b1 :: b2 :: ⟨g, t, #[a, b]⟩ :: bs) old new W') := ⟨_, rfl, Lib.hid (Env.put2_3 h a b)⟩
theorem Env.al (h : Env w bs old new W) (t : TypeId) (cs : Array Value) : ∃ W' g, W.alloc (.cells cs t) = W' ∧ W.heap.size = g ∧ Hid (Env w (⟨g, t, cs⟩ :: bs) old new W') := ⟨_, _, rfl, rfl, Lib.hid (h.new_ rfl t cs)⟩
theorem Env.nn (h : Env w bs old new W) (t : TypeId) (cs : Array Value) : Env w (⟨W.heap.size, t, cs⟩ :: bs) old new (W.alloc (.cells cs t)) := h.new_ rfl t cs
theorem Env.nd_ (h : Env w bs old new W) (t : TypeId) (cs : Array Value) : Env w (⟨W.heap.size, t, cs⟩ :: bs) old new (W.drew.alloc (.cells cs t)) := h.drew.new_ rfl t cs
end
end Go.Proofs.YtbdgeinfijamcaaGreatDoor
