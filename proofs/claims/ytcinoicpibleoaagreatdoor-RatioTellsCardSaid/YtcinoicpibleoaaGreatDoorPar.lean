/-
  digits.Parse: its closure.
-/
import Derived.Test.YtcinoicpibleoaaGreatDoorNum
import Derived.Deep.DeepMust
namespace Go.Proofs.YtcinoicpibleoaaGreatDoor
open Go.RowKit

theorem rd_one {W : World} {B x : Nat} (h : W.cell? ⟨B, 0, none⟩ = some (.int .u64 (x : Int))) : Rd W .u64 (some ⟨B, 0, none⟩) [x] :=
  ⟨Sl.some_ _ _ _, fun i hi => by
    have : i = 0 := by simpa using hi
    subst this; exact h⟩
theorem lt_one {x : Nat} (h : x < B64) : ∀ y ∈ [x], y < B64 := by intro y hy; simp at hy; omega
theorem val_one (b x : Nat) : val b [x] = x := by simp [val]

/-- only blocks p, q, r of the old ones may have turned -/
structure But3 (p q r : Nat) (w w' : World) : Prop where
  os : w'.os = w.os
  tape : w'.tape = w.tape
  output : w'.output = w.output
  size : w.heap.size ≤ w'.heap.size
  block : ∀ k, k < w.heap.size → k ≠ p → k ≠ q → k ≠ r → w'.heap[k]? = w.heap[k]?
theorem But3.of_below {p q r : Nat} {w w' : World} (h : Below w.heap.size w w') : But3 p q r w w' := ⟨h.os, h.tape, h.output, h.size, fun k hk _ _ _ => h.block k hk⟩
theorem But3.set_ {p q r : Nat} {w w' : World} (h : But3 p q r w w') {a : Addr} (ha : a.block = p ∨ a.block = q ∨ a.block = r) (v : Value) : But3 p q r w (w'.setCell a v) :=
  ⟨h.os, h.tape, h.output, by simpa [World.setCell] using h.size, fun k hk h1 h2 h3 => (Below.heap_setCell w' a v k (by rintro rfl; rcases ha with ha | ha | ha <;> omega)).trans (h.block k hk h1 h2 h3)⟩
/-- what the closure leaves: the size is v, nothing is kept back -/
structure Joined (w w' : World) (ps pc pp v : Nat) : Prop where
  size : ∃ A' c', w'.cell? ⟨ps, 0, none⟩ = some (.slice A' (digs B64 v).length c') ∧ (digs B64 v).length ≤ c' ∧ Rd w' .u64 A' (digs B64 v) ∧ Fr w.heap.size A' (digs B64 v)
  scale : w'.cell? ⟨pc, 0, none⟩ = some (.int .u64 1)
  part : w'.cell? ⟨pp, 0, none⟩ = some (.int .u64 0)
  f1 : w'.frozen? ⟨ps, 0, none⟩ = false
  f2 : w'.frozen? ⟨pc, 0, none⟩ = false
  f3 : w'.frozen? ⟨pp, 0, none⟩ = false
  but : But3 ps pc pp w w'
theorem frozen_set (w : World) (a p : Addr) (v : Value) : (w.setCell a v).frozen? p = w.frozen? p := by simp

theorem joined_mk {w w2 : World} {ps pc pp v : Nat} {A2 : Option Addr} {c2 : Nat} {x y : Value} {z : Value} (hl1 : ps < w.heap.size) (hl2 : pc < w.heap.size) (hl3 : pp < w.heap.size) (hd1 : ps ≠ pc) (hd2 : ps ≠ pp) (hd3 : pc ≠ pp)
    (hc : (digs B64 v).length ≤ c2) (hr : Rd w2 .u64 A2 (digs B64 v)) (hb : Below w.heap.size w w2) (hf : Fr w.heap.size A2 (digs B64 v))
    (hs : w2.cell? ⟨ps, 0, none⟩ = some z) (hk : w2.cell? ⟨pc, 0, none⟩ = some x) (hp : w2.cell? ⟨pp, 0, none⟩ = some y)
    (f1 : w2.frozen? ⟨ps, 0, none⟩ = false) (f2 : w2.frozen? ⟨pc, 0, none⟩ = false) (f3 : w2.frozen? ⟨pp, 0, none⟩ = false) :
    Joined w (((w2.setCell ⟨ps, 0, none⟩ (.slice A2 (digs B64 v).length c2)).setCell ⟨pp, 0, none⟩ (.int .u64 0)).setCell ⟨pc, 0, none⟩ (.int .u64 1)) ps pc pp v := by
  have n1 : (⟨ps, 0, none⟩ : Addr) ≠ ⟨pc, 0, none⟩ := fun e => hd1 (by injection e)
  have n2 : (⟨ps, 0, none⟩ : Addr) ≠ ⟨pp, 0, none⟩ := fun e => hd2 (by injection e)
  have n3 : (⟨pc, 0, none⟩ : Addr) ≠ ⟨pp, 0, none⟩ := fun e => hd3 (by injection e)
  refine ⟨⟨A2, c2, ?_, hc, ?_, hf⟩, ?_, ?_, by simp [f1], by simp [f2], by simp [f3], (((But3.of_below hb).set_ (a := ⟨ps, 0, none⟩) (.inl rfl) _).set_ (a := ⟨pp, 0, none⟩) (.inr (.inr rfl)) _).set_ (a := ⟨pc, 0, none⟩) (.inr (.inl rfl)) _⟩
  · rw [World.cell?_setCell_other _ _ _ _ n1.symm, World.cell?_setCell_other _ _ _ _ n2.symm, World.cell?_setCell_same _ _ _ hs]
  · refine ⟨hr.sl, fun i hi => ?_⟩
    have hh := hf i hi
    have m : ∀ b : Nat, b < w.heap.size → (adr A2 i) ≠ ⟨b, 0, none⟩ := fun b hb e => by rw [e] at hh; simp at hh; omega
    rw [World.cell?_setCell_other _ _ _ _ (m _ hl2).symm, World.cell?_setCell_other _ _ _ _ (m _ hl3).symm, World.cell?_setCell_other _ _ _ _ (m _ hl1).symm]
    exact hr.cell i hi
  · have h3 : ((w2.setCell ⟨ps, 0, none⟩ (.slice A2 (digs B64 v).length c2)).setCell ⟨pp, 0, none⟩ (.int .u64 0)).cell? ⟨pc, 0, none⟩ = some x := by
      rw [World.cell?_setCell_other _ _ _ _ n3.symm, World.cell?_setCell_other _ _ _ _ n1]; exact hk
    exact World.cell?_setCell_same _ _ _ h3
  · have h3 : (w2.setCell ⟨ps, 0, none⟩ (.slice A2 (digs B64 v).length c2)).cell? ⟨pp, 0, none⟩ = some y := by
      rw [World.cell?_setCell_other _ _ _ _ n2]; exact hp
    rw [World.cell?_setCell_other _ _ _ _ n3]
    exact World.cell?_setCell_same _ _ _ h3

set_option maxRecDepth 100000 in
set_option maxHeartbeats 32000000 in
theorem join_any (w : World) (ps pc pp : Nat) (A : Option Addr) (c v sc pt n : Nat) (hsz : w.cell? ⟨ps, 0, none⟩ = some (.slice A (digs B64 v).length c)) (hrd : Rd w .u64 A (digs B64 v))
    (hcs : w.cell? ⟨pc, 0, none⟩ = some (.int .u64 sc)) (hcp : w.cell? ⟨pp, 0, none⟩ = some (.int .u64 pt)) (hf1 : w.frozen? ⟨ps, 0, none⟩ = false) (hf2 : w.frozen? ⟨pc, 0, none⟩ = false) (hf3 : w.frozen? ⟨pp, 0, none⟩ = false)
    (h64 : sc < B64) (h64p : pt < B64) (hn : (digs B64 v).length ≤ n) (hn2 : n ≤ 1048576) (hd1 : ps ≠ pc) (hd2 : ps ≠ pp) (hd3 : pc ≠ pp) :
    Calls Tryz.prog 139 #[.pointer (some ⟨ps, 0, none⟩), .pointer (some ⟨pc, 0, none⟩), .pointer (some ⟨pp, 0, none⟩)] w fun e w' => e = .returned (.tuple #[]) ∧ Joined w w' ps pc pp (v * sc + pt) := by
  have hl1 : ps < w.heap.size := World.block_lt_of_cell? w _ hsz
  have hl2 : pc < w.heap.size := World.block_lt_of_cell? w _ hcs
  have hl3 : pp < w.heap.size := World.block_lt_of_cell? w _ hcp
  have hdl : (digs B64 (v * sc)).length ≤ n + 1 := by
    apply digs_length_lt
    have h1 : v < B64 ^ n := by
      have := val_lt (digs_lt (b := B64) (by decide) v)
      rw [val_digs (by decide)] at this
      exact Nat.lt_of_lt_of_le this (Nat.pow_le_pow_right B64_pos hn)
    rw [Nat.pow_succ]
    exact Nat.mul_lt_mul'' h1 h64
  have HMul := Lib.hid (fun (W : World) (B : Nat) (h1 : Below w.heap.size w W) (h2 : W.cell? ⟨B, 0, none⟩ = some (.int .u64 (sc : Int))) => by
    have h := mul_any W A (some ⟨B, 0, none⟩) c 1 (digs B64 v) [sc] (by omega) (by simp) (hrd.below h1 (Nat.le_refl _)) (rd_one h2) (digs_lt (by decide) _) (lt_one h64)
    rw [val_digs (by decide), val_one] at h
    exact h.mono (R' := fun e w1 => ∃ A1 c1, e = .returned (.slice A1 (digs B64 (v * sc)).length c1) ∧ Hid (Rd w1 .u64 A1 (digs B64 (v * sc)) ∧ Below w.heap.size w w1 ∧ Below W.heap.size W w1)) (fun e w1 ⟨A1, c1, he, _, hr, hb, _⟩ => ⟨A1, c1, he, hr, h1.trans (hb.mono h1.size), hb⟩))
  have HAdd := Lib.hid (fun (W : World) (A1 : Option Addr) (c1 B : Nat) (h0 : Below w.heap.size w W) (h1 : Rd W .u64 A1 (digs B64 (v * sc))) (h2 : W.cell? ⟨B, 0, none⟩ = some (.int .u64 (pt : Int))) => by
    have h := add_any W A1 (some ⟨B, 0, none⟩) c1 1 (digs B64 (v * sc)) [pt] (by omega) (by simp) h1 (rd_one h2) (digs_lt (by decide) _) (lt_one h64p)
    rw [val_digs (by decide), val_one] at h
    exact h.mono (R' := fun e w2 => ∃ A2 c2, e = .returned (.slice A2 (digs B64 (v * sc + pt)).length c2) ∧ Hid ((digs B64 (v * sc + pt)).length ≤ c2 ∧ Rd w2 .u64 A2 (digs B64 (v * sc + pt)) ∧ Below w.heap.size w w2 ∧ Fr w.heap.size A2 (digs B64 (v * sc + pt)))) (fun e w2 ⟨A2, c2, he, hc, hr, hb, hf⟩ => ⟨A2, c2, he, hc, hr, h0.trans (hb.mono h0.size), fun i hi => Nat.le_trans h0.size (hf i hi)⟩))
  clear hrd hdl
  generalize (digs B64 v).length = N at *
  go_enter Tryz.func139, Tryz.ntmps139
  go_wp2_with fail
  go_region_with
    (first
      | (go_at_call 122; refine (HMul.out _ _ (by repeat (first | exact Below.refl _ _ | apply Below.drew | refine Below.alloc ?_ (by simp) _)) (by simp [World.cell?_alloc_new])).mono ?_; rintro e w1 ⟨A1, c1, rfl, H1⟩; have hs1 := (H1.out.2.1.cell (p := ⟨ps, 0, none⟩) hl1).trans hsz; have hk1 := (H1.out.2.1.cell (p := ⟨pc, 0, none⟩) hl2).trans hcs; have hp1 := (H1.out.2.1.cell (p := ⟨pp, 0, none⟩) hl3).trans hcp)
      | (go_at_call 112; refine (HAdd.out _ _ _ _ (by repeat (first | exact H1.out.2.1 | apply Below.drew | refine Below.alloc ?_ (by have := H1.out.2.1.size; simp <;> omega) _)) (by repeat (first | exact H1.out.1 | apply Rd.alloc | apply Rd.drew)) (by first | (simp [World.cell?_alloc_new]; done) | (rw [H1.out.2.2.cell (by simp <;> omega)]; simp; done))).mono ?_; rintro e w2 ⟨A2, c2, rfl, H2⟩; have hs2 := (H2.out.2.2.1.cell (p := ⟨ps, 0, none⟩) hl1).trans hsz; have hk2 := (H2.out.2.2.1.cell (p := ⟨pc, 0, none⟩) hl2).trans hcs; have hp2 := (H2.out.2.2.1.cell (p := ⟨pp, 0, none⟩) hl3).trans hcp; have hff2 := (H2.out.2.2.1.frozen (p := ⟨ps, 0, none⟩) hl1).trans hf1; have hff3 := (H2.out.2.2.1.frozen (p := ⟨pc, 0, none⟩) hl2).trans hf2; have hff4 := (H2.out.2.2.1.frozen (p := ⟨pp, 0, none⟩) hl3).trans hf3))
  all_goals
    have HJ := Lib.hid (joined_mk hl1 hl2 hl3 hd1 hd2 hd3 H2.out.1 H2.out.2.1 H2.out.2.2.1 H2.out.2.2.2 hs2 hk2 hp2 hff2 hff3 hff4)
    have n2 : ¬ pp = ps := fun e => hd2 e.symm
    have n3 : ¬ pc = ps := fun e => hd1 e.symm
    have n4 : ¬ pp = pc := fun e => hd3 e.symm
    go_wp2_with fail
    go_end0
    exact ⟨rfl, HJ.out⟩
end Go.Proofs.YtcinoicpibleoaaGreatDoor
