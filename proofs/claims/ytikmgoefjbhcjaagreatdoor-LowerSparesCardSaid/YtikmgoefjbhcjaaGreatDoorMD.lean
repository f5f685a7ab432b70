/-
 tripwireref13.Conv. The plain law of the reference's Affine: what a Conv says of zeros and of a unit. tripwireref14.Affine.
-/
import Derived.Test.YtikmgoefjbhcjaaGreatDoorMA
import Derived.Test.YtikmgoefjbhcjaaGreatDoorNO
import Derived.Test.YtikmgoefjbhcjaaGreatDoorNU
namespace Go.Proofs.YtikmgoefjbhcjaaGreatDoor
open Go.RowKit

section
variable {w W : World} {ls : List Ow} {old new : World → Prop}
theorem GL.alb (h : GL w ls old new W) (t : TypeId) (cs : Array Value) : ∃ W' g, W.alloc (.cells cs t) = W' ∧ W.heap.size = g ∧ Hid (GL w (bow g t cs.size cs :: ls) old new W') := ⟨_, _, rfl, rfl, zmZ (h.addb t cs)⟩
end
def plC (KH KW H W ST PD R Q k : Nat) : Nat → Option Int := plK KH KW (H : Int) (W : Int) (((k / Q % R * ST : Nat) : Int) - (PD : Int)) (((k % Q * ST : Nat) : Int) - (PD : Int))
def xQ (xs : List Rat) (a : Int) : Rat := (xs[a.toNat]?).getD 0
def zcg (KH KW H W ST PD R Q E : Nat) (ks bs xs : List Rat) (k j : Nat) : Rat := zd3 R Q bs k + sumK (plC KH KW H W ST PD R Q k) (kq ks E (k / Q / R)) (xQ xs) j
structure CvI (F : Nat → Rat) (k : Nat) (os : List (RV × Rat)) : Prop where
 q : os.map Prod.snd = (List.range k).map F
theorem CvI.len {F : Nat → Rat} {k : Nat} {os : List (RV × Rat)} (h : CvI F k os) : os.length = k := by simpa using congrArg List.length h.q
theorem CvI.next {F : Nat → Rat} {k : Nat} {os : List (RV × Rat)} (h : CvI F k os) {z : RV × Rat} (hz : z.2 = F k) : CvI F (k + 1) (os ++ [z]) := ⟨by rw [List.map_append, h.q, List.range_succ, List.map_append]; simp [hz]⟩
theorem zdK (pl : Nat → Option Int) (K : Nat → Rat) {x y : Int → Rat} : ∀ n, (∀ k a, k < n → pl k = some a → x a = y a) → sumK pl K x n = sumK pl K y n
 | 0, _ => rfl
 | n + 1, h => by
  rw [sumK, sumK, zdK pl K n fun k a hk e => h k a (by omega) e]
  congr 1
  cases e : pl n with
  | none => rfl
  | some a => show K n * x a = K n * y a; rw [h n a (by omega) e]
def zaW (n : Nat) : List (RV × Rat) := List.replicate n (zfi, 0)
section
variable {KH KW H W ST PD R Q E : Nat} {ks bs : List Rat}
theorem zjq (k : Nat) (K : Nat → Rat) (j : Nat) : (zcP (plC KH KW H W ST PD R Q k) K j).Pairwise fun x y => x.1 < y.1 := zcS (fun _ _ _ _ h e e' => zjQ h e e') _ _
theorem zed {qs : List Rat} {n : Nat} (h1 : 1 ≤ n) (h : ∀ q ∈ qs, Sz q n) (i : Nat) : Sz ((qs[i]?).getD 0) n := by
 cases e : qs[i]? with
 | none => exact zfA.up h1
 | some q => exact h q (List.mem_of_getElem? e)
end

theorem zbL (w : World) (L : Nat) (hL : L ≤ 100000) : (Instr.makeSlice 33 (.int .i64 (L : Int)) (.int .i64 (L : Int))).run Tryz.prog w = .ok (.slice (some ⟨w.heap.size, 0, none⟩) L L) (w.alloc (.cells (madeCells ratZ.cells (L * 4)) 41)) := by
 obtain ⟨i0, hi0, hz0, hz1, hz2⟩ := info_parts zbO
 have h := run_makeSlice (P := Tryz.prog) w 33 41 i0 ratZ zb0 hi0 hz0 .i64 .i64 (L : Int) (L : Int) (by omega) (by omega) (by rw [hz1, Int.toNat_natCast]; omega) (by rw [hz2]; omega) (by omega)
 rw [Int.toNat_natCast, hz1] at h
 exact h
section
variable {w W : World} {ls : List Ow} {old new : World → Prop}
theorem GL.al4 (h : GL w ls old new W) (L : Nat) (hL : L ≤ 100000) : ∃ W' g, W.alloc (.cells (madeCells ratZ.cells (L * 4)) 41) = W' ∧ W.heap.size = g ∧ Hid (GL w (⟨41, 4, .slice (some ⟨g, 0, none⟩) L L, List.map rtcells (zaW L)⟩ :: ls) old new W') := by
 refine ⟨_, _, rfl, rfl, zmZ ?_⟩
 have h1 := h.addz (e := 41) (sz := 4) (z := ratZ.cells) rfl (by decide) L (by simp [maxLen]; omega)
 unfold zaW
 rw [List.map_replicate]
 exact h1
end
theorem za5 (A : Option Addr) {n m : Nat} (h : n ≠ m) (V : World) (v : Value) : (V.setCell (adr A n) v).cell? (adr A m) = V.cell? (adr A m) :=
 World.cell?_setCell_other _ _ _ _ (fun e => by injection e; omega)
theorem ziw {α : Type} {P : α → Prop} {l : List α} {i : Nat} {x : α} (h : ∀ y ∈ l, P y) (hx : P x) : ∀ y ∈ l.set i x, P y := fun y hy => by
 rcases List.mem_or_eq_of_mem_set hy with h1 | rfl
 ·exact h y h1
 ·exact hx
end Go.Proofs.YtikmgoefjbhcjaaGreatDoor
