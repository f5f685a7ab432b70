/-
 Programs in memory: variables, rows. program.Right$1, program.all over variables.
-/
import Derived.Test.YtikmgoefjbhcjaaGreatDoorV18
namespace Go.Proofs.YtikmgoefjbhcjaaGreatDoor
open Go.RowKit

section
variable {P : Program}
@[go_sem] theorem run_indexAt_el9 (w : World) (t : TypeId) (A : Option Addr) (len cap : Nat) (k : IntKind) (i : Int) (hs : Sl A len)
 (h : P.underlying t = some (.slice (P.elem t))) (h1 : (sizeOf (P.elem t)).run P w = .ok 9 w) :
 (Instr.indexAt t (.slice A len cap) (.int k i)).run P w =
  if 0 ≤ i ∧ i < len then .ok (.pointer (some (adr A (i.toNat * 9)))) w else (boundsPanic k i len .index).run P w := by
 rcases A with _ | a
 ·have h0 : len = 0 := by
   rcases Nat.eq_zero_or_pos len with h | h
   ·exact h
   ·obtain ⟨_, _, h⟩ := hs h; cases h
  subst h0
  rw [if_neg (by omega)]
  simp [Instr.indexAt, run_underlying h, asIntOf]
 ·rw [run_indexAt_slice w t a len cap k i h]
  split
  ·rename_i hi
   obtain ⟨b, o, e⟩ := hs (by omega)
   cases e
   rw [h1]
   simp only [Result.andThen_ok, zac, za4]
  ·rfl
@[go_sem] theorem run_indexAt_el6 (w : World) (t : TypeId) (A : Option Addr) (len cap : Nat) (k : IntKind) (i : Int) (hs : Sl A len)
 (h : P.underlying t = some (.slice (P.elem t))) (h1 : (sizeOf (P.elem t)).run P w = .ok 6 w) :
 (Instr.indexAt t (.slice A len cap) (.int k i)).run P w =
  if 0 ≤ i ∧ i < len then .ok (.pointer (some (adr A (i.toNat * 6)))) w else (boundsPanic k i len .index).run P w := by
 rcases A with _ | a
 ·have h0 : len = 0 := by
   rcases Nat.eq_zero_or_pos len with h | h
   ·exact h
   ·obtain ⟨_, _, h⟩ := hs h; cases h
  subst h0
  rw [if_neg (by omega)]
  simp [Instr.indexAt, run_underlying h, asIntOf]
 ·rw [run_indexAt_slice w t a len cap k i h]
  split
  ·rename_i hi
   obtain ⟨b, o, e⟩ := hs (by omega)
   cases e
   rw [h1]
   simp only [Result.andThen_ok, zac, za4]
  ·rfl
end
structure VaV where
 lo : RV × Rat
 hi : RV × Rat
 int : Bool
structure RoV where
 A : Option Addr
 c : Nat
 ts : List TeV
 kind : Int
 b : RV × Rat
@[reducible] def VC (A : Option Addr) (i : Nat) (v : VaV) (W : World) : Prop :=
 W.cell? (adr A (i * 9)) = some (.bool v.lo.1.num.neg) ∧ W.cell? (adr A (i * 9 + 1)) = some (.slice v.lo.1.num.A v.lo.1.num.k v.lo.1.num.c) ∧ W.cell? (adr A (i * 9 + 2)) = some (.bool v.lo.1.den.neg) ∧ W.cell? (adr A (i * 9 + 3)) = some (.slice v.lo.1.den.A v.lo.1.den.k v.lo.1.den.c) ∧ W.cell? (adr A (i * 9 + 4)) = some (.bool v.hi.1.num.neg) ∧ W.cell? (adr A (i * 9 + 5)) = some (.slice v.hi.1.num.A v.hi.1.num.k v.hi.1.num.c) ∧ W.cell? (adr A (i * 9 + 6)) = some (.bool v.hi.1.den.neg) ∧ W.cell? (adr A (i * 9 + 7)) = some (.slice v.hi.1.den.A v.hi.1.den.k v.hi.1.den.c) ∧ W.cell? (adr A (i * 9 + 8)) = some (.bool v.int)
@[reducible] def WC (A : Option Addr) (i : Nat) (v : RoV) (W : World) : Prop :=
 W.cell? (adr A (i * 6)) = some (.slice v.A v.ts.length v.c) ∧ W.cell? (adr A (i * 6 + 1)) = some (.int .u8 v.kind) ∧ W.cell? (adr A (i * 6 + 2)) = some (.bool v.b.1.num.neg) ∧ W.cell? (adr A (i * 6 + 3)) = some (.slice v.b.1.num.A v.b.1.num.k v.b.1.num.c) ∧ W.cell? (adr A (i * 6 + 4)) = some (.bool v.b.1.den.neg) ∧ W.cell? (adr A (i * 6 + 5)) = some (.slice v.b.1.den.A v.b.1.den.k v.b.1.den.c)
end Go.Proofs.YtikmgoefjbhcjaaGreatDoor
