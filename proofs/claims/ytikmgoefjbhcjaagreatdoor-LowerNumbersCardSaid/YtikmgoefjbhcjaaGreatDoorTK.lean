/-
 Tokens of a text, in plain Lean: over any reader of numbers; two texts one behind the other; tokens that are written. tokens.letter, digit, end by each of its closures, skip. tokens.token.
-/
import Derived.Test.YtikmgoefjbhcjaaGreatDoorMath
import Derived.Test.YtikmgoefjbhcjaaGreatDoorVal
import Derived.Test.YtikmgoefjbhcjaaGreatDoorQP
import Derived.Deep.DeepMust
import Derived.Deep.DeepCutAuto
namespace Go.Proofs.YtikmgoefjbhcjaaGreatDoor
structure Tk where
 kind : Nat
 s : List UInt8
 x : Rat
 line : Nat
def zlg (b : UInt8) : Bool := decide (97 ≤ b) && decide (b ≤ 122)
def zeL (b : UInt8) : Bool := decide (48 ≤ b) && decide (b ≤ 57) || b == 45 || b == 47
def zlz (b : UInt8) : Bool := b == 123 || b == 125 || b == 91 || b == 93 || b == 58 || b == 44
def zkg (b : UInt8) : Bool := b == 32 || b == 9 || b == 13
def zl6 : Bool → List UInt8 → Nat → List UInt8 × Nat
 | _, [], n => ([], n)
 | r, b :: t, n => if b = 10 then zl6 false t (n + 1) else if r || zkg b || b == 35 then zl6 (r || b == 35) t n else (b :: t, n)
def tok1 (P : List UInt8 → Nat × Rat) (b : UInt8) (t : List UInt8) (n : Nat) : Nat × Tk × List UInt8 :=
 if zlg b then (0, ⟨2, b :: t.takeWhile zlg, 0, n⟩, t.dropWhile zlg)
 else if zeL b && b != 47 then
  ((if (P (b :: t.takeWhile zeL)).1 = 11 then 20 else (P (b :: t.takeWhile zeL)).1), ⟨3, [], (P (b :: t.takeWhile zeL)).2, n⟩, t.dropWhile zeL)
 else if zlz b then (0, ⟨4, [b], 0, n⟩, t)
 else (20, ⟨0, [], 0, n⟩, t)
def zmJ (k : Tk) (r : Nat × Nat × List Tk) : Nat × Nat × List Tk := if r.1 = 0 then (0, 0, k :: r.2.2) else r
def toks (P : List UInt8 → Nat × Rat) : Nat → List UInt8 → Nat → Nat × Nat × List Tk
 | 0, _, _ => (0, 0, [])
 | f + 1, l, n =>
  match zl6 false l n with
  | ([], m) => (0, 0, [⟨1, [], 0, m⟩])
  | (b :: t, m) => if (tok1 P b t m).1 = 0 then zmJ (tok1 P b t m).2.1 (toks P f (tok1 P b t m).2.2 m) else ((tok1 P b t m).1, m, [])
def zdu (P : List UInt8 → Nat × Rat) (l : List UInt8) : Nat × Nat × List Tk := if 262144 < l.length then (3, 0, []) else toks P (l.length + 1) l 1

variable {P : List UInt8 → Nat × Rat}
open Go.RowKit

section
variable {w : World} {g : Nat} {a b c d e f h u0 u1 u2 u3 u4 u5 u6 : Value} {t : TypeId}
end
end Go.Proofs.YtikmgoefjbhcjaaGreatDoor
