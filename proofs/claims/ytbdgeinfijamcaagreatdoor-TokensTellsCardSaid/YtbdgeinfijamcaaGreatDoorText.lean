/-
  Plain facts on decimal texts. strconv.FormatUint at base 10. strings.Builder's WriteString and WriteByte at this program (the kit's contracts, laid by hand: the one command lays neither where the bodies name no type string). digits.Text.
-/
import Derived.Test.YtbdgeinfijamcaaGreatDoorMath
import Derived.Lib.ItoaNum
import Derived.Test.YtbdgeinfijamcaaGreatDoorLimF
import Derived.Lib.ItoaMem
import Derived.Lib.LaidTab
import Derived.Shelf.Strings.Builder1
import Derived.Test.YtbdgeinfijamcaaGreatDoorProg
import Derived.Deep.LoopGhost
namespace Go.Proofs.YtbdgeinfijamcaaGreatDoor

theorem dec_big {u : Nat} (h : ¬ u < 10) : Lib.decDigits u = Lib.decDigits (u / 10) ++ [UInt8.ofNat (48 + u % 10)] := by
  rw [Lib.decDigits, dif_neg h]
end Go.Proofs.YtbdgeinfijamcaaGreatDoor
namespace Go.Proofs.YtbdgeinfijamcaaGreatDoor
open Go.RowKit Go.Sort

end Go.Proofs.YtbdgeinfijamcaaGreatDoor
namespace Go.Proofs
open Go.Shelf
end Go.Proofs
namespace Go.Proofs.YtbdgeinfijamcaaGreatDoor
open Go.RowKit

theorem digs_length_lt {V n : Nat} (h : V < B64 ^ n) : (digs B64 V).length ≤ n := by
  rcases Nat.lt_or_ge n (digs B64 V).length with h1 | h1
  · exfalso
    have hne : digs B64 V ≠ [] := by intro e; rw [e] at h1; simp at h1
    have h2 := pow_le_val (b := B64) (by decide) (digs_tidy (by decide) V) hne
    rw [val_digs (by decide)] at h2
    have h3 : B64 ^ n ≤ B64 ^ ((digs B64 V).length - 1) := Nat.pow_le_pow_right B64_pos (by omega)
    omega
  · exact h1
theorem size_str (l : List UInt8) : (ByteArray.mk l.toArray).size = l.length := by simp [ByteArray.size]
end Go.Proofs.YtbdgeinfijamcaaGreatDoor
