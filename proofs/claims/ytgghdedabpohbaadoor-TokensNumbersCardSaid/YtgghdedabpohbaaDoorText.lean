/-
  digits.Text.
-/
import Derived.Test.YtgghdedabpohbaaDoorFmt
import Derived.Test.YtgghdedabpohbaaDoorLib
import Derived.Deep.LoopGhost
namespace Go.Proofs.YtgghdedabpohbaaDoor
open Go.RowKit

theorem digs_length_lt {V n : Nat} (h : V < B64 ^ n) : (digs B64 V).length ≤ n := by
  rcases Nat.lt_or_ge n (digs B64 V).length with h1 | h1
  · exfalso
    have hne : digs B64 V ≠ [] := by intro e; rw [e] at h1; simp at h1
    have h2 := pow_le_val (b := B64) (by decide) (digs_tidy (by decide) V) hne
    rw [val_digs (by decide)] at h2
    have h3 : B64 ^ n ≤ B64 ^ ((digs B64 V).length - 1) := Nat.pow_le_pow_right B64_pos (by omega)
    omega
  · exact h1
theorem size_str (l : List UInt8) : (ByteArray.mk l.toArray).size = l.length := by simp [ByteArray.size]
end Go.Proofs.YtgghdedabpohbaaDoor
