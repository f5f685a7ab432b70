/-
  tripwirelow: ShortInt, SameWords and SameInt of what is the same, CopyWords.
-/
import Derived.Test.YtbdgeinfijamcaaGreatDoorLimC
import Derived.Test.YtbdgeinfijamcaaGreatDoorOwn
namespace Go.Proofs.YtbdgeinfijamcaaGreatDoor
open Go.RowKit


set_option maxRecDepth 100000 in
set_option maxHeartbeats 1000000 in
theorem sameWords_eq (w : World) (A B : Option Addr) (c d : Nat) (l : List Nat) (hl : l.length ≤ 17592186044416) (ha : Rd w .u64 A l) (hb : Rd w .u64 B l) :
    Calls Tryz.prog 97 #[.slice A l.length c, .slice B l.length d] w fun e w' => e = .returned (.bool true) ∧ ∃ n, w' = w.drewN n := by
  have Ha := Lib.hid ha; have Hb := Lib.hid hb
  have hsa := ha.sl; have hsb := hb.sl
  have h1 := size_u64
  clear ha hb
  go_enter Tryz.func97, Tryz.ntmps97
  go_wp2_with fail
  go_loopw [5] (fun i wr => ∃ k : Nat, k ≤ l.length ∧ i = .int .i64 k ∧ ∃ q, wr = w.drewN q) (fun i _ => l.length - (intOf i).toNat)
  case atStart => exact ⟨0, Nat.zero_le _, rfl, 0, rfl⟩
  case round =>
    obtain ⟨k, hk, rfl, q, rfl⟩ := hrel
    by_cases hlt : k < l.length
    · have hca := Ha.out.cell k hlt
      have hcb := Hb.out.cell k hlt
      generalize nth l k = x at *
      go_wp2_with fail
      go_quiet (fail)
      go_wp2_with fail
      go_roundw
      case rel => exact ⟨k + 1, by omega, by go_num, _, rfl⟩
      case measure => simp [intOf]; omega
    · obtain rfl : k = l.length := by omega
      go_wp2_with fail
      go_ret
      exact ⟨rfl, _, rfl⟩

end Go.Proofs.YtbdgeinfijamcaaGreatDoor
