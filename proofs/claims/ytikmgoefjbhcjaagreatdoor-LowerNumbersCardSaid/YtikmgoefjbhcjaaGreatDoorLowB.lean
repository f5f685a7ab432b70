/-
 tripwirelow: ShortInt, SameWords and SameInt of what is the same, CopyWords. tripwirelow: SameWords of what is not the same.
-/
import Derived.Test.YtikmgoefjbhcjaaGreatDoorLimC
import Derived.Test.YtikmgoefjbhcjaaGreatDoorOwn
namespace Go.Proofs.YtikmgoefjbhcjaaGreatDoor
set_option maxHeartbeats 1000000
open Go.RowKit


set_option maxRecDepth 100000 in
theorem zeG (w : World) (A B : Option Addr) (c d : Nat) (l : List Nat) (hl : l.length ≤ 17592186044416) (ha : Rd w .u64 A l) (hb : Rd w .u64 B l) :
 Calls Tryz.prog 102 #[.slice A l.length c, .slice B l.length d] w fun e w' => e = .returned (.bool true) ∧ ∃ n, w' = w.drewN n := by
 have Ha := zmZ ha; have Hb := zmZ hb
 have hsa := ha.sl; have hsb := hb.sl
 have h1 := zao
 clear ha hb
 go_enter Tryz.func102, Tryz.ntmps102
 go_wp2_with fail
 go_loopw [5] (fun i wr => ∃ k : Nat, k ≤ l.length ∧ i = .int .i64 k ∧ ∃ q, wr = w.drewN q) (fun i _ => l.length - (intOf i).toNat)
 case atStart => exact ⟨0, Nat.zero_le _, rfl, 0, rfl⟩
 case round =>
  obtain ⟨k, hk, rfl, q, rfl⟩ := hrel
  by_cases hlt : k < l.length
  ·have hca := Ha.out.cell k hlt
   have hcb := Hb.out.cell k hlt
   generalize nth l k = x at *
   go_wp2_with fail
   go_quiet (fail)
   go_wp2_with fail
   go_roundw
   case rel => exact ⟨k + 1, by omega, by go_num, _, rfl⟩
   case measure => simp [intOf]; omega
  ·obtain rfl : k = l.length := by omega
   go_wp2_with fail
   go_ret
   exact ⟨rfl, _, rfl⟩

set_option maxRecDepth 100000 in
theorem zgq (w : World) (neg : Bool) (A B : Option Addr) (c d : Nat) (l : List Nat) (hl : l.length ≤ 17592186044416) (ha : Rd w .u64 A l) (hb : Rd w .u64 B l) :
 Calls Tryz.prog 62 #[.agg #[.bool neg, .slice A l.length c], .agg #[.bool neg, .slice B l.length d]] w fun e w' => e = .returned (.bool true) ∧ Below w.heap.size w w' := by
 have HS := zmZ (zeG ((w.alloc (.cells #[.bool neg, .slice A l.length c] 39)).alloc (.cells #[.bool neg, .slice B l.length d] 39)) A B c d l hl ((ha.alloc _).alloc _) ((hb.alloc _).alloc _))
 have HB := zmZ (show Below w.heap.size w ((w.alloc (.cells #[.bool neg, .slice A l.length c] 39)).alloc (.cells #[.bool neg, .slice B l.length d] 39)) from (Below.of_alloc _ _).alloc (by simp) _)
 clear ha hb
 generalize l.length = n at *
 go_enter Tryz.func62, Tryz.ntmps62
 go_wp2_with fail
 refine HS.out.mono ?_
 rintro e w1 ⟨rfl, q, rfl⟩
 go_wp2_with fail
 go_ret
 exact ⟨rfl, Below.drewN HB.out q⟩


theorem zc5 : ∀ (l m : List Nat), l.length = m.length → (∀ k < l.length, nth l k = nth m k) → l = m
 | [], [], _, _ => rfl
 | [], _ :: _, h, _ => by simp at h
 | _ :: _, [], h, _ => by simp at h
 | a :: l, b :: m, h, hn => by
  have h0 : a = b := hn 0 (by simp)
  have h1 := zc5 l m (by simpa using h) (fun k hk => hn (k + 1) (by simpa using hk))
  rw [h0, h1]

end Go.Proofs.YtikmgoefjbhcjaaGreatDoor
