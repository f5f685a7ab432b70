/-
  tripwirelow: ShortInt, SameWords and SameInt of what is the same, CopyWords. tripwirelow: SameWords of what is not the same.
-/
import Derived.Test.YtcinoicpibleoaaGreatDoorLimC
import Derived.Test.YtcinoicpibleoaaGreatDoorOwn
namespace Go.Proofs.YtcinoicpibleoaaGreatDoor
open Go.RowKit


set_option maxRecDepth 100000 in
set_option maxHeartbeats 1000000 in
theorem sameWords_eq (w : World) (A B : Option Addr) (c d : Nat) (l : List Nat) (hl : l.length ≤ 17592186044416) (ha : Rd w .u64 A l) (hb : Rd w .u64 B l) :
    Calls Tryz.prog 89 #[.slice A l.length c, .slice B l.length d] w fun e w' => e = .returned (.bool true) ∧ ∃ n, w' = w.drewN n := by
  have Ha := Lib.hid ha; have Hb := Lib.hid hb
  have hsa := ha.sl; have hsb := hb.sl
  have h1 := size_u64
  clear ha hb
  go_enter Tryz.func89, Tryz.ntmps89
  go_wp2_with fail
  go_loopw [5] (fun i wr => ∃ k : Nat, k ≤ l.length ∧ i = .int .i64 k ∧ ∃ q, wr = w.drewN q) (fun i _ => l.length - (intOf i).toNat)
  case atStart => exact ⟨0, Nat.zero_le _, rfl, 0, rfl⟩
  case round =>
    obtain ⟨k, hk, rfl, q, rfl⟩ := hrel
    by_cases hlt : k < l.length
    · have hca := Ha.out.cell k hlt
      have hcb := Hb.out.cell k hlt
      generalize nth l k = x at *
      go_wp2_with fail
      go_quiet (fail)
      go_wp2_with fail
      go_roundw
      case rel => exact ⟨k + 1, by omega, by go_num, _, rfl⟩
      case measure => simp [intOf]; omega
    · obtain rfl : k = l.length := by omega
      go_wp2_with fail
      go_ret
      exact ⟨rfl, _, rfl⟩

set_option maxRecDepth 100000 in
set_option maxHeartbeats 1000000 in
theorem sameInt_eq (w : World) (neg : Bool) (A B : Option Addr) (c d : Nat) (l : List Nat) (hl : l.length ≤ 17592186044416) (ha : Rd w .u64 A l) (hb : Rd w .u64 B l) :
    Calls Tryz.prog 43 #[.agg #[.bool neg, .slice A l.length c], .agg #[.bool neg, .slice B l.length d]] w fun e w' => e = .returned (.bool true) ∧ Below w.heap.size w w' := by
  have HS := Lib.hid (sameWords_eq ((w.alloc (.cells #[.bool neg, .slice A l.length c] 29)).alloc (.cells #[.bool neg, .slice B l.length d] 29)) A B c d l hl ((ha.alloc _).alloc _) ((hb.alloc _).alloc _))
  have HB := Lib.hid (show Below w.heap.size w ((w.alloc (.cells #[.bool neg, .slice A l.length c] 29)).alloc (.cells #[.bool neg, .slice B l.length d] 29)) from (Below.of_alloc _ _).alloc (by simp) _)
  clear ha hb
  generalize l.length = n at *
  go_enter Tryz.func43, Tryz.ntmps43
  go_wp2_with fail
  refine HS.out.mono ?_
  rintro e w1 ⟨rfl, q, rfl⟩
  go_wp2_with fail
  go_ret
  exact ⟨rfl, Below.drewN HB.out q⟩

end Go.Proofs.YtcinoicpibleoaaGreatDoor
namespace Go.Proofs.YtcinoicpibleoaaGreatDoor
open Go.RowKit

theorem nth_all : ∀ (l m : List Nat), l.length = m.length → (∀ k < l.length, nth l k = nth m k) → l = m
  | [], [], _, _ => rfl
  | [], _ :: _, h, _ => by simp at h
  | _ :: _, [], h, _ => by simp at h
  | a :: l, b :: m, h, hn => by
    have h0 : a = b := hn 0 (by simp)
    have h1 := nth_all l m (by simpa using h) (fun k hk => hn (k + 1) (by simpa using hk))
    rw [h0, h1]

set_option maxRecDepth 100000 in
set_option maxHeartbeats 1000000 in
theorem sameWords_ne (w : World) (A B : Option Addr) (c d : Nat) (l m : List Nat) (hl : l.length ≤ 17592186044416) (hlm : l.length = m.length) (ha : Rd w .u64 A l) (hb : Rd w .u64 B m) (hne : l ≠ m) :
    Calls Tryz.prog 89 #[.slice A l.length c, .slice B l.length d] w fun e w' => e = .returned (.bool false) ∧ ∃ n, w' = w.drewN n := by
  have Hne := Lib.hid hne
  have Hlm := Lib.hid hlm
  have Ha := Lib.hid ha; have Hb := Lib.hid hb
  have hsa := ha.sl
  have hsb := hb.sl
  rw [← hlm] at hsb
  have h1 := size_u64
  clear ha hb hne hlm
  go_enter Tryz.func89, Tryz.ntmps89
  go_wp2_with fail
  go_loopw [5] (fun i wr => ∃ k : Nat, k ≤ l.length ∧ Hid (∀ t < k, nth l t = nth m t) ∧ i = .int .i64 k ∧ ∃ q, wr = w.drewN q) (fun i _ => l.length - (intOf i).toNat)
  case atStart => exact ⟨0, Nat.zero_le _, Lib.hid (fun t ht => absurd ht (Nat.not_lt_zero t)), rfl, 0, rfl⟩
  case round =>
    obtain ⟨k, hk, Hall, rfl, q, rfl⟩ := hrel
    by_cases hlt : k < l.length
    · have hca := Ha.out.cell k hlt
      have hcb := Hb.out.cell k (by rw [← Hlm.out]; exact hlt)
      by_cases he : nth l k = nth m k
      · have Hal2 := Lib.hid (show ∀ t < k + 1, nth l t = nth m t from fun t ht => by
          rcases Nat.lt_or_eq_of_le (Nat.lt_succ_iff.1 ht) with h | h
          · exact Hall.out t h
          · rw [h]; exact he)
        rw [← he] at hcb
        clear he Hall
        generalize nth l k = x at hca hcb
        go_wp2_with fail
        go_quiet (fail)
        go_wp2_with fail
        go_roundw
        case rel => exact ⟨k + 1, by omega, Hal2, by go_num, _, rfl⟩
        case measure => simp [intOf]; omega
      · have hx : ((nth l k : Nat) : Int) ≠ ((nth m k : Nat) : Int) := by omega
        generalize nth l k = x at *
        generalize nth m k = y at *
        go_wp2_with fail
        go_quiet (fail)
        go_wp2_with fail
        go_ret
        exact ⟨rfl, _, World.drewN_drewN _ _ _⟩
    · exact absurd (nth_all l m Hlm.out (fun t ht => Hall.out t (by omega))) Hne.out

set_option maxRecDepth 100000 in
set_option maxHeartbeats 1000000 in
theorem sameWords_len (w : World) (A B : Option Addr) (c d n m : Nat) (hne : n ≠ m) :
    Calls Tryz.prog 89 #[.slice A n c, .slice B m d] w fun e w' => e = .returned (.bool false) ∧ ∃ q, w' = w.drewN q := by
  go_enter Tryz.func89, Tryz.ntmps89
  go_wp2_with fail
  go_ret
  exact ⟨rfl, 0, rfl⟩

theorem sameWords_any (w : World) (A B : Option Addr) (c d : Nat) (l m : List Nat) (hl : l.length ≤ 17592186044416) (ha : Rd w .u64 A l) (hb : Rd w .u64 B m) :
    Calls Tryz.prog 89 #[.slice A l.length c, .slice B m.length d] w fun e w' => e = .returned (.bool (decide (l = m))) ∧ ∃ n, w' = w.drewN n := by
  by_cases h : l = m
  · subst h
    rw [decide_eq_true rfl]
    exact sameWords_eq w A B c d l hl ha hb
  · rw [decide_eq_false h]
    by_cases hn : l.length = m.length
    · rw [← hn]; exact sameWords_ne w A B c d l m hl hn ha hb h
    · exact sameWords_len w A B c d _ _ hn
end Go.Proofs.YtcinoicpibleoaaGreatDoor
