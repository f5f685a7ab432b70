/-
  limbs: takeOff, giveBack.
-/
import Derived.Test.YtbdgeinfijamcaaGreatDoorOff
namespace Go.Proofs.YtbdgeinfijamcaaGreatDoor
open Go.RowKit

/-- v, so many times, taken off a window, and what is borrowed -/
def RetOff (w : World) (g j n times : Nat) (v s0 : List Nat) (e : Ending) (w' : World) : Prop :=
  ∃ (bw : Nat) (s : List Nat), e = .returned (.int .u64 (bw : Int)) ∧ bw ≤ 1 ∧ Win w w' g j (n + 1) s0 s ∧ valT B64 (s.drop j) (n + 1) + times * val B64 v = valT B64 (s0.drop j) (n + 1) + B64 ^ (n + 1) * bw
/-- v given back to a window, and what is carried -/
def RetBack (w : World) (g j n : Nat) (v s0 : List Nat) (e : Ending) (w' : World) : Prop :=
  ∃ (cy : Nat) (s : List Nat), e = .returned (.int .u64 (cy : Int)) ∧ cy ≤ 1 ∧ Win w w' g j (n + 1) s0 s ∧ valT B64 (s.drop j) (n + 1) + B64 ^ (n + 1) * cy = valT B64 (s0.drop j) (n + 1) + val B64 v

set_option maxRecDepth 100000 in
set_option maxHeartbeats 2000000 in
theorem takeOff_any (w : World) (g j n cu d times : Nat) (B : Option Addr) (s0 v : List Nat) (hn : n = v.length) (hj : j + n < s0.length) (hl : s0.length ≤ 17592186044416) (hblk : Blk w g 96 (ints .u64 s0)) (hv : Rd w .u64 B v)
    (hne : ∀ i, i < v.length → (adr B i).block ≠ g) (hx : ∀ x ∈ s0, x < B64) (hy : ∀ x ∈ v, x < B64) (ht : times < B64) :
    Calls Tryz.prog 198 #[.slice (some ⟨g, j, none⟩) (n + 1) cu, .slice B n d, .int .u64 (times : Int)] w (RetOff w g j n times v s0) := by
  have hsb : Sl B n := by rw [hn]; exact hv.sl
  have h1 := size_u64
  have Hblk := Lib.hid hblk; have Hv := Lib.hid hv; have Hx := Lib.hid hx; have Hy := Lib.hid hy; have Hne := Lib.hid hne; have Hn := Lib.hid hn; have Ht := Lib.hid ht
  clear hblk hv hx hy hne hn ht
  go_enter Tryz.func198, Tryz.ntmps198
  go_wp2_with fail
  go_loopw [8, 9, 17] (fun cv bv i wr => ∃ (k cy bw : Nat) (s : List Nat), k ≤ n ∧ bw ≤ 1 ∧ cv = .int .u64 cy ∧ bv = .int .u64 bw ∧ i = .int .i64 k ∧ OffInv w wr g j k cy bw times v s0 s) (fun _ _ i _ => n - (intOf i).toNat)
  case atStart => exact ⟨0, 0, 0, s0, Nat.zero_le _, Nat.zero_le _, rfl, rfl, rfl, Win.refl Hblk.out Hx.out 0, B64_pos, Nat.zero_le _, by simp [valT]⟩
  case round =>
    obtain ⟨k, cy, bw, s, hk, hbw, rfl, rfl, rfl, hI⟩ := hrel
    by_cases hlt : k < n
    · have hcell := hI.win.blk.cell (j + k)
      rw [ints_get .u64 s (j + k) (by rw [hI.win.len]; omega)] at hcell
      have hfz := hI.win.blk.frozen (j + k)
      have hcb := (Hv.out.only hI.win.gr Hne.out).cell k (by have := Hn.out; omega)
      have hyk := getD_lt B64_pos Hy.out k
      have Hmul := Lib.hid (mul64_any (nth v k) times hyk Ht.out)
      have hq : (if nth s (j + k) < (nth v k * times % B64 + cy) % B64 + bw then 1 else 0) ≤ 1 := by split <;> omega
      have hN := Lib.hid (hI.next (by omega) Hy.out Ht.out rfl rfl rfl rfl)
      have hcar := wrap_u64 (nth v k * times / B64) ((nth v k * times % B64 + cy) / B64) (mul_add_lt hyk Ht.out hI.cyl)
      have hsub := run_sub64_at (nth s (j + k)) ((nth v k * times % B64 + cy) % B64) bw hbw
      have hadd := run_add64_0 (nth v k * times % B64) cy
      clear hI hyk
      generalize (nth s (j + k) + B64 - (nth v k * times % B64 + cy) % B64 - bw) % B64 = r at *
      generalize (if nth s (j + k) < (nth v k * times % B64 + cy) % B64 + bw then 1 else 0) = q at *
      generalize nth s (j + k) = x at *
      generalize nth v k * times / B64 + (nth v k * times % B64 + cy) / B64 = c1 at *
      generalize (nth v k * times % B64 + cy) / B64 = c0 at *
      generalize (nth v k * times % B64 + cy) % B64 = lo at *
      generalize nth v k * times / B64 = hi at *
      generalize nth v k * times % B64 = l0 at *
      generalize nth v k = y at *
      go_wp2_with fail
      refine (Hmul.out _).mono ?_
      rintro e w' ⟨rfl, rfl⟩
      go_wp2_with fail
      go_roundw
      case rel => exact ⟨k + 1, c1, q, s.set (j + k) r, by omega, hq, rfl, rfl, by go_num, hN.out⟩
      case measure => simp [intOf]; omega
    · obtain rfl : k = n := by omega
      have hcell := hI.win.blk.cell (j + k)
      rw [ints_get .u64 s (j + k) (by rw [hI.win.len]; omega)] at hcell
      have hfz := hI.win.blk.frozen (j + k)
      have hq : (if nth s (j + k) < cy + bw then 1 else 0) ≤ 1 := by split <;> omega
      have hN := Lib.hid (hI.last hj rfl Hn.out)
      have hsub := run_sub64_at (nth s (j + k)) cy bw hbw
      clear hI
      generalize (nth s (j + k) + B64 - cy - bw) % B64 = r at *
      generalize (if nth s (j + k) < cy + bw then 1 else 0) = q at *
      generalize nth s (j + k) = x at *
      go_wp2_with fail
      go_ret
      exact ⟨q, s.set (j + k) r, rfl, hq, hN.out.1, hN.out.2⟩

set_option maxRecDepth 100000 in
set_option maxHeartbeats 2000000 in
theorem giveBack_any (w : World) (g j n cu d : Nat) (B : Option Addr) (s0 v : List Nat) (hn : n = v.length) (hj : j + n < s0.length) (hl : s0.length ≤ 17592186044416) (hblk : Blk w g 96 (ints .u64 s0)) (hv : Rd w .u64 B v)
    (hne : ∀ i, i < v.length → (adr B i).block ≠ g) (hx : ∀ x ∈ s0, x < B64) (hy : ∀ x ∈ v, x < B64) :
    Calls Tryz.prog 199 #[.slice (some ⟨g, j, none⟩) (n + 1) cu, .slice B n d] w (RetBack w g j n v s0) := by
  have hsb : Sl B n := by rw [hn]; exact hv.sl
  have h1 := size_u64
  have Hblk := Lib.hid hblk; have Hv := Lib.hid hv; have Hx := Lib.hid hx; have Hy := Lib.hid hy; have Hne := Lib.hid hne; have Hn := Lib.hid hn
  clear hblk hv hx hy hne hn
  go_enter Tryz.func199, Tryz.ntmps199
  go_wp2_with fail
  go_loopw [6, 11] (fun cv i wr => ∃ (k cy : Nat) (s : List Nat), k ≤ n ∧ cy ≤ 1 ∧ cv = .int .u64 cy ∧ i = .int .i64 k ∧ BackInv w wr g j k cy v s0 s) (fun _ i _ => n - (intOf i).toNat)
  case atStart => exact ⟨0, 0, s0, Nat.zero_le _, Nat.zero_le _, rfl, rfl, Win.refl Hblk.out Hx.out 0, Nat.zero_le _, by simp [valT]⟩
  case round =>
    obtain ⟨k, cy, s, hk, hcy, rfl, rfl, hI⟩ := hrel
    by_cases hlt : k < n
    · have hcell := hI.win.blk.cell (j + k)
      rw [ints_get .u64 s (j + k) (by rw [hI.win.len]; omega)] at hcell
      have hfz := hI.win.blk.frozen (j + k)
      have hcb := (Hv.out.only hI.win.gr Hne.out).cell k (by have := Hn.out; omega)
      have hyk := getD_lt B64_pos Hy.out k
      have i1 : (0 : Int) ≤ (k : Int) := by omega
      have i2 : (k : Int) < ((n + 1 : Nat) : Int) := by omega
      have i3 : (k : Int) < (n : Int) := by omega
      have i4 : (k : Int) < (n : Int) + 1 := by omega
      have hN := Lib.hid (fun q => (hI.drewN q).next (by omega) hyk v (valT_succ _ _ _))
      have hq : (nth s (j + k) + nth v k + cy) / B64 ≤ 1 := (hI.next (by omega) hyk v (valT_succ _ _ _)).cyl
      have hadd := run_add64_at (nth s (j + k)) (nth v k) cy hcy
      clear hI hyk
      generalize (nth s (j + k) + nth v k + cy) % B64 = r at *
      generalize (nth s (j + k) + nth v k + cy) / B64 = q at *
      generalize nth s (j + k) = x at *
      generalize nth v k = y at *
      go_wp2_with fail
      go_region_with (fail)
      all_goals
        go_wp2_with fail
        go_roundw
        case rel => exact ⟨k + 1, q, s.set (j + k) r, by omega, hq, rfl, by go_num, hN.out 1⟩
        case measure => simp [intOf]; omega
    · obtain rfl : k = n := by omega
      have hcell := hI.win.blk.cell (j + k)
      rw [ints_get .u64 s (j + k) (by rw [hI.win.len]; omega)] at hcell
      have hfz := hI.win.blk.frozen (j + k)
      have hN := Lib.hid (hI.next (y := 0) (by omega) B64_pos (v ++ [0]) (by
        rw [valT_succ, Nat.mul_zero]
        congr 1
        · exact valT_congr _ _ _ _ fun i hi => by simp [nth, List.getD, List.getElem?_append, show i < v.length by have := Hn.out; omega]
        · have := Hn.out; simp [nth, List.getD, List.getElem?_append, show ¬ k < v.length by omega, show k - v.length = 0 by omega]))
      have Hv2 := Lib.hid (show valT B64 (v ++ [0]) (k + 1) = val B64 v by
        rw [show k + 1 = (v ++ [0]).length by simp; exact Hn.out, valT_all, val_append]; simp [val])
      have hadd := run_add64_at (nth s (j + k)) 0 cy hcy
      clear hI
      have e0 : ((0 : Nat) : Int) = 0 := rfl
      rw [e0] at hadd
      clear e0
      generalize (nth s (j + k) + 0 + cy) % B64 = r at *
      generalize (nth s (j + k) + 0 + cy) / B64 = q at *
      generalize nth s (j + k) = x at *
      go_wp2_with fail
      go_ret
      exact ⟨q, s.set (j + k) r, rfl, hN.out.cyl, hN.out.win, by rw [hN.out.eq, Hv2.out]⟩
end Go.Proofs.YtbdgeinfijamcaaGreatDoor
