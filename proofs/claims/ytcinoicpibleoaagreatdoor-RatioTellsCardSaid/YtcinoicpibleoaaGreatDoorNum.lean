/-
  digits.numeral.
-/
import Derived.Test.YtcinoicpibleoaaGreatDoorText
import Derived.Lib.OthersKept
namespace Go.Proofs.YtcinoicpibleoaaGreatDoor
open Go.RowKit

def isDig (c : UInt8) : Bool := 48 ≤ c.toNat && c.toNat ≤ 57
/-- a numeral, however long -/
def numB (l : List UInt8) (neg : Bool) : Bool := !l.isEmpty && l.all isDig && (l.headD 0 != 48 || (l.length == 1 && !neg))

theorem iter_below (w : World) (s : ByteArray) (pos : Nat) : Below w.heap.size w (w.iter s pos) := Below.of_alloc _ _
set_option maxRecDepth 100000 in
set_option maxHeartbeats 1000000 in
theorem numeral_any (s : ByteArray) (neg : Bool) (w : World) (hs : s.size ≤ 9223372036854775807) :
    Calls Tryz.prog 138 #[.string s, .bool neg] w fun e w' => e = .returned (.bool (numB s.data.toList neg)) ∧ Below w.heap.size w w' := by
  have hlen : s.data.toList.length = s.size := by simp
  have hTL : s.toList = s.data.toList := ByteArray.toList_eq s
  by_cases h0 : s.size = 0
  · have he : s.data.toList = [] := List.eq_nil_of_length_eq_zero (by omega)
    have hs3 : s.toList.isEmpty = true := by rw [hTL, he]; rfl
    have HF := Lib.hid (show numB s.data.toList neg = false by rw [he]; rfl)
    clear he h0 hlen hTL
    go_enter Tryz.func138, Tryz.ntmps138
    go_wp2_with fail
    go_ret
    rw [HF.out]
    exact ⟨rfl, Below.refl _ _⟩
  · obtain ⟨c0, hc0⟩ : ∃ c0, s.data.toList.head? = some c0 := by
      cases hh : s.data.toList with
      | nil => rw [hh] at hlen; simp at hlen; omega
      | cons a b => exact ⟨a, rfl⟩
    have hs3 : s.toList.isEmpty = false := by
      rw [hTL]; cases hh : s.data.toList with
      | nil => rw [hh] at hlen; simp at hlen; omega
      | cons a b => rfl
    have hpos : 0 < s.size := by omega
    have Hlen := Lib.hid hlen
    clear hTL h0 hlen
    go_enter Tryz.func138, Tryz.ntmps138
    go_wp2_with fail
    go_loopg [] s.size (fun g wr => ∃ pos, pos ≤ s.size ∧ g = s.size - pos ∧ wr = w.iter s pos ∧ Hid (∀ i, (h : i < s.size) → i < pos → isDig s[i] = true))
    case atStart => exact ⟨0, Nat.zero_le _, rfl, rfl, (show ∀ i, (h : i < s.size) → i < 0 → isDig s[i] = true from fun i _ h => by omega)⟩
    case round =>
      obtain ⟨pos, hp, hg, rfl, hall⟩ := hrel
      have Hg := Lib.hid hg; clear hg
      by_cases hlt : pos < s.size
      · by_cases hd : isDig s[pos] = true
        · have hd2 : 48 ≤ s[pos].toNat ∧ s[pos].toNat ≤ 57 := by simpa [isDig] using hd
          have hnx : ∀ ty, (Instr.next (.pointer (some ⟨w.heap.size, 0, none⟩)) true ty).run Tryz.prog (w.iter s pos) = _ := fun ty => run_next_ascii w s pos ty hlt (by omega)
          have Hall : Hid (∀ i, (h : i < s.size) → i < pos + 1 → isDig s[i] = true) := (show ∀ i, (h : i < s.size) → i < pos + 1 → isDig s[i] = true from fun i h1 h2 => by
            by_cases e : i = pos
            · subst e; exact hd
            · exact hall.out i h1 (by omega))
          obtain ⟨hd3, hd4⟩ := hd2
          have t1 : ¬ (s[pos].toNat : Int) < 48 := by omega
          have t2 : ¬ (57 : Int) < (s[pos].toNat : Int) := by omega
          clear hd hall
          generalize s[pos].toNat = cc at *
          go_wp2_with fail
          go_roundg (s.size - (pos + 1))
          case measure => rw [Hg.out]; omega
          case rel => exact ⟨pos + 1, by omega, rfl, rfl, Hall⟩
        · have HF := Lib.hid (show numB s.data.toList neg = false by
            unfold numB
            have : s.data.toList.all isDig = false := by
              rw [List.all_eq_false]
              exact ⟨s[pos], List.mem_iff_getElem.2 ⟨pos, by simpa using hlt, rfl⟩, hd⟩
            rw [this]; simp)
          have hnx : ∀ ty, (Instr.next (.pointer (some ⟨w.heap.size, 0, none⟩)) true ty).run Tryz.prog (w.iter s pos) = _ := fun ty => run_next_any w s pos ty hlt
          have hr : (Utf8.decode s pos).1 < 48 ∨ 57 < (Utf8.decode s pos).1 := by
            by_cases ha : s[pos].toNat < 128
            · rw [decode_ascii s pos hlt ha]
              have : ¬ (48 ≤ s[pos].toNat ∧ s[pos].toNat ≤ 57) := by simpa [isDig] using hd
              show s[pos].toNat < 48 ∨ 57 < s[pos].toNat
              omega
            · have := (decode_high s pos hlt (by omega)).1; omega
          clear hd hall
          generalize (Utf8.decode s pos).1 = rr at *
          generalize (Utf8.decode s pos).2 = rw_ at *
          by_cases hl : rr < 48
          · have t1 : (rr : Int) < 48 := by omega
            clear hr hl
            go_wp2_with fail
            go_ret
            rw [HF.out]
            exact ⟨rfl, iter_below _ _ _⟩
          · have t1 : ¬ (rr : Int) < 48 := by omega
            have t2 : (57 : Int) < (rr : Int) := by omega
            clear hr hl
            go_wp2_with fail
            go_ret
            rw [HF.out]
            exact ⟨rfl, iter_below _ _ _⟩
      · have hnx : ∀ ty, (Instr.next (.pointer (some ⟨w.heap.size, 0, none⟩)) true ty).run Tryz.prog (w.iter s pos) = _ := fun ty => run_next_end w s pos ty hlt
        have hc : s[0] = c0 := by
          have h1 : s.data.toList[0]'(by rw [Hlen.out]; exact hpos) = c0 := by
            rw [List.head?_eq_getElem?, List.getElem?_eq_getElem (by rw [Hlen.out]; exact hpos)] at hc0
            exact Option.some.inj hc0
          exact h1
        have HF := Lib.hid (show numB s.data.toList neg = (c0 != 48 || (s.size == 1 && !neg)) by
          unfold numB
          have h1 : s.data.toList.all isDig = true := by
            rw [List.all_eq_true]
            intro x hx
            obtain ⟨i, hi, rfl⟩ := List.mem_iff_getElem.1 hx
            have hi' : i < s.size := by rw [← Hlen.out]; exact hi
            exact hall.out i hi' (by omega)
          have h2 : s.data.toList.headD 0 = c0 := by rw [List.headD_eq_head?_getD, hc0]; rfl
          have h3 : s.data.toList.isEmpty = false := by
            rw [List.isEmpty_eq_false_iff]; intro e; rw [e] at hc0; simp at hc0
          rw [h1, h2, h3, Hlen.out]; simp)
        clear hall hc0
        have hcc : (c0 == 48) = ((c0.toNat : Int) == 48) := by
          rw [Bool.eq_iff_iff]; simp [← UInt8.toNat_inj]; omega
        have hb2 : (s.size == 1) = ((s.size : Int) == 1) := by
          rw [Bool.eq_iff_iff]; simp; omega
        have HF2 := Lib.hid (show numB s.data.toList neg = (!((c0.toNat : Int) == 48) || (((s.size : Int) == 1) && !neg)) by rw [HF.out, ← hcc, ← hb2]; rfl)
        clear hcc hb2 HF
        by_cases q1 : ((c0.toNat : Int) == 48) = true
        · have q3 : ((c0.toNat : Int) != 48) = false := by simpa using q1
          by_cases q2 : ((s.size : Int) == 1) = true
          · have HF3 := Lib.hid (show numB s.data.toList neg = !neg by rw [HF2.out, q1, q2]; simp)
            go_wp2_with fail
            all_goals
              go_ret
              rw [HF3.out]
              exact ⟨rfl, iter_below _ _ _⟩
          · have q2' : ((s.size : Int) == 1) = false := by simpa using q2
            have HF3 := Lib.hid (show numB s.data.toList neg = false by rw [HF2.out, q1, q2']; simp)
            clear q2
            go_wp2_with fail
            all_goals
              go_ret
              rw [HF3.out]
              exact ⟨rfl, iter_below _ _ _⟩
        · have q1' : ((c0.toNat : Int) == 48) = false := by simpa using q1
          have q3 : ((c0.toNat : Int) != 48) = true := by simpa using q1
          have HF3 := Lib.hid (show numB s.data.toList neg = true by rw [HF2.out, q1']; simp)
          clear q1
          go_wp2_with fail
          all_goals
            go_ret
            rw [HF3.out]
            exact ⟨rfl, iter_below _ _ _⟩
end Go.Proofs.YtcinoicpibleoaaGreatDoor
