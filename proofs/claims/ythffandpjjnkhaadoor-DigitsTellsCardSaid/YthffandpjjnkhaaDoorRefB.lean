/-
  tripwireref01: Large.
-/
import Derived.Test.YthffandpjjnkhaaDoorRefA
namespace Go.Proofs.YthffandpjjnkhaaDoor
open Go.RowKit

theorem valT_head (b : Nat) (l : List Nat) (n : Nat) : valT b l (n + 1) = nth l 0 + b * valT b (l.drop 1) n := by
  have h := valT_add b l 1 n
  rw [Nat.add_comm] at h
  rw [h]
  simp [valT]
theorem word_step (s : List Nat) (i m : Nat) (h : m < 8) : valT 256 (s.drop (i + m)) (8 - m) = nth s (i + m) + 256 * valT 256 (s.drop (i + (m + 1))) (8 - (m + 1)) := by
  obtain ⟨n, hn⟩ : ∃ n, 8 - m = n + 1 := ⟨7 - m, by omega⟩
  rw [hn, valT_head, nth_drop, List.drop_drop, show 8 - (m + 1) = n by omega, Nat.add_zero]
  rfl

/-- in the middle of writing words -/
structure LaInv (w wr : World) (pv : Value) (out : List Nat) : Prop where
  own : Own wr w.heap.size 31 .u64 pv out
  below : Below w.heap.size w wr

set_option maxRecDepth 100000 in
set_option maxHeartbeats 2000000 in
theorem large_any (w : World) (A : Option Addr) (c : Nat) (l : List Nat) (hl : l.length ≤ 16777216) (hlc : l.length ≤ c) (ha : Rd w .i64 A l) (hx : ∀ x ∈ l, x < 256) :
    Calls Tryd.prog 79 #[.slice A l.length c] w (RetL .u64 (digs B64 (val 256 l)) w) := by
  have h1 := size_int
  have hul := used_le l
  have htl := length_trim l
  have Htr := Lib.hid (rtrim_any w A c l (by omega) hlc ha)
  have Ha := Lib.hid (ha.take (used l))
  have Hx := Lib.hid (trim_lt hx)
  have Htd := Lib.hid (trim_tidy l)
  have Hv := Lib.hid (val_trim 256 l)
  have hsl := (ha.take (used l)).sl
  have hll : (trim l).length ≤ 16777216 := by omega
  have htc : (trim l).length ≤ c := by omega
  have hT : l.take (used l) = trim l := rfl
  rw [hT] at Ha hsl
  clear ha hx hul htl hT
  generalize trim l = s at *
  go_enter Tryd.func79, Tryd.ntmps79
  go_wp2_with fail
  refine Htr.out.mono ?_
  rintro e w' ⟨rfl, rfl⟩
  go_wp2_with fail
  go_loopw [3, 4] (fun pv iv wr => ∃ n : Nat, 8 * n < s.length + 8 ∧ iv = .int .i64 ((8 * n : Nat) : Int) ∧ LaInv w wr pv (wordsOf s n)) (fun _ iv _ => s.length + 8 - (intOf iv).toNat)
  case atStart => exact ⟨0, by omega, rfl, Own.nil_ _ _ _ _, Below.refl _ _⟩
  case round =>
    obtain ⟨n, hn, rfl, hI⟩ := hrel
    obtain ⟨wo, rfl⟩ : ∃ wo : World, wo = wr := ⟨_, rfl⟩
    by_cases hlt : 8 * n < s.length
    · have ht : decide (((8 * n : Nat) : Int) < (s.length : Int)) = true := by simp; omega
      have Ha2 := Lib.hid (Ha.out.below hI.below (Nat.le_refl _))
      have HI := Lib.hid hI
      clear hI
      have hn8 : 8 * n ≤ 16777216 := by omega
      go_wp2_with fail
      go_loop [5, 6] (fun xv kv => ∃ m : Nat, m ≤ 8 ∧ kv = .int .i64 ((m : Int) - 1) ∧ xv = .int .u64 ((valT 256 (s.drop (8 * n + m)) (8 - m) : Nat) : Int)) (fun _ kv => ((intOf kv) + 1).toNat)
      case atStart => exact ⟨8, by omega, rfl, rfl⟩
      case round =>
        obtain ⟨m, hm, rfl, rfl⟩ := hrel
        rcases m with _ | m
        · have hlen := wordsOf_length s n
          obtain ⟨v', w', hrun, ho', hb', -, -⟩ := HI.out.own.app (P := Tryd.prog) (t := 23) Tryd.underlying23 info_u64 rfl (wordAt s (8 * n)) (by omega) (by simp only [maxLen]; omega) HI.out.below.size
          have HN : Hid (LaInv w w' v' (wordsOf s (n + 1))) := ⟨ho', HI.out.below.trans hb'⟩
          have Hrun := Lib.hid hrun
          have hw : valT 256 (s.drop (8 * n + 0)) (8 - 0) = wordAt s (8 * n) := rfl
          rw [hw]
          have e8 : ((8 * n : Nat) : Int) + 8 = ((8 * (n + 1) : Nat) : Int) := by omega
          clear hrun ho' hb' hlen hw ht
          generalize wordAt s (8 * n) = x at *
          generalize h8n : 8 * n = n8 at *
          generalize h8m : 8 * (n + 1) = n8' at *
          have E8 := Lib.hid h8n; have E8' := Lib.hid h8m; clear h8n h8m
          go_wp2_with (at_builtin; refine wpList_append_eq rfl (.tmp 36) (.tmp 38) 23 _ _ _ rfl rfl rfl Hrun.out ?_)
          go_roundw
          case rel => exact ⟨n + 1, by omega, by rw [← E8'.out], HN.out⟩
          case measure => have a1 := E8.out; have a2 := E8'.out; simp [intOf]; omega
        · have hws := word_step s (8 * n) m (by omega)
          have hb1 := valT_lt (b := 256) (by decide) (l := s.drop (8 * n + (m + 1))) (fun x hx => Hx.out x (List.mem_of_mem_drop hx)) (8 - (m + 1))
          have hb2 : (256 : Nat) ^ (8 - (m + 1)) ≤ 256 ^ 7 := Nat.pow_le_pow_right (by omega) (by omega)
          have hb3 : nth s (8 * n + m) < 256 := getD_lt (by decide) Hx.out _
          have k0 : (((m + 1 : Nat) : Int) - 1) = (m : Int) := by omega
          have w1 : IntKind.u64.wrap (((valT 256 (s.drop (8 * n + (m + 1))) (8 - (m + 1)) : Nat) : Int) * 256) = ((256 * valT 256 (s.drop (8 * n + (m + 1))) (8 - (m + 1)) : Nat) : Int) := by
            rw [show ((valT 256 (s.drop (8 * n + (m + 1))) (8 - (m + 1)) : Nat) : Int) * 256 = ((256 * valT 256 (s.drop (8 * n + (m + 1))) (8 - (m + 1)) : Nat) : Int) by omega]
            exact w64 _ (by simp only [B64]; omega)
          rw [k0]
          have hmm : m < 8 := by omega
          by_cases hin : 8 * n + m < s.length
          · have hcell := Ha2.out.cell (8 * n + m) hin
            have hin' : (((8 * n : Nat) : Int) + (m : Int)) < (s.length : Int) := by omega
            have t0 : (((8 * n : Nat) : Int) + (m : Int)).toNat = 8 * n + m := by omega
            have t1 : 0 ≤ ((8 * n : Nat) : Int) + (m : Int) := by omega
            have w2 : IntKind.u64.wrap ((nth s (8 * n + m) : Nat) : Int) = ((nth s (8 * n + m) : Nat) : Int) := w64 _ (by simp only [B64]; omega)
            have w3 : IntKind.u64.wrap (((256 * valT 256 (s.drop (8 * n + (m + 1))) (8 - (m + 1)) : Nat) : Int) + ((nth s (8 * n + m) : Nat) : Int)) = ((valT 256 (s.drop (8 * n + m)) (8 - m) : Nat) : Int) := by
              rw [← Int.natCast_add, hws, Nat.add_comm]; exact w64 _ (by simp only [B64]; omega)
            clear hws hb1 hb2
            generalize nth s (8 * n + m) = y at *
            generalize hz' : valT 256 (s.drop (8 * n + m)) (8 - m) = z' at *
            have HZ := Lib.hid hz'; clear hz'
            generalize 256 * valT 256 (s.drop (8 * n + (m + 1))) (8 - (m + 1)) = z1 at *
            generalize valT 256 (s.drop (8 * n + (m + 1))) (8 - (m + 1)) = z at *
            generalize 8 * n = n8 at *
            go_wp2_with fail
            go_round
            case rel => exact ⟨m, by omega, rfl, by rw [HZ.out]⟩
            case measure => simp [intOf]
          · have hin' : ¬ (((8 * n : Nat) : Int) + (m : Int)) < (s.length : Int) := by omega
            have hnz : nth s (8 * n + m) = 0 := by simp [nth, List.getD, show s.length ≤ 8 * n + m by omega]
            rw [hnz, Nat.zero_add] at hws
            rw [← hws] at w1
            have w1' := w1
            have HZ := Lib.hid (Eq.refl (valT 256 (s.drop (8 * n + m)) (8 - m)))
            clear hws hb1 hb2 hnz hb3
            generalize hz' : valT 256 (s.drop (8 * n + m)) (8 - m) = z' at *
            have HZ := Lib.hid hz'; clear hz'
            generalize valT 256 (s.drop (8 * n + (m + 1))) (8 - (m + 1)) = z at *
            generalize 8 * n = n8 at *
            go_wp2_with fail
            go_round
            case rel => exact ⟨m, by omega, rfl, by rw [HZ.out]⟩
            case measure => simp [intOf]
    · have hfin := wordsOf_digs Hx.out Htd.out (n := n) (by omega) hn
      rw [Hv.out] at hfin
      rw [hfin] at hI
      obtain ⟨A1, c1, rfl, hc1, -, hr1, hf1⟩ := hI.own.form
      have HR := Lib.hid hr1; have HF := Lib.hid hf1; have HC := Lib.hid hc1; have Hb := Lib.hid hI.below
      have ht : decide (((8 * n : Nat) : Int) < (s.length : Int)) = false := by simp; omega
      clear hI hr1 hf1 hc1 hfin
      go_wp2_with fail
      go_ret
      exact ⟨A1, c1, rfl, HC.out, HR.out, Hb.out, HF.out⟩
end Go.Proofs.YthffandpjjnkhaaDoor
