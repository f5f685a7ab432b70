/-
  tripwireref01: trim, Small.
-/
import Derived.Test.YthffandpjjnkhaaDoorOwn
import Derived.Test.YthffandpjjnkhaaDoorRefM
import Derived.Test.YthffandpjjnkhaaDoorDiv
import Derived.Deep.LoopGhost
namespace Go.Proofs.YthffandpjjnkhaaDoor
open Go.RowKit

theorem info_int : (Tryd.prog.info? 3).map (fun i => (i.zero, i.size, i.bytes)) = some (some (.int .i64 0), 1, 8) := by kernel_rfl
theorem size_int (w : World) : (sizeOf (Tryd.prog.elem 86)).run Tryd.prog w = .ok 1 w := by kernel_rfl

set_option maxHeartbeats 400000 in
theorem rtrim_any (w : World) (A : Option Addr) (c : Nat) (l : List Nat) (hl : l.length ≤ 9223372036854775807) (hlc : l.length ≤ c) (hr : Rd w .i64 A l) :
    Calls Tryd.prog 80 #[.slice A l.length c] w fun e w' => e = .returned (.slice A (trim l).length c) ∧ w = w' := by
  have hsl := hr.sl
  have h1 := size_int
  have Hr := Lib.hid hr; clear hr
  have HT := Lib.hid (length_trim l)
  unfold used at HT
  go_enter Tryd.func80, Tryd.ntmps80
  go_wp2
  go_loop [3] (fun n => ∃ k : Nat, k ≤ l.length ∧ n = .int .i64 k ∧ Hid (usedN l l.length = usedN l k)) (fun n => (intOf n).toNat)
  case atStart => exact ⟨l.length, Nat.le_refl _, rfl, rfl⟩
  case round =>
    obtain ⟨k, hk, rfl, hu⟩ := hrel
    rcases k with _ | k
    · have Hu := Lib.hid (show (trim l).length = 0 by rw [HT.out, hu.out]; rfl)
      go_wp2
      go_ret
      rw [Hu.out]
      exact ⟨rfl, rfl⟩
    · have hcell := Hr.out.cell k (by omega)
      by_cases h0 : nth l k = 0
      · rw [h0] at hcell
        have Hu : Hid (usedN l l.length = usedN l k) := by rw [hu.out]; show usedN l (k + 1) = _; simp only [usedN, if_pos h0]
        clear h0 hu
        go_wp2
        go_round
        case rel => exact ⟨k, by omega, by go_num, Hu⟩
        case measure => simp [intOf]
      · have Hu := Lib.hid (show (trim l).length = k + 1 by rw [HT.out, hu.out]; show usedN l (k + 1) = _; simp only [usedN, if_neg h0])
        have hne : ((nth l k : Int) == 0) = false := by simpa using h0
        clear h0 hu
        generalize nth l k = x at *
        go_wp2
        go_ret
        rw [Hu.out]
        exact ⟨rfl, rfl⟩

/-- in the middle of writing digits of 8 bits -/
structure SmInv (w wr : World) (pv : Value) (out : List Nat) : Prop where
  own : Own wr w.heap.size 3 .i64 pv out
  below : Below w.heap.size w wr

set_option maxRecDepth 100000 in
set_option maxHeartbeats 2000000 in
theorem small_any (w : World) (A : Option Addr) (c : Nat) (l : List Nat) (hl : l.length ≤ 1048576) (ha : Rd w .u64 A l) (hx : ∀ x ∈ l, x < B64) :
    Calls Tryd.prog 53 #[.slice A l.length c] w (RetL .i64 (digs 256 (val B64 l)) w) := by
  have hsl := ha.sl
  have h1 := size_u64
  have Ha := Lib.hid ha; have Hx := Lib.hid hx
  clear ha hx
  go_enter Tryd.func53, Tryd.ntmps53
  go_wp2_with fail
  go_loopw [3, 4] (fun pv i wr => ∃ k : Nat, k ≤ l.length ∧ i = .int .i64 k ∧ SmInv w wr pv (bytesOf (l.take k))) (fun _ i _ => l.length - (intOf i).toNat)
  case atStart => exact ⟨0, Nat.zero_le _, rfl, Own.nil_ _ _ _ _, Below.refl _ _⟩
  case round =>
    obtain ⟨k, hk, rfl, hI⟩ := hrel
    obtain ⟨wo, rfl⟩ : ∃ wo : World, wo = wr := ⟨_, rfl⟩
    by_cases hlt : k < l.length
    · have hca := (Ha.out.below hI.below (Nat.le_refl _)).cell k hlt
      have hx64 := getD_lt B64_pos Hx.out k
      have Hsn := Lib.hid (show bytesOf (l.take (k + 1)) = bytesOf (l.take k) ++ by8 8 (nth l k) by
        rw [List.take_succ_eq_append_getElem hlt, bytesOf_snoc]; simp [nth, List.getD, hlt])
      have Hlen := Lib.hid (show (bytesOf (l.take k)).length ≤ 8388608 by rw [bytesOf_length]; simp; omega)
      have HI := Lib.hid hI
      have HX := Lib.hid hx64
      clear hI hx64
      generalize nth l k = x at *
      generalize bytesOf (l.take k) = out at *
      go_wp2_with fail
      go_loopw [3, 5, 6] (fun pv xv jv wr => ∃ j : Nat, j ≤ 8 ∧ jv = .int .i64 j ∧ xv = .int .u64 ((x / 256 ^ j : Nat) : Int) ∧ SmInv w wr pv (out ++ by8 j x)) (fun _ _ jv _ => 8 - (intOf jv).toNat)
      case atStart => exact ⟨0, by omega, rfl, by simp, by simpa [by8] using HI.out⟩
      case round =>
        obtain ⟨j, hj, rfl, rfl, hJ⟩ := hrel
        by_cases hj8 : j < 8
        · have hl2 : (out ++ by8 j x).length ≤ 8388616 := by rw [List.length_append, by8_length]; have := Hlen.out; omega
          obtain ⟨v', w', hrun, ho', hb', -, -⟩ := hJ.own.app (P := Tryd.prog) (t := 86) Tryd.underlying86 info_int rfl (x / 256 ^ j % 256) (by omega) (by simp only [maxLen]; omega) hJ.below.size
          rw [List.append_assoc, ← by8_snoc] at ho'
          have HN : Hid (SmInv w w' v' (out ++ by8 (j + 1) x)) := ⟨ho', hJ.below.trans hb'⟩
          have Hrun := Lib.hid hrun
          have hdl : x / 256 ^ j ≤ x := Nat.div_le_self _ _
          have hdl2 : x / 256 ^ j < B64 := Nat.lt_of_le_of_lt hdl HX.out
          have e2 : x / 256 ^ j / 256 = x / 256 ^ (j + 1) := by rw [Nat.div_div_eq_div_mul, Nat.pow_succ]
          clear hrun ho' hb' hJ hdl
          have He2 := Lib.hid e2; clear e2
          generalize x / 256 ^ j = y at *
          have w1 : IntKind.u64.wrap ((y : Int) % 256) = ((y % 256 : Nat) : Int) := by rw [IntKind.wrap_u64]; omega
          have w1' : IntKind.u64.wrap ((y : Int).tmod 256) = ((y % 256 : Nat) : Int) := by rw [Int.tmod_eq_emod_of_nonneg (by omega)]; exact w1
          have w2 : IntKind.i64.wrap ((y % 256 : Nat) : Int) = ((y % 256 : Nat) : Int) := by rw [IntKind.wrap_i64]; omega
          have w3 : IntKind.u64.wrap ((y : Int) / 256) = ((y / 256 : Nat) : Int) := by rw [IntKind.wrap_u64]; simp only [B64] at hdl2; omega
          have w3' : IntKind.u64.wrap ((y : Int).tdiv 256) = ((y / 256 : Nat) : Int) := by rw [Int.tdiv_eq_ediv_of_nonneg (by omega)]; exact w3
          have w4 : (y : Int) % 256 = ((y % 256 : Nat) : Int) := by omega
          have w5 : (y : Int) / 256 = ((y / 256 : Nat) : Int) := by omega
          have w6 : IntKind.u64.wrap ((y / 256 : Nat) : Int) = ((y / 256 : Nat) : Int) := w64 _ (by omega)
          have w7 : IntKind.u64.wrap ((y % 256 : Nat) : Int) = ((y % 256 : Nat) : Int) := w64 _ (by simp only [B64]; omega)
          generalize y % 256 = r at *
          generalize y / 256 = q at *
          go_wp2_with (at_builtin; refine wpList_append_eq rfl (.tmp 21) (.tmp 25) 86 _ _ _ rfl rfl rfl Hrun.out ?_)
          go_roundw
          case rel => exact ⟨j + 1, by omega, by go_num, by rw [He2.out], HN.out⟩
          case measure => simp [intOf]; omega
        · obtain rfl : j = 8 := by omega
          rw [← Hsn.out] at hJ
          have HJ := Lib.hid hJ; clear hJ
          go_wp2_with fail
          go_roundw
          case rel => exact ⟨k + 1, by omega, by go_num, HJ.out⟩
          case measure => simp [intOf]; omega
    · have hkk : k = l.length := by omega
      rw [hkk, List.take_length] at hI
      obtain ⟨A1, c1, rfl, hc1, -, hr1, hf1⟩ := hI.own.form
      have hbl := bytesOf_length l
      have Htr := Lib.hid (rtrim_any wo A1 c1 (bytesOf l) (by omega) hc1 hr1)
      have HR := Lib.hid (hr1.take (used (bytesOf l)))
      have HF := Lib.hid hf1; have Hb := Lib.hid hI.below
      have hut := length_trim (bytesOf l)
      have hul := used_le (bytesOf l)
      have HC := Lib.hid (show (trim (bytesOf l)).length ≤ c1 by omega)
      have Hfin := Lib.hid (trim_bytesOf Hx.out)
      clear hI hr1 hf1 hc1 hut hul hbl hkk
      generalize (bytesOf l).length = bn at *
      go_wp2_with fail
      refine Htr.out.mono ?_
      rintro e w' ⟨rfl, rfl⟩
      go_wp2_with fail
      go_ret
      rw [← Hfin.out]
      exact ⟨A1, c1, rfl, HC.out, HR.out, Hb.out, fun i hi => HF.out i (by have := used_le (bytesOf l); rw [length_trim] at hi; omega)⟩

end Go.Proofs.YthffandpjjnkhaaDoor
