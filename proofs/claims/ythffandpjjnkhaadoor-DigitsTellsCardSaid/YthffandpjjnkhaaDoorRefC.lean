/-
  tripwireref01: Add.
-/
import Derived.Test.YthffandpjjnkhaaDoorRefB
namespace Go.Proofs.YthffandpjjnkhaaDoor
open Go.RowKit

theorem digs_length_le {b V n : Nat} (hb : 1 < b) (h : V < b ^ n) : (digs b V).length ≤ n := by
  rcases Nat.lt_or_ge n (digs b V).length with h1 | h1
  · exfalso
    have hne : digs b V ≠ [] := by intro e; rw [e] at h1; simp at h1
    have h2 := pow_le_val hb (digs_tidy hb V) hne
    rw [val_digs hb] at h2
    have h3 : b ^ n ≤ b ^ ((digs b V).length - 1) := Nat.pow_le_pow_right (by omega) (by omega)
    omega
  · exact h1
theorem small_len {l : List Nat} (h : ∀ x ∈ l, x < B64) : (digs 256 (val B64 l)).length ≤ 8 * l.length := by
  apply digs_length_le (by decide)
  have := val_lt h
  rw [← pow256, ← Nat.pow_mul] at this
  exact this
theorem valT_snoc (b : Nat) (o : List Nat) (r : Nat) : valT b (o ++ [r]) (o.length + 1) = valT b o o.length + b ^ o.length * r := by
  rw [valT]
  congr 1
  · exact valT_congr b _ _ _ (fun k hk => by simp [nth, List.getD, List.getElem?_append, hk])
  · simp [nth, List.getD]

/-- in the middle of a sum: carry cr -/
structure RaInv (w wr : World) (pv : Value) (xs ys o : List Nat) (i cr : Nat) : Prop where
  own : Own wr w.heap.size 3 .i64 pv o
  below : Below w.heap.size w wr
  len : o.length = i
  lt : ∀ x ∈ o, x < 256
  cr1 : cr ≤ 1
  top : xs.length < i → ys.length < i → cr = 0
  eq : valT 256 o i + 256 ^ i * cr = valT 256 xs i + valT 256 ys i
theorem RaInv.next {w wr w' : World} {pv v' : Value} {xs ys o : List Nat} {i cr : Nat} (h : RaInv w wr pv xs ys o i cr) (hx : ∀ x ∈ xs, x < 256) (hy : ∀ x ∈ ys, x < 256)
    (ho : Own w' w.heap.size 3 .i64 v' (o ++ [(cr + nth xs i + nth ys i) % 256])) (hb : Below w.heap.size w w') :
    RaInv w w' v' xs ys (o ++ [(cr + nth xs i + nth ys i) % 256]) (i + 1) ((cr + nth xs i + nth ys i) / 256) := by
  have b1 := getD_lt (b := 256) (by decide) hx i
  have b2 := getD_lt (b := 256) (by decide) hy i
  have hc := h.cr1
  refine ⟨ho, hb, by simp [h.len], ?_, by omega, ?_, ?_⟩
  · intro x hx
    rcases List.mem_append.1 hx with hx | hx
    · exact h.lt x hx
    · simp at hx; omega
  · intro h1 h2
    have e1 : nth xs i = 0 := by simp [nth, List.getD, show xs.length ≤ i by omega]
    have e2 : nth ys i = 0 := by simp [nth, List.getD, show ys.length ≤ i by omega]
    omega
  · have e := h.eq
    have s1 := valT_snoc 256 o ((cr + nth xs i + nth ys i) % 256)
    rw [h.len] at s1
    rw [s1, valT, valT, Nat.pow_succ]
    have d := Nat.div_add_mod (cr + nth xs i + nth ys i) 256
    generalize (cr + nth xs i + nth ys i) / 256 = q at *
    generalize (cr + nth xs i + nth ys i) % 256 = r at *
    generalize nth xs i = a at *
    generalize nth ys i = b at *
    generalize 256 ^ i = p at *
    clear h hx hy ho hb
    grind

set_option maxRecDepth 100000 in
set_option maxHeartbeats 4000000 in
theorem radd_any (w : World) (A B : Option Addr) (c d : Nat) (l m : List Nat) (hl : l.length ≤ 1000000) (hm : m.length ≤ 1000000) (ha : Rd w .u64 A l) (hb : Rd w .u64 B m)
    (hx : ∀ x ∈ l, x < B64) (hy : ∀ x ∈ m, x < B64) :
    Calls Tryd.prog 50 #[.slice A l.length c, .slice B m.length d] w (RetL .u64 (digs B64 (val B64 l + val B64 m)) w) := by
  have hlx := small_len hx; have hly := small_len hy
  have h1 := size_int
  have Hs1 := Lib.hid (small_any w A c l (by omega) ha hx)
  have Hb := Lib.hid hb; have Hy := Lib.hid hy
  clear ha hx hb hy
  go_enter Tryd.func50, Tryd.ntmps50
  go_wp2_with fail
  refine Hs1.out.mono ?_
  rintro e w1 ⟨A1, c1, rfl, -, hr1, hb1, -⟩
  have Hb1 := Lib.hid hb1; have Hr1 := Lib.hid hr1
  have Hs2 := Lib.hid (small_any w1 B d m (by omega) (Hb.out.below hb1 (Nat.le_refl _)) Hy.out)
  clear hb1 hr1 Hs1
  go_wp2_with fail
  refine Hs2.out.mono ?_
  rintro e w2 ⟨A2, c2, rfl, -, hr2, hb2, -⟩
  have hrx := Hr1.out.below hb2 (Nat.le_refl _)
  have Hb2 := Lib.hid (Hb1.out.trans (hb2.mono Hb1.out.size))
  have hsx := hrx.sl; have hsy := hr2.sl
  have Hrx := Lib.hid hrx; have Hry := Lib.hid hr2
  have Hxl := Lib.hid (digs_lt (b := 256) (by decide) (val B64 l)); have Hyl := Lib.hid (digs_lt (b := 256) (by decide) (val B64 m))
  have Hvx := Lib.hid (val_digs (b := 256) (by decide) (val B64 l)); have Hvy := Lib.hid (val_digs (b := 256) (by decide) (val B64 m))
  clear hr2 hb2 hrx Hs2
  have hlx2 : (digs 256 (val B64 l)).length ≤ 8000000 := by omega
  have hly2 : (digs 256 (val B64 m)).length ≤ 8000000 := by omega
  clear hlx hly
  generalize digs 256 (val B64 l) = xs at *
  generalize digs 256 (val B64 m) = ys at *
  go_wp2_with fail
  go_loopw [7, 8, 9] (fun pv cv iv wr => ∃ (i cr : Nat) (o : List Nat), i ≤ max xs.length ys.length + 1 ∧ iv = .int .i64 i ∧ cv = .int .i64 cr ∧ RaInv w2 wr pv xs ys o i cr) (fun _ _ iv _ => max xs.length ys.length + 2 - (intOf iv).toNat)
  case atStart => exact ⟨0, 0, [], by omega, rfl, rfl, Own.nil_ _ _ _ _, Below.refl _ _, rfl, by simp, by omega, fun _ _ => rfl, rfl⟩
  case round =>
    obtain ⟨i, cr, o, hi, rfl, rfl, hI⟩ := hrel
    have hc1 := hI.cr1
    have Hrx2 := Lib.hid (Hrx.out.below hI.below (Nat.le_refl _)); have Hry2 := Lib.hid (Hry.out.below hI.below (Nat.le_refl _))
    have hbx := getD_lt (b := 256) (by decide) Hxl.out i
    have hby := getD_lt (b := 256) (by decide) Hyl.out i
    have hil : i ≤ 8000001 := by omega
    obtain ⟨v', w', hrun, ho', hb', -, -⟩ := hI.own.app (P := Tryd.prog) (t := 86) Tryd.underlying86 info_int rfl ((cr + nth xs i + nth ys i) % 256) (by rw [hI.len]; omega) (by rw [hI.len]; simp only [maxLen]; omega) hI.below.size
    have Hrun := Lib.hid hrun
    have HN := Lib.hid (hI.next Hxl.out Hyl.out ho' (hI.below.trans hb'))
    have HT := Lib.hid hI.top
    have r1 : ((cr : Int) + (nth xs i : Int) + (nth ys i : Int)) % 256 = (((cr + nth xs i + nth ys i) % 256 : Nat) : Int) := by omega
    have r2 : ((cr : Int) + (nth xs i : Int) + (nth ys i : Int)) / 256 = (((cr + nth xs i + nth ys i) / 256 : Nat) : Int) := by omega
    clear hrun ho' hb'
    by_cases h1x : i < xs.length
    · have hcx := Hrx2.out.cell i h1x
      by_cases h1y : i < ys.length
      · have hcy := Hry2.out.cell i h1y
        clear hI
        generalize (cr + nth xs i + nth ys i) % 256 = rr at *
        generalize (cr + nth xs i + nth ys i) / 256 = qq at *
        generalize nth xs i = xx at *
        generalize nth ys i = yy at *
        go_wp2_with (at_builtin; refine wpList_append_eq rfl (.tmp 52) (.tmp 55) 86 _ _ _ rfl rfl rfl Hrun.out ?_)
        go_roundw
        case rel => exact ⟨i + 1, qq, _, by omega, by go_num, by first | rfl | rw [r2], HN.out⟩
        case measure => simp [intOf]; omega
      · have hy0 : nth ys i = 0 := by simp [nth, List.getD, show ys.length ≤ i by omega]
        rw [hy0] at r1 r2 Hrun HN
        rw [hy0] at hby
        simp only [Int.add_zero, Nat.add_zero, Int.cast_ofNat_Int] at r1 r2 Hrun HN
        clear hI hy0
        generalize (cr + nth xs i) % 256 = rr at *
        generalize (cr + nth xs i) / 256 = qq at *
        generalize nth xs i = xx at *
        go_wp2_with (at_builtin; refine wpList_append_eq rfl (.tmp 52) (.tmp 55) 86 _ _ _ rfl rfl rfl Hrun.out ?_)
        go_roundw
        case rel => exact ⟨i + 1, qq, _, by omega, by go_num, by first | rfl | rw [r2], HN.out⟩
        case measure => simp [intOf]; omega
    · have hx0 : nth xs i = 0 := by simp [nth, List.getD, show xs.length ≤ i by omega]
      rw [hx0] at r1 r2 Hrun HN hbx
      simp only [Int.add_zero, Nat.add_zero, Int.cast_ofNat_Int] at r1 r2 Hrun HN
      by_cases h1y : i < ys.length
      · have hcy := Hry2.out.cell i h1y
        clear hI hx0
        generalize (cr + nth ys i) % 256 = rr at *
        generalize (cr + nth ys i) / 256 = qq at *
        generalize nth ys i = yy at *
        go_wp2_with (at_builtin; refine wpList_append_eq rfl (.tmp 52) (.tmp 55) 86 _ _ _ rfl rfl rfl Hrun.out ?_)
        go_roundw
        case rel => exact ⟨i + 1, qq, _, by omega, by go_num, by first | rfl | rw [r2], HN.out⟩
        case measure => simp [intOf]; omega
      · have hy0 : nth ys i = 0 := by simp [nth, List.getD, show ys.length ≤ i by omega]
        rw [hy0] at r1 r2 Hrun HN hby
        simp only [Int.add_zero, Nat.add_zero, Int.cast_ofNat_Int] at r1 r2 Hrun HN
        by_cases hcr : 0 < cr
        · have hi2 : i + 1 ≤ max xs.length ys.length + 1 := by
            rcases Nat.lt_or_ge (max xs.length ys.length) i with h | h
            · have := HT.out (by omega) (by omega); omega
            · omega
          clear hI hx0 hy0
          generalize cr % 256 = rr at *
          generalize cr / 256 = qq at *
          go_wp2_with (at_builtin; refine wpList_append_eq rfl (.tmp 52) (.tmp 55) 86 _ _ _ rfl rfl rfl Hrun.out ?_)
          go_roundw
          case rel => exact ⟨i + 1, qq, _, by omega, by go_num, by first | rfl | rw [r2], HN.out⟩
          case measure => simp [intOf]; omega
        · have hcr0 : cr = 0 := by omega
          have Hval := Lib.hid (show val 256 o = val B64 l + val B64 m by
            have e := hI.eq
            rw [hcr0, Nat.mul_zero, Nat.add_zero] at e
            have hul := used_le xs; have hum := used_le ys
            rw [← Hvx.out, ← Hvy.out, ← valT_used 256 xs i (by omega), ← valT_used 256 ys i (by omega), ← e, ← hI.len, valT_all])
          obtain ⟨A3, c3, rfl, hc3, -, hr3, hf3⟩ := hI.own.form
          have Hlg := Lib.hid (large_any wr A3 c3 o (by rw [hI.len]; omega) hc3 hr3 hI.lt)
          rw [Hval.out] at Hlg
          have Hbl := Lib.hid hI.below
          clear hI hx0 hy0 hr3 hf3 hc3 r1 r2 HN Hrun
          go_wp2_with fail
          refine Hlg.out.mono ?_
          rintro e w4 ⟨A4, c4, rfl, hc4, hr4, hb4, hf4⟩
          have HC := Lib.hid hc4; have HR := Lib.hid hr4; have HB := Lib.hid hb4; have HF := Lib.hid hf4
          clear hc4 hr4 hb4 hf4
          go_wp2_with fail
          go_ret
          have hb5 := Hb2.out.trans (Hbl.out.mono Hb2.out.size)
          exact ⟨A4, c4, rfl, HC.out, HR.out, hb5.trans (HB.out.mono hb5.size), fun j hj => Nat.le_trans hb5.size (HF.out j hj)⟩

end Go.Proofs.YthffandpjjnkhaaDoor
