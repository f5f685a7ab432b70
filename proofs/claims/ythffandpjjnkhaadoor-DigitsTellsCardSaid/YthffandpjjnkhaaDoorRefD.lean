/-
  tripwireref01: Mul.
-/
import Derived.Test.YthffandpjjnkhaaDoorRefC
namespace Go.Proofs.YthffandpjjnkhaaDoor
open Go.RowKit

theorem val_set {b : Nat} : ∀ {l : List Nat} {p x : Nat}, p < l.length → val b (l.set p x) + b ^ p * nth l p = val b l + b ^ p * x := by
  intro l
  induction l with
  | nil => intro p x h; simp at h
  | cons a l ih =>
    intro p x h
    cases p with
    | zero => simp [val, nth]; omega
    | succ p =>
      have h2 := ih (p := p) (x := x) (by simpa using h)
      have e : nth (a :: l) (p + 1) = nth l p := by simp [nth, List.getD]
      rw [List.set_cons_succ, val, val, e, Nat.pow_succ]
      generalize val b (l.set p x) = u at *
      generalize val b l = v at *
      generalize nth l p = t at *
      generalize b ^ p = q at *
      clear ih h e
      grind

/-- within a round of a product: k digits are done, cr is carried -/
structure RmIn (w wr : World) (n i k cr V0 : Nat) (xs ys s : List Nat) : Prop where
  len : s.length = n
  lt : ∀ x ∈ s, x < 256
  blk : Blk wr w.heap.size 3 (ints .i64 s)
  below : Below w.heap.size w wr
  cr1 : cr ≤ 255
  eq : val 256 s + 256 ^ (i + k) * cr = V0 + 256 ^ i * (nth xs i * valT 256 ys k)
theorem RmIn.next {w wr : World} {n i k cr V0 t : Nat} {xs ys s : List Nat} (h : RmIn w wr n i k cr V0 xs ys s) (hx : ∀ x ∈ xs, x < 256) (hy : ∀ x ∈ ys, x < 256) (hp : i + k < n) (ht : t = nth s (i + k) + cr + nth xs i * nth ys k) (j : Nat) :
    RmIn w ((wr.drewN j).setCell ⟨w.heap.size, i + k, none⟩ (.int .i64 ((t % 256 : Nat) : Int))) n i (k + 1) (t / 256) V0 xs ys (s.set (i + k) (t % 256)) := by
  have b1 := getD_lt (b := 256) (by decide) hx i
  have b2 := getD_lt (b := 256) (by decide) hy k
  have b3 := getD_lt (b := 256) (by decide) h.lt (i + k)
  have b4 := h.cr1
  have b5 : nth xs i * nth ys k ≤ 255 * 255 := Nat.mul_le_mul (by omega) (by omega)
  refine ⟨by simp [h.len], set_lt h.lt _ _ (Nat.mod_lt _ (by decide)), ?_, (Below.drewN h.below j).setCell (Nat.le_refl _) _, by omega, ?_⟩
  · have := (h.blk.drewN j).set_ (i + k) (.int .i64 ((t % 256 : Nat) : Int))
    rw [ints_set] at this
    exact this
  · have e1 := val_set (b := 256) (l := s) (p := i + k) (x := t % 256) (by rw [h.len]; exact hp)
    have e2 := h.eq
    have e3 := Nat.div_add_mod t 256
    rw [← Nat.add_assoc, valT, Nat.pow_succ, Nat.pow_add]
    rw [Nat.pow_add] at e1 e2
    generalize val 256 (s.set (i + k) (t % 256)) = u at *
    generalize val 256 s = v at *
    generalize nth s (i + k) = p at *
    generalize nth xs i = a at *
    generalize nth ys k = b at *
    generalize valT 256 ys k = y at *
    generalize t / 256 = q at *
    generalize t % 256 = r at *
    generalize 256 ^ i = g at *
    generalize 256 ^ k = f at *
    clear h hx hy hp b1 b2 b3 b4 b5
    grind
/-- what is carried ends in time -/
theorem RmIn.top {w wr : World} {n i k cr V0 : Nat} {xs ys s : List Nat} (h : RmIn w wr n i k cr V0 xs ys s) (hV : V0 = valT 256 xs i * val 256 ys) (hx : ∀ x ∈ xs, x < 256) (hy : ∀ x ∈ ys, x < 256) (hk : ys.length ≤ k) (hc : 0 < cr) : k ≤ ys.length := by
  have e := h.eq
  have hu := used_le ys
  rw [valT_used 256 ys k (by omega), hV] at e
  have e2 : valT 256 xs i * val 256 ys + 256 ^ i * (nth xs i * val 256 ys) = valT 256 xs (i + 1) * val 256 ys := by rw [valT, Nat.add_mul, Nat.mul_assoc]
  rw [e2] at e
  have l1 := valT_lt (b := 256) (by decide) hx (i + 1)
  have l2 := val_lt hy
  have l3 : valT 256 xs (i + 1) * val 256 ys < 256 ^ (i + 1) * 256 ^ ys.length := Nat.mul_lt_mul'' l1 l2
  rw [← Nat.pow_add] at l3
  have l4 : 256 ^ (i + k) * 1 ≤ 256 ^ (i + k) * cr := Nat.mul_le_mul_left _ hc
  have l5 : 256 ^ (i + k) < 256 ^ (i + 1 + ys.length) := by
    generalize 256 ^ (i + k) = p1 at *
    generalize 256 ^ (i + 1 + ys.length) = p2 at *
    generalize valT 256 xs (i + 1) * val 256 ys = p3 at *
    omega
  have := (Nat.pow_lt_pow_iff_right (by decide)).1 l5
  omega
/-- between two rounds -/
structure RmOut (w wr : World) (n i : Nat) (xs ys s : List Nat) : Prop where
  len : s.length = n
  lt : ∀ x ∈ s, x < 256
  blk : Blk wr w.heap.size 3 (ints .i64 s)
  below : Below w.heap.size w wr
  eq : val 256 s = valT 256 xs i * val 256 ys
theorem RmIn.start {w wr : World} {n i : Nat} {xs ys s : List Nat} (h : RmOut w wr n i xs ys s) : RmIn w wr n i 0 0 (valT 256 xs i * val 256 ys) xs ys s :=
  ⟨h.len, h.lt, h.blk, h.below, by omega, by rw [h.eq]; simp [valT]⟩
theorem RmIn.done {w wr : World} {n i k : Nat} {xs ys s : List Nat} (h : RmIn w wr n i k 0 (valT 256 xs i * val 256 ys) xs ys s) (hk : ys.length ≤ k) : RmOut w wr n (i + 1) xs ys s := by
  refine ⟨h.len, h.lt, h.blk, h.below, ?_⟩
  have e := h.eq
  have hu := used_le ys
  rw [valT_used 256 ys k (by omega), Nat.mul_zero, Nat.add_zero] at e
  rw [e, valT, Nat.add_mul, Nat.mul_assoc]

set_option maxRecDepth 100000 in
set_option maxHeartbeats 4000000 in
theorem rmul_any (w : World) (A B : Option Addr) (c d : Nat) (l m : List Nat) (hl : l.length ≤ 500000) (hm : m.length ≤ 500000) (ha : Rd w .u64 A l) (hb : Rd w .u64 B m)
    (hx : ∀ x ∈ l, x < B64) (hy : ∀ x ∈ m, x < B64) :
    Calls Tryd.prog 51 #[.slice A l.length c, .slice B m.length d] w (RetL .u64 (digs B64 (val B64 l * val B64 m)) w) := by
  have hlx := small_len hx; have hly := small_len hy
  have h1 := size_int
  have Hs1 := Lib.hid (small_any w A c l (by omega) ha hx)
  have Hb := Lib.hid hb; have Hy := Lib.hid hy
  clear ha hx hb hy
  go_enter Tryd.func51, Tryd.ntmps51
  go_wp2_with fail
  refine Hs1.out.mono ?_
  rintro e w1 ⟨A1, c1, rfl, -, hr1, hb1, -⟩
  have Hb1 := Lib.hid hb1; have Hr1 := Lib.hid hr1
  have Hs2 := Lib.hid (small_any w1 B d m (by omega) (Hb.out.below hb1 (Nat.le_refl _)) Hy.out)
  clear hb1 hr1 Hs1
  go_wp2_with fail
  refine Hs2.out.mono ?_
  rintro e w2 ⟨A2, c2, rfl, -, hr2, hb2, -⟩
  have hrx := Hr1.out.below hb2 (Nat.le_refl _)
  have Hb2 := Lib.hid (Hb1.out.trans (hb2.mono Hb1.out.size))
  have hsx := hrx.sl; have hsy := hr2.sl
  have Hrx := Lib.hid hrx; have Hry := Lib.hid hr2
  have Hxl := Lib.hid (digs_lt (b := 256) (by decide) (val B64 l)); have Hyl := Lib.hid (digs_lt (b := 256) (by decide) (val B64 m))
  have Hvx := Lib.hid (val_digs (b := 256) (by decide) (val B64 l)); have Hvy := Lib.hid (val_digs (b := 256) (by decide) (val B64 m))
  clear hr2 hb2 hrx Hs2
  have hlx2 : (digs 256 (val B64 l)).length ≤ 4000000 := by omega
  have hly2 : (digs 256 (val B64 m)).length ≤ 4000000 := by omega
  clear hlx hly
  generalize digs 256 (val B64 l) = xs at *
  generalize digs 256 (val B64 m) = ys at *
  have hmk := fun W => run_make_row' (P := Tryd.prog) 86 3 (.int .i64 0) 8 Tryd.underlying86 info_int rfl .i64 .i64 (xs.length + ys.length + 1) (by omega) (by omega) W
  simp only [Int.natCast_add, Int.cast_ofNat_Int] at hmk
  go_wp2_with fail
  go_loopw [8] (fun iv wr => ∃ (i : Nat) (s : List Nat), i ≤ xs.length ∧ iv = .int .i64 i ∧ RmOut w2 wr (xs.length + ys.length + 1) i xs ys s) (fun iv _ => xs.length - (intOf iv).toNat)
  case atStart =>
    refine ⟨0, List.replicate (xs.length + ys.length + 1) 0, by omega, rfl, by simp, ?_, ?_, Below.of_alloc _ _, ?_⟩
    · intro x hx; rw [(List.mem_replicate.1 hx).2]; decide
    · rw [← ints_made]; exact Blk.new _ _ _
    · rw [val_replicate]; simp [valT]
  case round =>
    obtain ⟨i, s0, hi, rfl, hO⟩ := hrel
    obtain ⟨wo, rfl⟩ : ∃ wo : World, wo = wr := ⟨_, rfl⟩
    by_cases hlt : i < xs.length
    · have HO := Lib.hid hO
      clear hO
      go_wp2_with fail
      go_loopw [9, 10, 11] (fun cv kv _ wr => ∃ (k cr : Nat) (s : List Nat), k ≤ ys.length + 1 ∧ cv = .int .i64 cr ∧ kv = .int .i64 k ∧ RmIn w2 wr (xs.length + ys.length + 1) i k cr (valT 256 xs i * val 256 ys) xs ys s) (fun _ kv _ _ => ys.length + 2 - (intOf kv).toNat)
      case atStart => exact ⟨0, 0, s0, by omega, rfl, rfl, RmIn.start HO.out⟩
      case round =>
        obtain ⟨k, cr, s, hk, rfl, rfl, hI⟩ := hrel
        by_cases hgo : k < ys.length ∨ 0 < cr
        · have hkl : k ≤ ys.length := by
            rcases hgo with h | h
            · omega
            · rcases Nat.lt_or_ge k ys.length with h2 | h2
              · omega
              · exact hI.top rfl Hxl.out Hyl.out h2 h
          have hcell := hI.blk.cell (i + k)
          rw [ints_get .i64 s (i + k) (by rw [hI.len]; omega)] at hcell
          have hfz := hI.blk.frozen (i + k)
          have hcx := (Hrx.out.below hI.below (Nat.le_refl _)).cell i hlt
          have Hcy := Lib.hid (fun h => (Hry.out.below hI.below (Nat.le_refl _)).cell k h)
          have b1 := getD_lt (b := 256) (by decide) Hxl.out i
          have b2 := getD_lt (b := 256) (by decide) Hyl.out k
          have b3 := getD_lt (b := 256) (by decide) hI.lt (i + k)
          have b4 := hI.cr1
          have b5 : nth xs i * nth ys k ≤ 255 * 255 := Nat.mul_le_mul (by omega) (by omega)
          have HN := Lib.hid (fun j => hI.next Hxl.out Hyl.out (show i + k < xs.length + ys.length + 1 by omega) rfl j)
          clear hI
          by_cases hin : k < ys.length
          · have hcy := Hcy.out hin
            have i1 : (i : Int) < (xs.length : Int) := by omega
            have i2 : (k : Int) < (ys.length : Int) := by omega
            have r0 : ((nth xs i : Int) * (nth ys k : Int)) = ((nth xs i * nth ys k : Nat) : Int) := by rw [Int.natCast_mul]
            have r0' : IntKind.i64.wrap ((nth xs i : Int) * (nth ys k : Int)) = ((nth xs i * nth ys k : Nat) : Int) := by rw [r0, IntKind.wrap_i64]; omega
            have r3 : IntKind.i64.wrap ((nth s (i + k) : Int) + (cr : Int) + ((nth xs i * nth ys k : Nat) : Int)) = (nth s (i + k) : Int) + (cr : Int) + ((nth xs i * nth ys k : Nat) : Int) := by rw [IntKind.wrap_i64]; omega
            have r1 : ((nth s (i + k) : Int) + (cr : Int) + ((nth xs i * nth ys k : Nat) : Int)) % 256 = (((nth s (i + k) + cr + nth xs i * nth ys k) % 256 : Nat) : Int) := by omega
            have r2 : ((nth s (i + k) : Int) + (cr : Int) + ((nth xs i * nth ys k : Nat) : Int)) / 256 = (((nth s (i + k) + cr + nth xs i * nth ys k) / 256 : Nat) : Int) := by omega
            clear hgo
            generalize (nth s (i + k) + cr + nth xs i * nth ys k) % 256 = rr at *
            generalize (nth s (i + k) + cr + nth xs i * nth ys k) / 256 = qq at *
            generalize nth xs i * nth ys k = xy at *
            generalize nth xs i = xx at *
            generalize nth ys k = yy at *
            generalize nth s (i + k) = ss at *
            go_wp2_with fail
            go_quiet (fail)
            go_wp2_with fail
            go_roundw
            case rel => exact ⟨k + 1, qq, s.set (i + k) rr, by omega, by first | rfl | rw [r2], by go_num, HN.out _⟩
            case measure => simp [intOf]; omega
          · have hy0 : nth ys k = 0 := by simp [nth, List.getD, show ys.length ≤ k by omega]
            have hcr : 0 < cr := by omega
            rw [hy0, Nat.mul_zero, Nat.add_zero] at HN
            have HN0 := Lib.hid (HN.out 0)
            have r1 : ((nth s (i + k) : Int) + (cr : Int)) % 256 = (((nth s (i + k) + cr) % 256 : Nat) : Int) := by omega
            have r2 : ((nth s (i + k) : Int) + (cr : Int)) / 256 = (((nth s (i + k) + cr) / 256 : Nat) : Int) := by omega
            clear hgo hy0 Hcy b5 b2 HN
            generalize (nth s (i + k) + cr) % 256 = rr at *
            generalize (nth s (i + k) + cr) / 256 = qq at *
            generalize nth xs i = xx at *
            generalize nth s (i + k) = ss at *
            go_wp2_with fail
            go_roundw
            case rel => exact ⟨k + 1, qq, s.set (i + k) rr, by omega, by first | rfl | rw [r2], by go_num, HN0.out⟩
            case measure => simp [intOf]; omega
        · have hcr0 : cr = 0 := by omega
          have hk2 : ys.length ≤ k := by omega
          subst hcr0
          have HD := Lib.hid (hI.done hk2)
          clear hI hgo
          go_wp2_with fail
          go_roundw
          case rel => exact ⟨i + 1, s, by omega, by go_num, HD.out⟩
          case measure => simp [intOf]; omega
    · obtain rfl : i = xs.length := by omega
      have Hval := Lib.hid (show val 256 s0 = val B64 l * val B64 m by rw [hO.eq, valT_all, Hvx.out, Hvy.out])
      have Hlg := Lib.hid (large_any wo (some ⟨w2.heap.size, 0, none⟩) (xs.length + ys.length + 1) s0 (by rw [hO.len]; omega) (by rw [hO.len]; omega) (Rd.of_blk hO.blk) hO.lt)
      rw [Hval.out, hO.len] at Hlg
      have Hbl := Lib.hid hO.below
      clear hO hmk
      go_wp2_with fail
      refine Hlg.out.mono ?_
      rintro e w4 ⟨A4, c4, rfl, hc4, hr4, hb4, hf4⟩
      have HC := Lib.hid hc4; have HR := Lib.hid hr4; have HB := Lib.hid hb4; have HF := Lib.hid hf4
      clear hc4 hr4 hb4 hf4
      go_wp2_with fail
      go_ret
      have hb5 := Hb2.out.trans (Hbl.out.mono Hb2.out.size)
      exact ⟨A4, c4, rfl, HC.out, HR.out, hb5.trans (HB.out.mono hb5.size), fun j hj => Nat.le_trans hb5.size (HF.out j hj)⟩
end Go.Proofs.YthffandpjjnkhaaDoor
