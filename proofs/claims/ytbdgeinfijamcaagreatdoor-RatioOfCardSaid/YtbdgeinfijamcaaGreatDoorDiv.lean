/-
  math/bits.Div64.
-/
import Derived.Test.YtbdgeinfijamcaaGreatDoorLimD
import Derived.Test.YtbdgeinfijamcaaGreatDoorDivM
import Derived.Deep.DeepCutAuto
import Derived.Deep.CutBlock
namespace Go.Proofs.YtbdgeinfijamcaaGreatDoor
open Go.RowKit

theorem w64 (n : Nat) (h : n < B64) : IntKind.u64.wrap (n : Int) = (n : Int) := by
  simp only [B64] at h; rw [IntKind.wrap_u64]; omega
theorem B32_sq : B32 * B32 = B64 := by decide

/-- the numbers that Div64 reckons with, as the walk writes them -/
structure DivNums (hi lo y s v v1 v0 a b u32 u10 u1 u0 : Nat) : Prop where
  e1 : IntKind.u64.wrap (64 - (Lib.bitLen y : Int)) = (s : Int)
  e2 : min s 64 = s
  e3 : IntKind.u64.wrap ((y : Int) * 2 ^ s) = (v : Int)
  e4 : (v : Int) / 4294967296 = (v1 : Int)
  e5 : bits .and .u64 (v : Int) 4294967295 = (v0 : Int)
  e6 : IntKind.u64.wrap ((hi : Int) * 2 ^ s) = (a : Int)
  e7 : IntKind.u64.wrap (64 - (s : Int)) = ((64 - s : Nat) : Int)
  e8 : min (64 - s) 64 = 64 - s
  e9 : (lo : Int) / 2 ^ (64 - s) = (b : Int)
  e10 : bits .or .u64 (a : Int) (b : Int) = (u32 : Int)
  e11 : IntKind.u64.wrap ((lo : Int) * 2 ^ s) = (u10 : Int)
  e12 : (u10 : Int) / 4294967296 = (u1 : Int)
  e13 : bits .and .u64 (u10 : Int) 4294967295 = (u0 : Int)
  e14 : (u32 : Int).tdiv (v1 : Int) = ((u32 / v1 : Nat) : Int)
  e15 : IntKind.u64.wrap ((u32 / v1 : Nat) : Int) = ((u32 / v1 : Nat) : Int)
  e16 : IntKind.u64.wrap (((u32 / v1 : Nat) : Int) * (v1 : Int)) = ((u32 / v1 * v1 : Nat) : Int)
  e17 : IntKind.u64.wrap ((u32 : Int) - ((u32 / v1 * v1 : Nat) : Int)) = ((u32 % v1 : Nat) : Int)
  v1p : (((v1 : Int)) == 0) = false
theorem mask32 (n : Nat) (h : n < B64) : bits .and .u64 (n : Int) 4294967295 = ((n % B32 : Nat) : Int) := by
  have := u64_and_nat n 4294967295 h (by decide)
  rw [show ((4294967295 : Nat) : Int) = 4294967295 from rfl] at this
  rw [this]
  congr 1
  rw [show (4294967295 : Nat) = 2 ^ 32 - 1 by decide, Nat.and_two_pow_sub_one_eq_mod]
  rfl
theorem div_nums (hi lo y : Nat) (h1 : hi < y) (h2 : y < B64) (h3 : lo < B64) :
    ∃ s v v1 v0 a b u32 u10 u1 u0 : Nat, DivNums hi lo y s v v1 v0 a b u32 u10 u1 u0 ∧ v = v1 * B32 + v0 ∧ v0 < B32 ∧ 0 < v1 ∧ v1 < B32 ∧ v < B64 ∧ u32 < v ∧ u1 < B32 ∧ u0 < B32 ∧ v = y * 2 ^ s ∧ u32 * B64 + (u1 * B32 + u0) = (hi * B64 + lo) * 2 ^ s ∧ s ≤ 63 := by
  obtain ⟨n1, n2, n3, n4, n5, n6, n7, n8, n9⟩ := norm_up hi lo y h1 h2 h3
  generalize hs : 64 - Lib.bitLen y = s at *
  obtain ⟨v, hv⟩ : ∃ v, v = y * 2 ^ s := ⟨_, rfl⟩
  obtain ⟨b, hb⟩ : ∃ b, b = lo / 2 ^ (64 - s) := ⟨_, rfl⟩
  obtain ⟨a, ha⟩ : ∃ a, a = hi * 2 ^ s := ⟨_, rfl⟩
  obtain ⟨t, ht⟩ : ∃ t, t = lo * 2 ^ s := ⟨_, rfl⟩
  have c : ∀ x k : Nat, (x : Int) * 2 ^ k = ((x * 2 ^ k : Nat) : Int) := fun x k => by simp
  have c' : ∀ x k : Nat, (x : Int) / 2 ^ k = ((x / 2 ^ k : Nat) : Int) := fun x k => by simp
  rw [← hv] at n3 n4 n8
  rw [← ha] at n5 n7 n8 n9
  rw [← hb] at n6 n7 n8 n9
  have hv64 : v < B64 := n3
  have hu : (a + b) < B64 := Nat.lt_trans n8 hv64
  have ht2 : t % B64 < B64 := Nat.mod_lt _ B64_pos
  have p : 2147483648 ≤ v / B32 := by simp only [B32]; omega
  have hvp : 0 < v / B32 := by omega
  have q1 : (a + b) / (v / B32) ≤ a + b := Nat.div_le_self _ _
  have q2 : (a + b) / (v / B32) * (v / B32) ≤ a + b := Nat.div_mul_le_self _ _
  have q3 := Nat.div_add_mod (a + b) (v / B32)
  rw [Nat.mul_comm] at q3
  refine ⟨s, v, v / B32, v % B32, a, b, a + b, t % B64, t % B64 / B32, t % B64 % B32, ?_, ?_, ?_, hvp, ?_, hv64, n8, ?_, ?_, hv, ?_, n1⟩
  · refine ⟨?_, by omega, ?_, ?_, mask32 v hv64, ?_, ?_, by omega, ?_, ?_, ?_, ?_, mask32 _ ht2, ?_, ?_, ?_, ?_, ?_⟩
    · rw [IntKind.wrap_u64]; omega
    · rw [c, ← hv]; exact w64 v hv64
    · simp only [B32]; omega
    · rw [c, ← ha]; exact w64 a n5
    · rw [IntKind.wrap_u64]; omega
    · rw [c', ← hb]
    · rw [u64_or_nat a b n5 n6, n7]
    · rw [c, ← ht, IntKind.wrap_u64]; simp only [B64]; omega
    · simp only [B32]; omega
    · rw [Int.tdiv_eq_ediv_of_nonneg (by omega)]; rfl
    · exact w64 _ (by omega)
    · rw [← Int.natCast_mul]; exact w64 _ (by omega)
    · rw [← Int.ofNat_sub q2]
      rw [show a + b - (a + b) / (v / B32) * (v / B32) = (a + b) % (v / B32) by omega]
      exact w64 _ (by have := Nat.mod_le (a + b) (v / B32); omega)
    · simp only [beq_eq_false_iff_ne]; omega
  · have := Nat.div_add_mod v B32; rw [Nat.mul_comm] at this; omega
  · exact Nat.mod_lt _ (by decide)
  · simp only [B32, B64] at *; omega
  · simp only [B32, B64] at *; omega
  · exact Nat.mod_lt _ (by decide)
  · have e := Nat.div_add_mod (t % B64) B32
    rw [Nat.mul_comm] at e
    rw [e, ht]
    exact n9

-- THE WALK

/-- the numbers of the test whether a guess is too high -/
theorem test_nums (q v0 r u1 : Nat) (h1 : q < B32) (h2 : v0 < B32) (h3 : r < B32) (h4 : u1 < B32) :
    ∃ z1 z2 z3 : Nat, IntKind.u64.wrap ((q : Int) * (v0 : Int)) = (z1 : Int) ∧ IntKind.u64.wrap (4294967296 * (r : Int)) = (z2 : Int) ∧ IntKind.u64.wrap ((z2 : Int) + (u1 : Int)) = (z3 : Int) ∧ z1 = q * v0 ∧ z3 = B32 * r + u1 := by
  have h5 : q * v0 ≤ (B32 - 1) * (B32 - 1) := Nat.mul_le_mul (by omega) (by omega)
  simp only [B32] at *
  refine ⟨q * v0, 4294967296 * r, 4294967296 * r + u1, ?_, ?_, ?_, rfl, rfl⟩
  · rw [← Int.natCast_mul]; exact w64 _ (by simp only [B64]; omega)
  · rw [show (4294967296 : Int) * (r : Int) = ((4294967296 * r : Nat) : Int) by simp]; exact w64 _ (by simp only [B64]; omega)
  · rw [← Int.natCast_add]; exact w64 _ (by simp only [B64]; omega)
/-- the numbers of what is left of a digit -/
theorem left_nums (u32 u1 v q r : Nat) (hv : 0 < v) (hv2 : v < B64) (hq : q = (u32 * B32 + u1) / v) (hr : r = (u32 * B32 + u1) % v) :
    ∃ M1 M2 M3 : Nat, IntKind.u64.wrap ((u32 : Int) * 4294967296) = (M1 : Int) ∧ IntKind.u64.wrap ((M1 : Int) + (u1 : Int)) = (M2 : Int) ∧ IntKind.u64.wrap ((q : Int) * (v : Int)) = (M3 : Int) ∧ IntKind.u64.wrap ((M2 : Int) - (M3 : Int)) = (r : Int) := by
  have e := Nat.div_add_mod (u32 * B32 + u1) v
  have l : r < v := by rw [hr]; exact Nat.mod_lt _ hv
  rw [← hq, ← hr, Nat.mul_comm] at e
  refine ⟨u32 * B32 % B64, (u32 * B32 + u1) % B64, q * v % B64, ?_, ?_, ?_, ?_⟩
  · rw [IntKind.wrap_u64]; simp only [B32, B64]; omega
  · rw [IntKind.wrap_u64]; simp only [B32, B64]; omega
  · rw [← Int.natCast_mul, IntKind.wrap_u64]; simp only [B64]; omega
  · rw [IntKind.wrap_u64]
    generalize q * v = z at *
    generalize u32 * B32 = x at *
    simp only [B64] at *
    omega
/-- the numbers of a first guess -/
theorem guess_nums (u v1 : Nat) (_ : 0 < v1) (hu : u < B64) :
    ∃ Q P R : Nat, (u : Int) / (v1 : Int) = (Q : Int) ∧ (u : Int).tdiv (v1 : Int) = (Q : Int) ∧ IntKind.u64.wrap (Q : Int) = (Q : Int) ∧ IntKind.u64.wrap ((Q : Int) * (v1 : Int)) = (P : Int) ∧ IntKind.u64.wrap ((u : Int) - (P : Int)) = (R : Int) ∧ Q = u / v1 ∧ R = u % v1 := by
  have q1 : u / v1 ≤ u := Nat.div_le_self _ _
  have q2 : u / v1 * v1 ≤ u := Nat.div_mul_le_self _ _
  have q3 := Nat.div_add_mod u v1
  have q4 := Nat.mod_le u v1
  rw [Nat.mul_comm] at q3
  refine ⟨u / v1, u / v1 * v1, u % v1, rfl, ?_, w64 _ (by omega), ?_, ?_, rfl, rfl⟩
  · rw [Int.tdiv_eq_ediv_of_nonneg (by omega)]; rfl
  · rw [← Int.natCast_mul]; exact w64 _ (by omega)
  · rw [← Int.ofNat_sub q2, show u - u / v1 * v1 = u % v1 by omega]; exact w64 _ (by omega)

set_option maxRecDepth 100000 in
set_option maxHeartbeats 4000000 in
theorem div64_pos (hi lo y : Nat) (w : World) (h1 : hi < y) (h2 : y < B64) (h3 : lo < B64) (h4 : 0 < hi) :
    Calls Tryz.prog 184 #[.int .u64 hi, .int .u64 lo, .int .u64 y] w fun e w' => e = .returned (.tuple #[.int .u64 (((hi * B64 + lo) / y : Nat) : Int), .int .u64 (((hi * B64 + lo) % y : Nat) : Int)]) ∧ w = w' := by
  have g1 : ((y : Int) == 0) = false := by simp; omega
  have g2 : ((hi : Int) == 0) = false := by simp; omega
  have g3 : ¬ y ≤ hi := by omega
  have hlz := Lib.hid (Tryz.bits_LeadingZeros64 y w (by omega) (by simp only [B64] at h2; omega))
  obtain ⟨s, v, v1, v0, a, b, u32, u10, u1, u0, hN, hv, hv0l, hv1p, hv1l, hv64, hult, hu1l, hu0l, hvs, hU, hs63⟩ := div_nums hi lo y h1 h2 h3
  obtain ⟨e1, e2, e3, e4, e5, e6, e7, e8, e9, e10, e11, e12, e13, -, -, -, -, e18⟩ := hN
  have hs0 : 0 ≤ (s : Int) := by omega
  have hs1 : 0 ≤ ((64 - s : Nat) : Int) := by omega
  have hvp : 0 < v := by omega
  have hu64 : u32 < B64 := by omega
  have hlt1 : u32 < v1 * B32 + v0 := by omega
  obtain ⟨Q1, hQ1⟩ : ∃ Q, Q = (u32 * B32 + u1) / v := ⟨_, rfl⟩
  obtain ⟨R1, hR1⟩ : ∃ R, R = (u32 * B32 + u1) % v := ⟨_, rfl⟩
  obtain ⟨Q0, hQ0⟩ : ∃ Q, Q = (R1 * B32 + u0) / v := ⟨_, rfl⟩
  obtain ⟨R0, hR0⟩ : ∃ R, R = (R1 * B32 + u0) % v := ⟨_, rfl⟩
  have hR1v : R1 < v := by rw [hR1]; exact Nat.mod_lt _ hvp
  have hR0v : R0 < v := by rw [hR0]; exact Nat.mod_lt _ hvp
  have hlt0 : R1 < v1 * B32 + v0 := by omega
  obtain ⟨M1, M2, M3, m1, m2, m3, m4⟩ := left_nums u32 u1 v Q1 R1 hvp hv64 hQ1 hR1
  obtain ⟨N1, N2, N3, n1, n2, n3, n4⟩ := left_nums R1 u0 v Q0 R0 hvp hv64 hQ0 hR0
  obtain ⟨A1, P1, C1, a1, a1', a2, a3, a4, A1e, C1e⟩ := guess_nums u32 v1 hv1p hu64
  obtain ⟨A0, P0, C0, b1, b1', b2, b3, b4, A0e, C0e⟩ := guess_nums R1 v1 hv1p (by omega)
  have hq1l : Q1 < B32 := by rw [hQ1, hv]; exact QInv.quot_lt hu1l hlt1
  have hq0l : Q0 < B32 := by rw [hQ0, hv]; exact QInv.quot_lt hu0l hlt0
  obtain ⟨td1, td2⟩ := two_digits (u32 := u32) (u1 := u1) (u0 := u0) hvp hu0l
  rw [← hQ1, ← hR1, ← hQ0, B32_sq, hU, hvs, (div_up (Nat.two_pow_pos s)).1] at td1
  rw [← hR1, ← hR0, B32_sq, hU, hvs] at td2
  have hrem : R0 / 2 ^ s = (hi * B64 + lo) % y := by rw [td2, (div_up (Nat.two_pow_pos s)).2]
  have f1 : IntKind.u64.wrap ((Q1 : Int) * 4294967296) = ((Q1 * B32 : Nat) : Int) := by
    rw [show (Q1 : Int) * 4294967296 = ((Q1 * B32 : Nat) : Int) by simp [B32]]; exact w64 _ (by simp only [B32, B64] at *; omega)
  have f2 : IntKind.u64.wrap (((Q1 * B32 : Nat) : Int) + (Q0 : Int)) = (((hi * B64 + lo) / y : Nat) : Int) := by
    rw [← Int.natCast_add, td1]; exact w64 _ (by rw [← td1]; simp only [B32, B64] at *; omega)
  have f3 : (R0 : Int) / 2 ^ s = (((hi * B64 + lo) % y : Nat) : Int) := by rw [← hrem]; simp
  have I1 : Hid (A1 < B64 ∧ QInv u32 u1 v1 v0 A1 C1) := ⟨by rw [A1e]; exact Nat.lt_of_le_of_lt (Nat.div_le_self _ _) hu64, by rw [A1e, C1e]; exact QInv.start hu1l hv0l hv1p hlt1⟩
  have I0 : Hid (A0 < B64 ∧ QInv R1 u0 v1 v0 A0 C0) := ⟨by rw [A0e]; exact Nat.lt_of_le_of_lt (Nat.div_le_self _ _) (by omega), by rw [A0e, C0e]; exact QInv.start hu0l hv0l hv1p hlt0⟩
  have hC1 : C1 < B32 := by rw [C1e]; exact Nat.lt_trans (Nat.mod_lt _ hv1p) hv1l
  have hC0 : C0 < B32 := by rw [C0e]; exact Nat.lt_trans (Nat.mod_lt _ hv1p) hv1l
  rw [hv] at hQ1 hQ0
  have HQ1 := Lib.hid hQ1; have HQ0 := Lib.hid hQ0
  clear hv hvs hU hQ1 hQ0 hR1 hR0 A1e C1e A0e C0e td1 td2 hrem
  generalize (hi * B64 + lo) / y = RQ at *
  generalize (hi * B64 + lo) % y = RR at *
  generalize Q1 * B32 = T1 at *
  go_enter Tryz.func184, Tryz.ntmps184
  go_wp2_with fail
  refine hlz.out.mono ?_
  rintro e w' ⟨rfl, hw'⟩
  have hw2 := hw'.symm; subst hw2
  rw [Int.toNat_natCast]
  clear hlz
  go_upto_block 0 with fail
  go_cut [15] (fun qv wx => qv = .int .u64 (Q1 : Nat) ∧ w = wx)
  case first =>
    go_wp2_with fail
    go_loop [15, 16] (fun qv rv => ∃ (q r : Nat), qv = .int .u64 q ∧ rv = .int .u64 r ∧ r < B32 ∧ Hid (q < B64) ∧ QInv u32 u1 v1 v0 q r) (fun qv _ => (intOf qv).toNat)
    case atStart => exact ⟨_, _, rfl, rfl, hC1, I1.out.1, I1.out.2⟩
    case round =>
      obtain ⟨q, r, rfl, rfl, hr, hq64, hI⟩ := hrel
      by_cases hbig : B32 ≤ q ∨ B32 * r + u1 < q * v0
      · obtain ⟨hq1, hN⟩ := hI.next hbig
        have hw1 : IntKind.u64.wrap ((q : Int) - 1) = ((q - 1 : Nat) : Int) := by
          rw [show (q : Int) - 1 = ((q - 1 : Nat) : Int) by omega]; exact w64 _ (by have := hq64.out; omega)
        have hw2 : IntKind.u64.wrap ((r : Int) + (v1 : Int)) = ((r + v1 : Nat) : Int) := by
          rw [← Int.natCast_add]; exact w64 _ (by simp only [B32, B64] at *; omega)
        have hfin : Hid (B32 ≤ r + v1 → q - 1 = Q1) := fun h => (hN.broke h).trans HQ1.out.symm
        have HN := Lib.hid hN
        have hq2 : Hid (q - 1 < B64) := by have := hq64.out; show _ < _; omega
        have Hm := Lib.hid (show (intOf (.int .u64 ((q - 1 : Nat) : Int))).toNat < (intOf (.int .u64 (q : Int))).toNat by simp [intOf]; omega)
        by_cases hge : B32 ≤ q
        · have ht1 : decide ((4294967296 : Int) ≤ (q : Int)) = true := by simp only [B32] at hge; simp; omega
          clear hbig hge hI hN
          by_cases hbr : B32 ≤ r + v1
          · have Hq := Lib.hid (hfin.out hbr)
            have ht2 : decide ((4294967296 : Int) ≤ ((r + v1 : Nat) : Int)) = true := by simp only [B32] at hbr; simp; omega
            clear hbr
            generalize r + v1 = r1 at *
            generalize q - 1 = q1 at *
            go_wp2_with fail
            go_meet
            exact ⟨by rw [Hq.out], rfl⟩
          · have ht2 : decide ((4294967296 : Int) ≤ ((r + v1 : Nat) : Int)) = false := by simp only [B32] at hbr; simp; omega
            have hr1 : r + v1 < B32 := by omega
            clear hbr
            generalize r + v1 = r1 at *
            generalize q - 1 = q1 at *
            go_wp2_with fail
            go_round
            case rel => exact ⟨q1, r1, rfl, rfl, hr1, hq2, HN.out⟩
            case measure => exact Hm.out
        · have ht1 : decide ((4294967296 : Int) ≤ (q : Int)) = false := by simp only [B32] at hge; simp; omega
          have hgt : B32 * r + u1 < q * v0 := by omega
          obtain ⟨z1, z2, z3, n1, n2, n3, z1e, z3e⟩ := test_nums q v0 r u1 (by omega) hI.v0l hr hI.one
          have ht3 : z3 < z1 := by rw [z1e, z3e]; exact hgt
          clear hbig hge hgt z1e z3e hI hN
          by_cases hbr : B32 ≤ r + v1
          · have Hq := Lib.hid (hfin.out hbr)
            have ht2 : decide ((4294967296 : Int) ≤ ((r + v1 : Nat) : Int)) = true := by simp only [B32] at hbr; simp; omega
            clear hbr
            generalize r + v1 = r1 at *
            generalize q - 1 = q1 at *
            go_wp2_with fail
            go_meet
            exact ⟨by rw [Hq.out], rfl⟩
          · have ht2 : decide ((4294967296 : Int) ≤ ((r + v1 : Nat) : Int)) = false := by simp only [B32] at hbr; simp; omega
            have hr1 : r + v1 < B32 := by omega
            clear hbr
            generalize r + v1 = r1 at *
            generalize q - 1 = q1 at *
            go_wp2_with fail
            go_round
            case rel => exact ⟨q1, r1, rfl, rfl, hr1, hq2, HN.out⟩
            case measure => exact Hm.out
      · have ht1 : decide ((4294967296 : Int) ≤ (q : Int)) = false := by simp only [B32] at hbig; simp; omega
        obtain ⟨z1, z2, z3, n1, n2, n3, z1e, z3e⟩ := test_nums q v0 r u1 (by omega) hI.v0l hr hI.one
        have ht3 : ¬ z3 < z1 := by rw [z1e, z3e]; omega
        have Hq := Lib.hid ((hI.exact (by omega)).trans HQ1.out.symm)
        clear hbig z1e z3e hI
        go_wp2_with fail
        go_meet
        exact ⟨by rw [Hq.out], rfl⟩
  case rest =>
    obtain ⟨rfl, rfl⟩ := hcut
    go_upto_block 2 with fail
    go_cut [18] (fun qv wx => qv = .int .u64 (Q0 : Nat) ∧ w = wx)
    case first =>
      go_wp2_with fail
      go_loop [18, 16] (fun qv rv => ∃ (q r : Nat), qv = .int .u64 q ∧ rv = .int .u64 r ∧ r < B32 ∧ Hid (q < B64) ∧ QInv R1 u0 v1 v0 q r) (fun qv _ => (intOf qv).toNat)
      case atStart => exact ⟨_, _, rfl, rfl, hC0, I0.out.1, I0.out.2⟩
      case round =>
        obtain ⟨q, r, rfl, rfl, hr, hq64, hI⟩ := hrel
        by_cases hbig : B32 ≤ q ∨ B32 * r + u0 < q * v0
        · obtain ⟨hq1, hN⟩ := hI.next hbig
          have hw1 : IntKind.u64.wrap ((q : Int) - 1) = ((q - 1 : Nat) : Int) := by
            rw [show (q : Int) - 1 = ((q - 1 : Nat) : Int) by omega]; exact w64 _ (by have := hq64.out; omega)
          have hw2 : IntKind.u64.wrap ((r : Int) + (v1 : Int)) = ((r + v1 : Nat) : Int) := by
            rw [← Int.natCast_add]; exact w64 _ (by simp only [B32, B64] at *; omega)
          have hfin : Hid (B32 ≤ r + v1 → q - 1 = Q0) := fun h => (hN.broke h).trans HQ0.out.symm
          have HN := Lib.hid hN
          have hq2 : Hid (q - 1 < B64) := by have := hq64.out; show _ < _; omega
          have Hm := Lib.hid (show (intOf (.int .u64 ((q - 1 : Nat) : Int))).toNat < (intOf (.int .u64 (q : Int))).toNat by simp [intOf]; omega)
          by_cases hge : B32 ≤ q
          · have ht1 : decide ((4294967296 : Int) ≤ (q : Int)) = true := by simp only [B32] at hge; simp; omega
            clear hbig hge hI hN
            by_cases hbr : B32 ≤ r + v1
            · have Hq := Lib.hid (hfin.out hbr)
              have ht2 : decide ((4294967296 : Int) ≤ ((r + v1 : Nat) : Int)) = true := by simp only [B32] at hbr; simp; omega
              clear hbr
              generalize r + v1 = r1 at *
              generalize q - 1 = q1 at *
              go_wp2_with fail
              go_meet
              exact ⟨by rw [Hq.out], rfl⟩
            · have ht2 : decide ((4294967296 : Int) ≤ ((r + v1 : Nat) : Int)) = false := by simp only [B32] at hbr; simp; omega
              have hr1 : r + v1 < B32 := by omega
              clear hbr
              generalize r + v1 = r1 at *
              generalize q - 1 = q1 at *
              go_wp2_with fail
              go_round
              case rel => exact ⟨q1, r1, rfl, rfl, hr1, hq2, HN.out⟩
              case measure => exact Hm.out
          · have ht1 : decide ((4294967296 : Int) ≤ (q : Int)) = false := by simp only [B32] at hge; simp; omega
            have hgt : B32 * r + u0 < q * v0 := by omega
            obtain ⟨z1, z2, z3, n1, n2, n3, z1e, z3e⟩ := test_nums q v0 r u0 (by omega) hI.v0l hr hI.one
            have ht3 : z3 < z1 := by rw [z1e, z3e]; exact hgt
            clear hbig hge hgt z1e z3e hI hN
            by_cases hbr : B32 ≤ r + v1
            · have Hq := Lib.hid (hfin.out hbr)
              have ht2 : decide ((4294967296 : Int) ≤ ((r + v1 : Nat) : Int)) = true := by simp only [B32] at hbr; simp; omega
              clear hbr
              generalize r + v1 = r1 at *
              generalize q - 1 = q1 at *
              go_wp2_with fail
              go_meet
              exact ⟨by rw [Hq.out], rfl⟩
            · have ht2 : decide ((4294967296 : Int) ≤ ((r + v1 : Nat) : Int)) = false := by simp only [B32] at hbr; simp; omega
              have hr1 : r + v1 < B32 := by omega
              clear hbr
              generalize r + v1 = r1 at *
              generalize q - 1 = q1 at *
              go_wp2_with fail
              go_round
              case rel => exact ⟨q1, r1, rfl, rfl, hr1, hq2, HN.out⟩
              case measure => exact Hm.out
        · have ht1 : decide ((4294967296 : Int) ≤ (q : Int)) = false := by simp only [B32] at hbig; simp; omega
          obtain ⟨z1, z2, z3, n1, n2, n3, z1e, z3e⟩ := test_nums q v0 r u0 (by omega) hI.v0l hr hI.one
          have ht3 : ¬ z3 < z1 := by rw [z1e, z3e]; omega
          have Hq := Lib.hid ((hI.exact (by omega)).trans HQ0.out.symm)
          clear hbig z1e z3e hI
          go_wp2_with fail
          go_meet
          exact ⟨by rw [Hq.out], rfl⟩
    case rest =>
      obtain ⟨rfl, rfl⟩ := hcut
      go_wp2_with fail
      go_ret2
      exact ⟨rfl, rfl⟩

end Go.Proofs.YtbdgeinfijamcaaGreatDoor
