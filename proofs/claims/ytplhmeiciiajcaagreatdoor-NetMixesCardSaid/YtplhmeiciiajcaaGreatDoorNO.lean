/-
 Sorting a list of at most 1000 that rises already: nothing moves. sparse.Norm of a rising list of at most 1000. lower: copied, numbers, same. lower.same. The plain law of Conv: which input a kernel's number falls on; what a row is. lower.spot: a row of a picture. lower.sums: the Affine of a Conv.
-/
import Derived.Test.YtplhmeiciiajcaaGreatDoorSS
import Derived.Test.YtplhmeiciiajcaaGreatDoorSV
import Derived.Test.YtplhmeiciiajcaaGreatDoorNH
import Derived.Test.YtplhmeiciiajcaaGreatDoorV18
namespace Go.Proofs.YtplhmeiciiajcaaGreatDoor
set_option maxHeartbeats 4000000
open Go.RowKit

set_option maxRecDepth 100000 in
theorem symm_l (w : World) (ok : TeV → World → Prop) (hok : ∀ p W, ok p W → Rests W (· < W.heap.size) (ok p)) (A : Option Addr) (c : Nat) (ts : List TeV) (h : LsR 5 tecells ok A ts w) (hl : ts.length ≤ 1000000) (hr : Rise ts) (a m b : Nat) (hm : m = a + 1) (hmb : m < b) (hb : b ≤ ts.length) :
 Calls Tryz.prog 238 #[.slice A ts.length c, .int .i64 (a : Int), .int .i64 (m : Int), .int .i64 (b : Int), .func (.func 212) #[] #[]] w fun e w' => e = .returned (.tuple #[]) ∧ Below w.heap.size w w' := by
 have sl1 := h.sl
 have hsz1 := size_terms
 have hadd := adr_add
 have HE := Lib.hid (Env.start (h.old hok))
 have HR := Lib.hid hr
 clear h hr
 have hd1 : IntKind.i64.wrap ((m : Int) - (a : Int)) = 1 := by rw [IntKind.wrap_i64]; omega
 have hd2 : IntKind.i64.wrap ((m : Int) - 1) = (a : Int) := by rw [IntKind.wrap_i64]; omega
 have Hm := Lib.hid hm
 clear hm
 go_enter Tryz.func238, Tryz.ntmps238
 go_wp2_with fail
 go_loopw [10, 11, 12] (fun iv jv xv wr => ∃ (j : Nat) (x : Value), iv = .int .i64 (m : Int) ∧ jv = .int .i64 (j : Int) ∧ xv = x ∧ m ≤ j ∧ j ≤ b ∧ Hid (Env w [] (fun V => LsR 5 tecells ok A ts V) (fun _ => True) wr)) (fun _ jv _ _ => (intOf jv).toNat)
 case atStart => exact ⟨b, _, rfl, rfl, rfl, by omega, Nat.le_refl _, HE⟩
 case round =>
  clear HE
  obtain ⟨j, x, rfl, rfl, rfl, hj1, hj2, HE⟩ := hrel
  by_cases hlt : m < j
  ·have hlt' : (m : Int) < (j : Int) := by omega
   have ha := Hm.out
   obtain ⟨k, hk⟩ : ∃ k, (m + j) / 2 = k := ⟨_, rfl⟩
   have hki : ((m : Int) + (j : Int)) / 2 = (k : Int) := by omega
   have hk1 : m ≤ k := by omega
   have hk2 : k < j := by omega
   have hi1 : ((k : Nat) : Int) < (ts.length : Int) := by omega
   have hi2 : ((a : Nat) : Int) < (ts.length : Int) := by omega
   have hi3 : k < ts.length := by omega
   have hi4 : a < ts.length := by omega
   have Hx := Lib.hid (fun (V : World) (h : LsR 5 tecells ok A ts V) => And.intro (h.tc (k) (by omega)) (h.tc (a) (by omega)))
   have hcmp : cmpI (ts[k]'(by omega)).pl (ts[a]'(by omega)).pl = 1 := by
    have h1 := HR.out.at_ (i := a) (j := k) (by omega) (by omega)
    unfold cmpI
    rw [if_neg (by omega), if_pos h1]
   generalize (ts[k]'(by omega)) = t at *
   generalize (ts[a]'(by omega)) = u at *
   have c := Hx.out _ HE.out.o
   clear ha
   go_upto_region 5 with fail
   go_region_held3 (fun W => TC A (k) t W ∧ TC A (a) u W) (first | with_reducible exact c | ((repeat' apply And.intro) <;> go_keep) | exact c)
    (first
     | (go_at_call 212; go_must (refine (norm1_any _ t u).mono ?_; rintro e w1 ⟨rfl, hb⟩; replace HE := Lib.hid (Env.cx HE.out hb); replace c := Hx.out _ HE.out.o; clear hb; rw [hcmp])))
   go_wp2_with fail
   go_roundw
   case rel => exact ⟨k, _, rfl, rfl, rfl, by omega, by omega, HE⟩
   case measure => (simp [intOf] <;> omega)
  ·obtain rfl : j = m := by omega
   go_wp2_with fail
   go_loopw [13] (fun kv wr => kv = .int .i64 (a : Int) ∧ Hid (Env w [] (fun V => LsR 5 tecells ok A ts V) (fun _ => True) wr)) (fun _ _ => 0)
   case atStart => exact ⟨rfl, HE⟩
   case round =>
    clear HE
    obtain ⟨rfl, HE⟩ := hrel
    go_wp2_with fail
    refine bodyPost_ret (results_none rfl _ _ _) rfl ?_
    exact ⟨rfl, HE.out.bel⟩
set_option maxRecDepth 100000 in
theorem symm_r (w : World) (ok : TeV → World → Prop) (hok : ∀ p W, ok p W → Rests W (· < W.heap.size) (ok p)) (A : Option Addr) (c : Nat) (ts : List TeV) (h : LsR 5 tecells ok A ts w) (hl : ts.length ≤ 1000000) (hr : Rise ts) (a m b : Nat) (ham : a + 1 < m) (hbm : b = m + 1) (hb : b ≤ ts.length) :
 Calls Tryz.prog 238 #[.slice A ts.length c, .int .i64 (a : Int), .int .i64 (m : Int), .int .i64 (b : Int), .func (.func 212) #[] #[]] w fun e w' => e = .returned (.tuple #[]) ∧ Below w.heap.size w w' := by
 have sl1 := h.sl
 have hsz1 := size_terms
 have hadd := adr_add
 have HE := Lib.hid (Env.start (h.old hok))
 have HR := Lib.hid hr
 clear h hr
 obtain ⟨x1, hx1⟩ : ∃ x, IntKind.i64.wrap ((m : Int) - (a : Int)) = x := ⟨_, rfl⟩
 have hx2 : ¬ x1 = 1 := by rw [← hx1, IntKind.wrap_i64]; omega
 have hx3 : (x1 == 1) = false := by simp [hx2]
 have hd2 : IntKind.i64.wrap ((b : Int) - (m : Int)) = 1 := by rw [IntKind.wrap_i64]; omega
 have Hm := Lib.hid hbm
 clear hbm
 go_enter Tryz.func238, Tryz.ntmps238
 go_wp2_with fail
 go_loopw [14, 15, 16] (fun iv jv xv wr => ∃ (i : Nat) (x : Value), iv = .int .i64 (i : Int) ∧ jv = .int .i64 (m : Int) ∧ xv = x ∧ a ≤ i ∧ i ≤ m ∧ Hid (Env w [] (fun V => LsR 5 tecells ok A ts V) (fun _ => True) wr)) (fun iv _ _ _ => m - (intOf iv).toNat)
 case atStart => exact ⟨a, _, rfl, rfl, rfl, Nat.le_refl _, by omega, HE⟩
 case round =>
  clear HE
  obtain ⟨j, x, rfl, rfl, rfl, hj1, hj2, HE⟩ := hrel
  by_cases hlt : j < m
  ·have hlt' : (j : Int) < (m : Int) := by omega
   have ha := Hm.out
   obtain ⟨k, hk⟩ : ∃ k, (j + m) / 2 = k := ⟨_, rfl⟩
   have hki : ((j : Int) + (m : Int)) / 2 = (k : Int) := by omega
   have hk1 : j ≤ k := by omega
   have hk2 : k < m := by omega
   have hi1 : ((m : Nat) : Int) < (ts.length : Int) := by omega
   have hi2 : ((k : Nat) : Int) < (ts.length : Int) := by omega
   have hi3 : m < ts.length := by omega
   have hi4 : k < ts.length := by omega
   have Hx := Lib.hid (fun (V : World) (h : LsR 5 tecells ok A ts V) => And.intro (h.tc (m) (by omega)) (h.tc (k) (by omega)))
   have hcmp : cmpI (ts[m]'(by omega)).pl (ts[k]'(by omega)).pl = 1 := by
    have h1 := HR.out.at_ (i := k) (j := m) (by omega) (by omega)
    unfold cmpI
    rw [if_neg (by omega), if_pos h1]
   generalize (ts[m]'(by omega)) = t at *
   generalize (ts[k]'(by omega)) = u at *
   have c := Hx.out _ HE.out.o
   clear ha
   go_upto_region 17 with fail
   go_region_held3 (fun W => TC A (m) t W ∧ TC A (k) u W) (first | with_reducible exact c | ((repeat' apply And.intro) <;> go_keep) | exact c)
    (first
     | (go_at_call 212; go_must (refine (norm1_any _ t u).mono ?_; rintro e w1 ⟨rfl, hb⟩; replace HE := Lib.hid (Env.cx HE.out hb); replace c := Hx.out _ HE.out.o; clear hb; rw [hcmp])))
   go_wp2_with fail
   go_roundw
   case rel => exact ⟨k + 1, _, by go_num, rfl, rfl, by omega, by omega, HE⟩
   case measure => (simp [intOf] <;> omega)
  ·obtain rfl : j = m := by omega
   have hns : ¬ (j : Int) > (j : Int) := by omega
   go_wp2_with fail
   go_loopw [17] (fun kv wr => kv = .int .i64 (j : Int) ∧ Hid (Env w [] (fun V => LsR 5 tecells ok A ts V) (fun _ => True) wr)) (fun _ _ => 0)
   case atStart => exact ⟨rfl, HE⟩
   case round =>
    clear HE
    obtain ⟨rfl, HE⟩ := hrel
    go_wp2_with fail
    refine bodyPost_ret (results_none rfl _ _ _) rfl ?_
    exact ⟨rfl, HE.out.bel⟩
set_option maxRecDepth 100000 in
theorem symm_g1 (w : World) (ok : TeV → World → Prop) (hok : ∀ p W, ok p W → Rests W (· < W.heap.size) (ok p)) (A : Option Addr) (c : Nat) (ts : List TeV) (h : LsR 5 tecells ok A ts w) (hl : ts.length ≤ 1000000) (hr : Rise ts) (a m b d : Nat) (ham : a + 1 < m) (hmb : m + 1 < b) (hb : b ≤ ts.length) (hd : (a + b) / 2 = d) (hmd : d < m) (hih : ∀ (a' m' b' : Nat), a' < m' → m' < b' → b' ≤ ts.length → b' - a' < b - a → ∀ V, LsR 5 tecells ok A ts V → Calls Tryz.prog 238 #[.slice A ts.length c, .int .i64 (a' : Int), .int .i64 (m' : Int), .int .i64 (b' : Int), .func (.func 212) #[] #[]] V fun e w' => e = .returned (.tuple #[]) ∧ Below V.heap.size V w') :
 Calls Tryz.prog 238 #[.slice A ts.length c, .int .i64 (a : Int), .int .i64 (m : Int), .int .i64 (b : Int), .func (.func 212) #[] #[]] w fun e w' => e = .returned (.tuple #[]) ∧ Below w.heap.size w w' := by
 have sl1 := h.sl
 have hsz1 := size_terms
 have hadd := adr_add
 have HE := Lib.hid (Env.start (h.old hok))
 have HR := Lib.hid hr
 clear h hr
 obtain ⟨x1, hx1⟩ : ∃ x, IntKind.i64.wrap ((m : Int) - (a : Int)) = x := ⟨_, rfl⟩
 have hx2 : ¬ x1 = 1 := by rw [← hx1, IntKind.wrap_i64]; omega
 have hx3 : (x1 == 1) = false := by simp [hx2]
 obtain ⟨y1, hy1⟩ : ∃ x, IntKind.i64.wrap ((b : Int) - (m : Int)) = x := ⟨_, rfl⟩
 have hy2 : ¬ y1 = 1 := by rw [← hy1, IntKind.wrap_i64]; omega
 have hy3 : (y1 == 1) = false := by simp [hy2]
 have hdi : ((a : Int) + (b : Int)) / 2 = (d : Int) := by omega
 have hd4 : IntKind.i64.wrap ((d : Int) + (m : Int)) = ((d + m : Nat) : Int) := by rw [IntKind.wrap_i64]; omega
 obtain ⟨n, hn⟩ : ∃ n, n = d + m := ⟨_, rfl⟩
 rw [← hn] at hd4
 obtain ⟨p, hp⟩ : ∃ p, p + 1 = n := ⟨n - 1, by omega⟩
 have hd5 : IntKind.i64.wrap ((n : Int) - 1) = (p : Int) := by rw [IntKind.wrap_i64]; omega
 have Hd := Lib.hid hd
 have Hn := Lib.hid hn
 have Hp := Lib.hid hp
 obtain ⟨s, hs⟩ : ∃ s, s + b = n := ⟨n - b, by omega⟩
 have Hs := Lib.hid hs
 have hd6 : IntKind.i64.wrap ((n : Int) - (b : Int)) = (s : Int) := by rw [IntKind.wrap_i64]; omega
 have hd7 : (d : Int) < (m : Int) := by omega
 have hd8 : IntKind.i64.wrap ((n : Int) - (d : Int)) = (m : Int) := by rw [IntKind.wrap_i64]; omega
 have hd9 : (m : Int) < (b : Int) := by omega
 have hd10 : (a : Int) < (d : Int) := by omega
 have Hih := Lib.hid (fun V => hih d m b hmd (by omega) hb (by omega) V)
 clear hs hih
 clear hn hp
 go_enter Tryz.func238, Tryz.ntmps238
 go_wp2_with fail
 go_loopw [20, 21, 23] (fun iv jv xv wr => ∃ (i : Nat) (x : Value), iv = .int .i64 (i : Int) ∧ jv = .int .i64 (d : Int) ∧ xv = x ∧ s ≤ i ∧ i ≤ d ∧ Hid (Env w [] (fun V => LsR 5 tecells ok A ts V) (fun _ => True) wr)) (fun iv _ _ _ => d - (intOf iv).toNat)
 case atStart => exact ⟨s, _, rfl, rfl, rfl, Nat.le_refl _, by have := Hs.out; have := Hd.out; have := Hn.out; omega, HE⟩
 case round =>
  clear HE
  obtain ⟨j, x, rfl, rfl, rfl, hj1, hj2, HE⟩ := hrel
  by_cases hlt : j < d
  ·have hlt' : (j : Int) < (d : Int) := by omega
   have h1 := Hd.out
   have h2 := Hn.out
   have h3 := Hp.out
   have h4 := Hs.out
   obtain ⟨k, hk⟩ : ∃ k, (j + d) / 2 = k := ⟨_, rfl⟩
   have hki : ((j : Int) + (d : Int)) / 2 = (k : Int) := by omega
   have hk1 : j ≤ k := by omega
   have hk2 : k < d := by omega
   obtain ⟨q, hq⟩ : ∃ q, q + k = p := ⟨p - k, by omega⟩
   have hh2 : IntKind.i64.wrap ((p : Int) - (k : Int)) = (q : Int) := by rw [IntKind.wrap_i64]; omega
   have hi1 : ((q : Nat) : Int) < (ts.length : Int) := by omega
   have hi2 : ((k : Nat) : Int) < (ts.length : Int) := by omega
   have hi3 : q < ts.length := by omega
   have hi4 : k < ts.length := by omega
   have Hx := Lib.hid (fun (V : World) (h : LsR 5 tecells ok A ts V) => And.intro (h.tc (q) (by omega)) (h.tc (k) (by omega)))
   have hcmp : cmpI (ts[q]'(by omega)).pl (ts[k]'(by omega)).pl = 1 := by
    have h1 := HR.out.at_ (i := k) (j := q) (by omega) (by omega)
    unfold cmpI
    rw [if_neg (by omega), if_pos h1]
   generalize (ts[q]'(by omega)) = t at *
   generalize (ts[k]'(by omega)) = u at *
   have c := Hx.out _ HE.out.o
   clear h1 h2 h3 hq
   go_upto_region 35 with fail
   go_region_held3 (fun W => TC A (q) t W ∧ TC A (k) u W) (first | with_reducible exact c | ((repeat' apply And.intro) <;> go_keep) | exact c)
    (first
     | (go_at_call 212; go_must (refine (norm1_any _ t u).mono ?_; rintro e w1 ⟨rfl, hb⟩; replace HE := Lib.hid (Env.cx HE.out hb); replace c := Hx.out _ HE.out.o; clear hb; rw [hcmp])))
   go_wp2_with fail
   go_roundw
   case rel => exact ⟨k + 1, _, by go_num, rfl, rfl, by omega, by omega, HE⟩
   case measure => (simp [intOf] <;> omega)
  ·obtain rfl : j = d := by omega
   go_wp2_with fail
   refine (Hih.out _ HE.out.o).mono ?_
   rintro e w1 ⟨rfl, hb⟩
   replace HE := Lib.hid (Env.call HE.out hb)
   clear hb
   go_wp2_with fail
   go_end0
   exact ⟨rfl, HE.out.bel⟩
set_option maxRecDepth 100000 in
theorem symm_g2 (w : World) (ok : TeV → World → Prop) (hok : ∀ p W, ok p W → Rests W (· < W.heap.size) (ok p)) (A : Option Addr) (c : Nat) (ts : List TeV) (h : LsR 5 tecells ok A ts w) (hl : ts.length ≤ 1000000) (hr : Rise ts) (a m b d : Nat) (ham : a + 1 < m) (hmb : m + 1 < b) (hb : b ≤ ts.length) (hd : (a + b) / 2 = d) (hmd : m < d) (hih : ∀ (a' m' b' : Nat), a' < m' → m' < b' → b' ≤ ts.length → b' - a' < b - a → ∀ V, LsR 5 tecells ok A ts V → Calls Tryz.prog 238 #[.slice A ts.length c, .int .i64 (a' : Int), .int .i64 (m' : Int), .int .i64 (b' : Int), .func (.func 212) #[] #[]] V fun e w' => e = .returned (.tuple #[]) ∧ Below V.heap.size V w') :
 Calls Tryz.prog 238 #[.slice A ts.length c, .int .i64 (a : Int), .int .i64 (m : Int), .int .i64 (b : Int), .func (.func 212) #[] #[]] w fun e w' => e = .returned (.tuple #[]) ∧ Below w.heap.size w w' := by
 have sl1 := h.sl
 have hsz1 := size_terms
 have hadd := adr_add
 have HE := Lib.hid (Env.start (h.old hok))
 have HR := Lib.hid hr
 clear h hr
 obtain ⟨x1, hx1⟩ : ∃ x, IntKind.i64.wrap ((m : Int) - (a : Int)) = x := ⟨_, rfl⟩
 have hx2 : ¬ x1 = 1 := by rw [← hx1, IntKind.wrap_i64]; omega
 have hx3 : (x1 == 1) = false := by simp [hx2]
 obtain ⟨y1, hy1⟩ : ∃ x, IntKind.i64.wrap ((b : Int) - (m : Int)) = x := ⟨_, rfl⟩
 have hy2 : ¬ y1 = 1 := by rw [← hy1, IntKind.wrap_i64]; omega
 have hy3 : (y1 == 1) = false := by simp [hy2]
 have hdi : ((a : Int) + (b : Int)) / 2 = (d : Int) := by omega
 have hd4 : IntKind.i64.wrap ((d : Int) + (m : Int)) = ((d + m : Nat) : Int) := by rw [IntKind.wrap_i64]; omega
 obtain ⟨n, hn⟩ : ∃ n, n = d + m := ⟨_, rfl⟩
 rw [← hn] at hd4
 obtain ⟨p, hp⟩ : ∃ p, p + 1 = n := ⟨n - 1, by omega⟩
 have hd5 : IntKind.i64.wrap ((n : Int) - 1) = (p : Int) := by rw [IntKind.wrap_i64]; omega
 have Hd := Lib.hid hd
 have Hn := Lib.hid hn
 have Hp := Lib.hid hp
 have hd7 : ¬ (d : Int) < (m : Int) := by omega
 have hd8 : IntKind.i64.wrap ((n : Int) - (m : Int)) = (d : Int) := by rw [IntKind.wrap_i64]; omega
 have hd9 : (a : Int) < (m : Int) := by omega
 have hd10 : (m : Int) < (d : Int) := by omega
 have Hih := Lib.hid (fun V => hih a m d (by omega) hmd (by omega) (by omega) V)
 clear hih
 clear hn hp
 go_enter Tryz.func238, Tryz.ntmps238
 go_wp2_with fail
 go_loopw [20, 21, 23] (fun iv jv xv wr => ∃ (i : Nat) (x : Value), iv = .int .i64 (i : Int) ∧ jv = .int .i64 (m : Int) ∧ xv = x ∧ a ≤ i ∧ i ≤ m ∧ Hid (Env w [] (fun V => LsR 5 tecells ok A ts V) (fun _ => True) wr)) (fun iv _ _ _ => m - (intOf iv).toNat)
 case atStart => exact ⟨a, _, rfl, rfl, rfl, Nat.le_refl _, by have := Hd.out; have := Hn.out; omega, HE⟩
 case round =>
  clear HE
  obtain ⟨j, x, rfl, rfl, rfl, hj1, hj2, HE⟩ := hrel
  by_cases hlt : j < m
  ·have hlt' : (j : Int) < (m : Int) := by omega
   have h1 := Hd.out
   have h2 := Hn.out
   have h3 := Hp.out
   obtain ⟨k, hk⟩ : ∃ k, (j + m) / 2 = k := ⟨_, rfl⟩
   have hki : ((j : Int) + (m : Int)) / 2 = (k : Int) := by omega
   have hk1 : j ≤ k := by omega
   have hk2 : k < m := by omega
   obtain ⟨q, hq⟩ : ∃ q, q + k = p := ⟨p - k, by omega⟩
   have hh2 : IntKind.i64.wrap ((p : Int) - (k : Int)) = (q : Int) := by rw [IntKind.wrap_i64]; omega
   have hi1 : ((q : Nat) : Int) < (ts.length : Int) := by omega
   have hi2 : ((k : Nat) : Int) < (ts.length : Int) := by omega
   have hi3 : q < ts.length := by omega
   have hi4 : k < ts.length := by omega
   have Hx := Lib.hid (fun (V : World) (h : LsR 5 tecells ok A ts V) => And.intro (h.tc (q) (by omega)) (h.tc (k) (by omega)))
   have hcmp : cmpI (ts[q]'(by omega)).pl (ts[k]'(by omega)).pl = 1 := by
    have h1 := HR.out.at_ (i := k) (j := q) (by omega) (by omega)
    unfold cmpI
    rw [if_neg (by omega), if_pos h1]
   generalize (ts[q]'(by omega)) = t at *
   generalize (ts[k]'(by omega)) = u at *
   have c := Hx.out _ HE.out.o
   clear h1 h2 h3 hq
   go_upto_region 35 with fail
   go_region_held3 (fun W => TC A (q) t W ∧ TC A (k) u W) (first | with_reducible exact c | ((repeat' apply And.intro) <;> go_keep) | exact c)
    (first
     | (go_at_call 212; go_must (refine (norm1_any _ t u).mono ?_; rintro e w1 ⟨rfl, hb⟩; replace HE := Lib.hid (Env.cx HE.out hb); replace c := Hx.out _ HE.out.o; clear hb; rw [hcmp])))
   go_wp2_with fail
   go_roundw
   case rel => exact ⟨k + 1, _, by go_num, rfl, rfl, by omega, by omega, HE⟩
   case measure => (simp [intOf] <;> omega)
  ·obtain rfl : j = m := by omega
   go_wp2_with fail
   refine (Hih.out _ HE.out.o).mono ?_
   rintro e w1 ⟨rfl, hb⟩
   replace HE := Lib.hid (Env.call HE.out hb)
   clear hb
   go_wp2_with fail
   go_end0
   exact ⟨rfl, HE.out.bel⟩
set_option maxRecDepth 100000 in
theorem symm_g3 (w : World) (ok : TeV → World → Prop) (hok : ∀ p W, ok p W → Rests W (· < W.heap.size) (ok p)) (A : Option Addr) (c : Nat) (ts : List TeV) (h : LsR 5 tecells ok A ts w) (hl : ts.length ≤ 1000000) (hr : Rise ts) (a m b d : Nat) (ham : a + 1 < m) (hmb : m + 1 < b) (hb : b ≤ ts.length) (hd : (a + b) / 2 = d) (hmd : m = d) :
 Calls Tryz.prog 238 #[.slice A ts.length c, .int .i64 (a : Int), .int .i64 (m : Int), .int .i64 (b : Int), .func (.func 212) #[] #[]] w fun e w' => e = .returned (.tuple #[]) ∧ Below w.heap.size w w' := by
 have sl1 := h.sl
 have hsz1 := size_terms
 have hadd := adr_add
 have HE := Lib.hid (Env.start (h.old hok))
 have HR := Lib.hid hr
 clear h hr
 obtain ⟨x1, hx1⟩ : ∃ x, IntKind.i64.wrap ((m : Int) - (a : Int)) = x := ⟨_, rfl⟩
 have hx2 : ¬ x1 = 1 := by rw [← hx1, IntKind.wrap_i64]; omega
 have hx3 : (x1 == 1) = false := by simp [hx2]
 obtain ⟨y1, hy1⟩ : ∃ x, IntKind.i64.wrap ((b : Int) - (m : Int)) = x := ⟨_, rfl⟩
 have hy2 : ¬ y1 = 1 := by rw [← hy1, IntKind.wrap_i64]; omega
 have hy3 : (y1 == 1) = false := by simp [hy2]
 have hdi : ((a : Int) + (b : Int)) / 2 = (d : Int) := by omega
 have hd4 : IntKind.i64.wrap ((d : Int) + (m : Int)) = ((d + m : Nat) : Int) := by rw [IntKind.wrap_i64]; omega
 obtain ⟨n, hn⟩ : ∃ n, n = d + m := ⟨_, rfl⟩
 rw [← hn] at hd4
 obtain ⟨p, hp⟩ : ∃ p, p + 1 = n := ⟨n - 1, by omega⟩
 have hd5 : IntKind.i64.wrap ((n : Int) - 1) = (p : Int) := by rw [IntKind.wrap_i64]; omega
 have Hd := Lib.hid hd
 have Hn := Lib.hid hn
 have Hp := Lib.hid hp
 have hd7 : ¬ (d : Int) < (m : Int) := by omega
 have hd8 : IntKind.i64.wrap ((n : Int) - (m : Int)) = (d : Int) := by rw [IntKind.wrap_i64]; omega
 have hd9 : (a : Int) < (m : Int) := by omega
 have hd10 : ¬ (m : Int) < (d : Int) := by omega
 have hd11 : (m : Int) = (d : Int) := by omega
 have Hmd := Lib.hid hd11
 clear hd11 hmd
 clear hn hp
 go_enter Tryz.func238, Tryz.ntmps238
 go_wp2_with fail
 go_loopw [20, 21, 23] (fun iv jv xv wr => ∃ (i : Nat) (x : Value), iv = .int .i64 (i : Int) ∧ jv = .int .i64 (m : Int) ∧ xv = x ∧ a ≤ i ∧ i ≤ m ∧ Hid (Env w [] (fun V => LsR 5 tecells ok A ts V) (fun _ => True) wr)) (fun iv _ _ _ => m - (intOf iv).toNat)
 case atStart => exact ⟨a, _, rfl, rfl, rfl, Nat.le_refl _, by have := Hd.out; have := Hn.out; omega, HE⟩
 case round =>
  clear HE
  obtain ⟨j, x, rfl, rfl, rfl, hj1, hj2, HE⟩ := hrel
  by_cases hlt : j < m
  ·have hlt' : (j : Int) < (m : Int) := by omega
   have h1 := Hd.out
   have h2 := Hn.out
   have h3 := Hp.out
   obtain ⟨k, hk⟩ : ∃ k, (j + m) / 2 = k := ⟨_, rfl⟩
   have hki : ((j : Int) + (m : Int)) / 2 = (k : Int) := by omega
   have hk1 : j ≤ k := by omega
   have hk2 : k < m := by omega
   obtain ⟨q, hq⟩ : ∃ q, q + k = p := ⟨p - k, by omega⟩
   have hh2 : IntKind.i64.wrap ((p : Int) - (k : Int)) = (q : Int) := by rw [IntKind.wrap_i64]; omega
   have hi1 : ((q : Nat) : Int) < (ts.length : Int) := by omega
   have hi2 : ((k : Nat) : Int) < (ts.length : Int) := by omega
   have hi3 : q < ts.length := by omega
   have hi4 : k < ts.length := by omega
   have Hx := Lib.hid (fun (V : World) (h : LsR 5 tecells ok A ts V) => And.intro (h.tc (q) (by omega)) (h.tc (k) (by omega)))
   have hcmp : cmpI (ts[q]'(by omega)).pl (ts[k]'(by omega)).pl = 1 := by
    have h1 := HR.out.at_ (i := k) (j := q) (by omega) (by omega)
    unfold cmpI
    rw [if_neg (by omega), if_pos h1]
   generalize (ts[q]'(by omega)) = t at *
   generalize (ts[k]'(by omega)) = u at *
   have c := Hx.out _ HE.out.o
   clear h1 h2 h3 hq
   go_upto_region 35 with fail
   go_region_held3 (fun W => TC A (q) t W ∧ TC A (k) u W) (first | with_reducible exact c | ((repeat' apply And.intro) <;> go_keep) | exact c)
    (first
     | (go_at_call 212; go_must (refine (norm1_any _ t u).mono ?_; rintro e w1 ⟨rfl, hb⟩; replace HE := Lib.hid (Env.cx HE.out hb); replace c := Hx.out _ HE.out.o; clear hb; rw [hcmp])))
   go_wp2_with fail
   go_roundw
   case rel => exact ⟨k + 1, _, by go_num, rfl, rfl, by omega, by omega, HE⟩
   case measure => (simp [intOf] <;> omega)
  ·obtain rfl : j = m := by omega
   go_wp2_with fail
   go_end0
   exact ⟨rfl, HE.out.bel⟩
theorem symm_any (ok : TeV → World → Prop) (hok : ∀ p W, ok p W → Rests W (· < W.heap.size) (ok p)) (A : Option Addr) (c : Nat) (ts : List TeV) (hl : ts.length ≤ 1000000) (hr : Rise ts) : ∀ (k a m b : Nat), b - a ≤ k → a < m → m < b → b ≤ ts.length → ∀ w, LsR 5 tecells ok A ts w →
 Calls Tryz.prog 238 #[.slice A ts.length c, .int .i64 (a : Int), .int .i64 (m : Int), .int .i64 (b : Int), .func (.func 212) #[] #[]] w fun e w' => e = .returned (.tuple #[]) ∧ Below w.heap.size w w' := by
 intro k
 induction k with
 | zero => intro a m b h1 h2 h3; omega
 | succ k ih =>
  intro a m b hk ham hmb hb w h
  by_cases e1 : m = a + 1
  ·exact symm_l w ok hok A c ts h hl hr a m b e1 hmb hb
  ·by_cases e2 : b = m + 1
   ·exact symm_r w ok hok A c ts h hl hr a m b (by omega) e2 hb
   ·have hih : ∀ (a' m' b' : Nat), a' < m' → m' < b' → b' ≤ ts.length → b' - a' < b - a → ∀ V, LsR 5 tecells ok A ts V → Calls Tryz.prog 238 #[.slice A ts.length c, .int .i64 (a' : Int), .int .i64 (m' : Int), .int .i64 (b' : Int), .func (.func 212) #[] #[]] V fun e w' => e = .returned (.tuple #[]) ∧ Below V.heap.size V w' :=
     fun a' m' b' h1 h2 h3 h4 V hV => ih a' m' b' (by omega) h1 h2 h3 V hV
    rcases Nat.lt_trichotomy m ((a + b) / 2) with e3 | e3 | e3
    ·exact symm_g2 w ok hok A c ts h hl hr a m b _ (by omega) (by omega) hb rfl e3 hih
    ·exact symm_g3 w ok hok A c ts h hl hr a m b _ (by omega) (by omega) hb rfl e3
    ·exact symm_g1 w ok hok A c ts h hl hr a m b _ (by omega) (by omega) hb rfl e3 hih
set_option maxRecDepth 100000 in
theorem stable2_rise (w : World) (ok : TeV → World → Prop) (hok : ∀ p W, ok p W → Rests W (· < W.heap.size) (ok p)) (A : Option Addr) (c : Nat) (ts : List TeV) (h : LsR 5 tecells ok A ts w) (hl : ts.length ≤ 1000) (hr : Rise ts) :
 Calls Tryz.prog 232 #[.slice A ts.length c, .int .i64 (ts.length : Int), .func (.func 212) #[] #[]] w fun e w' => e = .returned (.tuple #[]) ∧ Below w.heap.size w w' := by
 have HE := Lib.hid (Env.start (h.old hok))
 have HR := Lib.hid hr
 clear h hr
 go_enter Tryz.func232, Tryz.ntmps232
 go_wp2_with fail
 go_loopw [7, 8] (fun av bv wr => ∃ a : Nat, av = .int .i64 (a : Int) ∧ bv = .int .i64 ((a : Int) + 20) ∧ a ≤ ts.length ∧ Hid (Env w [] (fun V => LsR 5 tecells ok A ts V) (fun _ => True) wr)) (fun av _ _ => ts.length - (intOf av).toNat)
 case atStart => exact ⟨0, rfl, by go_num, Nat.zero_le _, HE⟩
 case round =>
  clear HE
  obtain ⟨a, rfl, rfl, ha, HE⟩ := hrel
  by_cases hb : a + 20 ≤ ts.length
  ·have hb' : (a : Int) + 20 ≤ (ts.length : Int) := by omega
   go_wp2_with fail
   refine (inssort_rise _ ok hok A c ts HE.out.o a (a + 20) _ _ rfl (by omega) (by omega) (by omega) (by omega) HR.out).mono ?_
   rintro e w1 ⟨rfl, hb2⟩
   replace HE := Lib.hid (Env.call HE.out hb2)
   clear hb2
   go_wp2_with fail
   go_roundw
   case rel => exact ⟨a + 20, by go_num, by go_num, hb, HE⟩
   case measure => (simp [intOf] <;> omega)
  ·have hb' : ¬ (a : Int) + 20 ≤ (ts.length : Int) := by omega
   go_wp2_with fail
   refine (inssort_rise _ ok hok A c ts HE.out.o a ts.length _ _ rfl rfl (by omega) (by omega) (by omega) HR.out).mono ?_
   rintro e w1 ⟨rfl, hb2⟩
   replace HE := Lib.hid (Env.call HE.out hb2)
   clear hb2 hb' hb ha
   go_wp2_with fail
   go_loopw [6, 7, 8, 9] (fun sv av bv mv wr => ∃ (s : Nat) (x y z : Value), sv = .int .i64 (s : Int) ∧ av = x ∧ bv = y ∧ mv = z ∧ 1 ≤ s ∧ s ≤ 4000 ∧ Hid (Env w [] (fun V => LsR 5 tecells ok A ts V) (fun _ => True) wr)) (fun sv _ _ _ _ => ts.length - (intOf sv).toNat)
   case atStart => exact ⟨20, _, _, _, rfl, rfl, rfl, rfl, by omega, by omega, HE⟩
   case round =>
    clear HE
    obtain ⟨s, x, y, z, rfl, rfl, rfl, rfl, hs1, hs2, HE⟩ := hrel
    by_cases hs : s < ts.length
    ·have hs' : (s : Int) < (ts.length : Int) := by omega
     obtain ⟨t, ht⟩ : ∃ t, t = 2 * s := ⟨_, rfl⟩
     have hs3 : IntKind.i64.wrap (2 * (s : Int)) = (t : Int) := by rw [IntKind.wrap_i64]; omega
     have hs4 : IntKind.i64.wrap ((s : Int) * 2) = (t : Int) := by rw [IntKind.wrap_i64]; omega
     have Ht := Lib.hid ht
     clear ht
     go_wp2_with fail
     go_loopw [7, 8] (fun av bv wr => ∃ a : Nat, av = .int .i64 (a : Int) ∧ bv = .int .i64 ((a : Int) + (t : Int)) ∧ a ≤ ts.length ∧ Hid (Env w [] (fun V => LsR 5 tecells ok A ts V) (fun _ => True) wr)) (fun av _ _ => ts.length - (intOf av).toNat)
     case atStart => exact ⟨0, rfl, by go_num, Nat.zero_le _, HE⟩
     case round =>
      clear HE
      obtain ⟨a, rfl, rfl, ha, HE⟩ := hrel
      have ht := Ht.out
      have hs5 : IntKind.i64.wrap ((a : Int) + (s : Int)) = ((a + s : Nat) : Int) := by rw [IntKind.wrap_i64]; omega
      have hs6 : IntKind.i64.wrap ((a : Int) + (t : Int) + (t : Int)) = ((a + t : Nat) : Int) + (t : Int) := by rw [IntKind.wrap_i64]; omega
      have hs7 : (a : Int) + (t : Int) = ((a + t : Nat) : Int) := by omega
      obtain ⟨m, hm⟩ : ∃ m, m = a + s := ⟨_, rfl⟩
      obtain ⟨b, hb⟩ : ∃ b, b = a + t := ⟨_, rfl⟩
      rw [← hm] at hs5
      rw [← hb] at hs6 hs7
      rw [hs7] at hs6 ⊢
      have Hm := Lib.hid hm
      have Hb := Lib.hid hb
      clear hm hb ht hs7
      by_cases hbl : b ≤ ts.length
      ·have hb' : (b : Int) ≤ (ts.length : Int) := by omega
       go_wp2_with fail
       have h1 := Hm.out
       have h2 := Hb.out
       have h3 := Ht.out
       refine (symm_any ok hok A c ts (by omega) HR.out _ a m b (Nat.le_refl _) (by omega) (by omega) (by omega) _ HE.out.o).mono ?_
       rintro e w1 ⟨rfl, hb⟩
       replace HE := Lib.hid (Env.call HE.out hb)
       clear hb
       clear h1 h2 h3
       go_wp2_with fail
       go_roundw
       case rel => exact ⟨b, rfl, by go_num, hbl, HE⟩
       case measure => (have h2 := Hb.out; have h3 := Ht.out; simp [intOf] <;> omega)
      ·have hb' : ¬ (b : Int) ≤ (ts.length : Int) := by omega
       by_cases hml : m < ts.length
       ·have hm' : (m : Int) < (ts.length : Int) := by omega
        go_wp2_with fail
        have h1 := Hm.out
        have h2 := Hb.out
        have h3 := Ht.out
        refine (symm_any ok hok A c ts (by omega) HR.out _ a m ts.length (Nat.le_refl _) (by omega) (by omega) (by omega) _ HE.out.o).mono ?_
        rintro e w1 ⟨rfl, hb⟩
        replace HE := Lib.hid (Env.call HE.out hb)
        clear hb
        clear h1 h2 h3
        go_wp2_with fail
        go_roundw
        case rel => exact ⟨t, _, _, _, rfl, rfl, rfl, rfl, by have := Ht.out; omega, by have := Ht.out; omega, HE⟩
        case measure => (have h3 := Ht.out; simp [intOf] <;> omega)
       ·have hm' : ¬ (m : Int) < (ts.length : Int) := by omega
        go_wp2_with fail
        go_roundw
        case rel => exact ⟨t, _, _, _, rfl, rfl, rfl, rfl, by have := Ht.out; omega, by have := Ht.out; omega, HE⟩
        case measure => (have h3 := Ht.out; simp [intOf] <;> omega)
    ·have hs' : ¬ (s : Int) < (ts.length : Int) := by omega
     go_wp2_with fail
     go_end0
     exact ⟨rfl, HE.out.bel⟩
set_option maxRecDepth 100000 in
theorem sort2_rise (w : World) (ok : TeV → World → Prop) (hok : ∀ p W, ok p W → Rests W (· < W.heap.size) (ok p)) (A : Option Addr) (c : Nat) (ts : List TeV) (h : LsR 5 tecells ok A ts w) (hl : ts.length ≤ 1000) (hr : Rise ts) :
 Calls Tryz.prog 211 #[.slice A ts.length c, .func (.func 212) #[] #[]] w fun e w' => e = .returned (.tuple #[]) ∧ Below w.heap.size w w' := by
 go_enter Tryz.func211, Tryz.ntmps211
 go_wp2_with fail
 refine (stable2_rise _ ok hok A c ts h hl hr).mono ?_
 rintro e w1 ⟨rfl, hb⟩
 go_wp2_with fail
 go_end0
 exact ⟨rfl, hb⟩

set_option maxRecDepth 100000 in
theorem norm2_rise (w : World) (n : Nat) (hn : n ≤ 100000) (h1n : 1 ≤ n) (A : Option Addr) (c : Nat) (ts : List TeV) (h : LsR 5 tecells (teD n) A ts w) (h20 : ts.length ≤ 1000) (hr : Rise ts) (hT : Tz w) :
 Calls Tryz.prog 167 #[.slice A ts.length c] w (RetVec ((ts.map plq).filter nzP) w) := by
 have HE := Lib.hid (Env.start ((h.old teD_old).and hT.old))
 have HR := Lib.hid hr
 have HS := Lib.hid (show ∀ t ∈ ts, Sz t.q n from fun t ht => RatD.sz (h.ok t ht) h1n)
 clear h hr hT
 have hsz1 := size_terms
 have hsz2 := size_vec
 have hadd := adr_add
 go_enter Tryz.func167, Tryz.ntmps167
 go_wp2_with fail
 refine (clone_any _ (teD n) A c ts HE.out.o.1 (by omega)).mono ?_
 rintro e w1 ⟨A1, c1, rfl, hc1, hk, hb⟩
 replace HE := Lib.hid (Env.ret HE.out hk hb)
 clear hk hb
 have sl1 : Sl A1 ts.length := by have := HE.out.n.1.sl; rwa [List.length_map] at this
 go_wp2_with fail
 refine (sort2_rise _ (teD n) teD_old A1 c1 ts ⟨HE.out.n.1, HE.out.o.1.ok⟩ h20 HR.out).mono ?_
 rintro e w2 ⟨rfl, hb⟩
 replace HE := Lib.hid (Env.call HE.out hb)
 clear hb
 go_wp2_with fail
 have HG := Lib.hid ((GL.start HE.out).new_ 86 5)
 clear HE
 go_loopw [4, 14] (fun ov iv wr => ∃ (Ao : Option Addr) (co i : Nat) (os : List TeV), ov = .slice Ao i co ∧ iv = .int .i64 (i : Int) ∧ i ≤ ts.length ∧ Hid (os.length = i) ∧ Hid (os.map plq = (ts.take i).map plq) ∧ Hid (GL w [⟨86, 5, .slice Ao i co, os.map tecells⟩] (fun V => LsR 5 tecells (teD n) A ts V ∧ Tz V) (fun V => (∀ p ∈ os, teN p V) ∧ El V 5 A1 (ts.map tecells)) wr)) (fun _ iv _ => ts.length - (intOf iv).toNat)
 case atStart => exact ⟨none, 0, 0, [], rfl, rfl, Nat.zero_le _, Lib.hid rfl, Lib.hid rfl, Lib.hid (HG.out.imp (fun _ h => h.2) (fun _ h => ⟨by simp, h.1⟩))⟩
 case round =>
  clear HG
  obtain ⟨Ao, co, i, os, rfl, rfl, hi, Hoi, HM, HG⟩ := hrel
  by_cases hlt : i < ts.length
  ·have HE := Lib.hid HG.out.env
   have HLs := Lib.hid (show LsR 5 tecells (teD n) A1 ts wr from ⟨HE.out.o.2.2, HE.out.o.1.1.ok⟩)
   have c0 := HLs.out.tc i hlt
   obtain ⟨t, ht⟩ : ∃ t, t = ts[i] := ⟨_, rfl⟩
   rw [← ht] at c0
   have Hm := Lib.hid (show t ∈ ts by rw [ht]; exact List.getElem_mem hlt)
   have Ht := Lib.hid ht
   clear ht
   go_upto_region 7 with fail
   obtain ⟨W2, gt, hW2, hgt, HE⟩ := Env.al HE.out 86 #[.int .i64 t.pl, .bool t.r.num.neg, .slice t.r.num.A t.r.num.k t.r.num.c, .bool t.r.den.neg, .slice t.r.den.A t.r.den.k t.r.den.c]
   rw [hW2, hgt]
   clear hW2 hgt c0
   have c := Env.c1 HE.out
   go_upto_region 8 with fail
   go_cut [32] from 15 to 56 (fun bv wx => bv = .bool false ∧ Hid (Env wr [⟨gt, 86, #[.int .i64 t.pl, .bool t.r.num.neg, .slice t.r.num.A t.r.num.k t.r.num.c, .bool t.r.den.neg, .slice t.r.den.A t.r.den.k t.r.den.c]⟩] (fun V => (fun V => LsR 5 tecells (teD n) A ts V ∧ Tz V) V ∧ (fun V => (∀ p ∈ os, teN p V) ∧ El V 5 A1 (ts.map tecells)) V) (fun _ => True) wx))
   case first =>
    rcases Nat.eq_zero_or_pos i with rfl | h0
    ·go_quiet (fail)
     go_wp2_with fail
     go_meet
     case rel => exact ⟨rfl, Lib.hid (HE.out.drewN _)⟩
    ·obtain ⟨k, rfl⟩ : ∃ k, i = k + 1 := ⟨i - 1, by omega⟩
     have hko : k < os.length := by have := Hoi.out; omega
     have hlt2 : (os[k]'hko).pl < t.pl := by
      have h2 := congrArg (fun l => l[k]?) HM.out
      simp only [List.getElem?_map, List.getElem?_take, List.getElem?_eq_getElem hko] at h2
      rw [if_pos (by omega), List.getElem?_eq_getElem (by omega)] at h2
      have h3 : (os[k]'hko).pl = (ts[k]'(by omega)).pl := by simpa [plq] using congrArg (fun o => (o.map Prod.fst).getD 0) h2
      rw [h3, Ht.out]
      exact HR.out.at_ (by omega) hlt
     have cc : Hid (LsR 5 tecells teN Ao os wr) := Lib.hid ⟨(show OwnE wr w.heap.size 86 5 (.slice Ao (k + 1) co) (os.map tecells) from HG.out.own _ (List.mem_cons_self ..)).el.1, HG.out.n.1⟩
     have c2 := ((cc.out.old teN_old).below HE.out.bel).now.tc k hko
     have slo : Sl Ao (k + 1) := by have := cc.out.sl; rwa [Hoi.out] at this
     have hne : ((os[k]'hko).pl == t.pl) = false := by simp; omega
     generalize (os[k]'hko) = u at *
     have hi1 : (0 : Int) < (k : Int) + 1 := by omega
     have hi3 : (k : Int) < (k : Int) + 1 := by omega
     have hi4 : k < k + 1 := by omega
     have hi5 : IntKind.i64.wrap ((k : Int) + 1 - 1) = (k : Int) := by rw [IntKind.wrap_i64]; omega
     have hi6 : IntKind.i64.wrap (k : Int) = (k : Int) := by rw [IntKind.wrap_i64]; omega
     clear cc hlt2 hko
     go_quiet (fail)
     go_wp2_with fail
     go_meet
     case rel => exact ⟨rfl, Lib.hid (HE.out.drewN _)⟩
   case rest =>
    clear HE c
    obtain ⟨rfl, HE⟩ := hcut
    have c := Env.c1 HE.out
    go_upto_region 10 with fail
    go_region_held3 (fun W => CB gt #[.int .i64 t.pl, .bool t.r.num.neg, .slice t.r.num.A t.r.num.k t.r.num.c, .bool t.r.den.neg, .slice t.r.den.A t.r.den.k t.r.den.c] W) (first | with_reducible exact c | ((repeat' apply And.intro) <;> go_keep) | exact c | exact Env.c1 (HE.out.other _) | exact Env.c1 (HE.out.drew.other _))
     (first
      | (go_at_call 43; go_must (refine (rnorm_any _ t.r t.q n (by omega) h1n (by first | exact HE.out.o.1.1.ok t Hm.out | exact HE.out.drew.o.1.1.ok t Hm.out) (by first | exact HE.out.o.1.2 | exact HE.out.drew.o.1.2)).mono ?_; rintro e w3 ⟨rk, rfl, hk, hb⟩; replace HE := Lib.hid (Env.rx HE.out hk hb); replace c := Env.c1 HE.out; clear hk hb))
      | (obtain ⟨Ap, cp, w8, hrun, hG⟩ := GL.appT under_vec (os := os) (by rw [Hoi.out]; exact HG.out) (by first | exact HE.out.read | exact HE.out.drew.read) ⟨t.pl, rk, t.q⟩ (by have := Hoi.out; omega); rw [Hoi.out] at hrun; refine step_append_eq rfl (.tmp 47) (.tmp 54) 89 _ _ _ rfl rfl rfl hrun ?_; replace c := Blk.cb hG.n.1.1; have HG2 := Lib.hid hG; clear hrun hG HE))
    go_wp2_with fail
    go_roundw
    case rel => exact ⟨Ap, cp, i + 1, os ++ [⟨t.pl, rk, t.q⟩], by rw [Hoi.out], by go_num, by omega, Lib.hid (by have := Hoi.out; simp; omega), Lib.hid (by rw [List.map_append, HM.out, List.take_succ_eq_append_getElem hlt, List.map_append, ← Ht.out]; rfl), Lib.hid (by have hX := HG2.out; rw [List.length_append, Hoi.out] at hX; exact hX.imp (fun _ h => h) (fun V h => ⟨fun p hp => by
     rcases List.mem_append.1 hp with hp | hp
     ·exact h.2.1 p hp
     ·rw [List.mem_singleton.1 hp]; exact h.1.2.1, h.2.2⟩))⟩
    case measure => (simp [intOf] <;> omega)
  ·obtain rfl : i = ts.length := by omega
   have hol : os.length ≤ 1000000 := by have := Hoi.out; omega
   have HM2 := Lib.hid (show os.map plq = ts.map plq by have := HM.out; rwa [List.take_length] at this)
   have HS2 := Lib.hid (show ∀ p ∈ os, Sz p.q n from fun p hp => by
    have h1 := List.mem_map_of_mem (f := plq) hp
    rw [HM2.out] at h1
    obtain ⟨t, ht, e⟩ := List.mem_map.1 h1
    have e2 : t.q = p.q := congrArg Prod.snd e
    rw [← e2]; exact HS.out t ht)
   clear HM
   go_wp2_with fail
   refine (delete_any w _ (.slice Ao ts.length co) os n hn _ _ HG.out (fun V hV p hp => RatN.rat (hV.1 p hp) (HS2.out p hp)) hol).mono ?_
   rintro e w9 ⟨⟨Ap, cp, rfl, hc, hr⟩, hb⟩
   have Hr := Lib.hid hr
   clear hr
   go_wp2_with fail
   go_ret
   refine ⟨Ap, cp, os.filter nzT, rfl, hc, by rw [filter_plq, HM2.out], Hr.out.imp fun V h => ⟨h.1, fun p hp => h.2.1 p (List.mem_filter.1 hp).1⟩, hb⟩

def CpRes {β κ : Type} (k : Nat) (cells : β → Array Value) (ok : β → World → Prop) (g : β → κ) (ks : List κ) (w : World) (e : Ending) (w' : World) : Prop :=
 ∃ A c os, e = .returned (.slice A (List.length os) c) ∧ List.length os ≤ c ∧ os.map g = ks ∧ Rests w' (w.heap.size ≤ ·) (LsR k cells ok A os) ∧ Below w.heap.size w w'
theorem CpRes.up {β κ : Type} {k : Nat} {cells : β → Array Value} {ok : β → World → Prop} {g : β → κ} {ks : List κ} {w W w' : World} {e : Ending} (h : CpRes k cells ok g ks W e w') (hb : Below w.heap.size w W) : CpRes k cells ok g ks w e w' := by
 obtain ⟨A, c, os, h1, h2, h3, h4, h5⟩ := h
 exact ⟨A, c, os, h1, h2, h3, h4.mono fun n hn => Nat.le_trans hb.size hn, Below.after hb h5⟩
theorem map_next {α κ : Type} {f : α → κ} {l : List α} {i : Nat} {ks : List κ} {y : κ} (h : ks = (l.take i).map f) (hi : i < l.length) (hy : y = f l[i]) : ks ++ [y] = (l.take (i + 1)).map f := by
 rw [List.take_succ_eq_append_getElem hi, List.map_append, h, hy]
 rfl
theorem GL.appX {β : Type} {w W W' : World} {ls : List Ow} {bs : List Bo} {old new old' new' : World → Prop} {t e : TypeId} {k bytes : Nat} {z : Value} {cells : β → Array Value} (ht : Tryz.prog.underlying t = some (.slice e)) (hinfo : (Tryz.prog.info? e).map (fun i => (i.zero, i.size, i.bytes)) = some (some z, k, bytes)) (hz : z.cells.size = k) (hk : 0 < k) (hb : bytes ≤ 1000)
 {A : Option Addr} {c : Nat} {os : List β} (h : GL w (⟨e, k, .slice A os.length c, os.map cells⟩ :: ls) old new W) (he : Env W bs old' new' W') (x : β) (hx : (cells x).size = k) (h1 : ∀ u ∈ (cells x).toList, u.oneCell' = true) (hl : os.length ≤ 1000000) :
 ∃ A' c' w', (Builtin.append_ #[t, t] t #[.slice A os.length c, .slice (some ⟨W'.heap.size, 0, none⟩) 1 1]).run Tryz.prog (W'.alloc (.cells (cells x) e)) = .ok (.slice A' (os ++ [x]).length c') w' ∧ GL w (⟨e, k, .slice A' (os ++ [x]).length c', (os ++ [x]).map cells⟩ :: ls) old (fun V => new' V ∧ new V) w' := by
 have hm : (os.length + 1) * bytes ≤ 1000001 * 1000 := Nat.mul_le_mul (by omega) hb
 obtain ⟨v', w', hrun, hG⟩ := GL.app (P := Tryz.prog) ht hinfo hz hk h he (cells x) hx h1 (by simp; omega) (by simp [maxLen]; omega)
 obtain ⟨A', c', hv, -⟩ := (hG.own _ (List.mem_cons_self ..)).form
 have hv' : v' = .slice A' (os ++ [x]).length c' := by rw [show v' = _ from hv]; simp
 subst hv'
 refine ⟨A', c', w', hrun, ?_⟩
 have e : (os ++ [x]).map cells = os.map cells ++ [cells x] := by simp
 rw [e]; exact hG
section
variable {w W : World} {bs : List Bo} {old new : World → Prop}
end
def CapG (l : LaV) : Prop := ∀ g ∈ l.grs, g.l.length ≤ g.c
def sameQ (l : LaV) : LQ := ⟨l.kind, l.rows.map fun v => (v.ts.map plq).filter nzP, l.bias.map Prod.snd, [l.ch, l.high, l.wide, l.out, l.kh, l.kw, l.st, l.pad], l.kern.map Prod.snd, l.grs.map GrV.l⟩
theorem lex2 {W a a' c c' : Int} (hc : 0 ≤ c) (hc' : 0 ≤ c') (h : c < W) (_ : c' < W) (hl : a < a' ∨ (a = a' ∧ c < c')) : a * W + c < a' * W + c' := by
 rcases hl with hl | ⟨rfl, hl⟩
 ·have hW : 0 ≤ W := by omega
  have h1 : (a + 1) * W ≤ a' * W := Int.mul_le_mul_of_nonneg_right (by omega) hW
  rw [Int.add_mul, Int.one_mul] at h1
  omega
 ·omega
theorem lexN {kw a b : Nat} (h : a < b) : a / kw < b / kw ∨ (a / kw = b / kw ∧ a % kw < b % kw) := by
 rcases Nat.lt_or_ge (a / kw) (b / kw) with h1 | h1
 ·exact .inl h1
 ·have h2 : a / kw ≤ b / kw := Nat.div_le_div_right (Nat.le_of_lt h)
  have h3 : a / kw = b / kw := by omega
  refine .inr ⟨h3, ?_⟩
  have e1 := Nat.div_add_mod a kw
  have e2 := Nat.div_add_mod b kw
  rw [h3] at e1
  omega
def plK (kh kw : Nat) (high wide row col : Int) (k : Nat) : Option Int :=
 if 0 ≤ row + (k / kw % kh : Nat) ∧ row + (k / kw % kh : Nat) < high ∧ 0 ≤ col + (k % kw : Nat) ∧ col + (k % kw : Nat) < wide then
  some ((((k / kw / kh : Nat) : Int) * high + (row + (k / kw % kh : Nat))) * wide + (col + (k % kw : Nat))) else none
theorem plK_lt {kh kw : Nat} {high wide row col : Int} {k k' : Nat} {a a' : Int} (h : k < k') (e : plK kh kw high wide row col k = some a) (e' : plK kh kw high wide row col k' = some a') : a < a' := by
 unfold plK at e e'
 split at e
 ·rename_i hb
  split at e'
  ·rename_i hb'
   injection e with e
   injection e' with e'
   subst e e'
   refine lex2 hb.2.2.1 hb'.2.2.1 hb.2.2.2 hb'.2.2.2 ?_
   rcases lexN (kw := kw) h with h1 | ⟨h1, h2⟩
   ·left
    refine lex2 hb.1 hb'.1 hb.2.1 hb'.2.1 ?_
    rcases lexN (kw := kh) h1 with h2 | ⟨h2, h3⟩
    ·left; omega
    ·right; omega
   ·right
    rw [h1]
    exact ⟨rfl, by omega⟩
  ·cases e'
 ·cases e
theorem plK_rng {ch kh kw : Nat} {high wide row col : Int} {k : Nat} {a : Int} (hk : k < ch * kh * kw) (e : plK kh kw high wide row col k = some a) : 0 ≤ a ∧ a < (ch : Int) * high * wide := by
 unfold plK at e
 split at e
 ·rename_i hb
  injection e with e
  subst e
  have hkw : 0 < kw := by
   rcases Nat.eq_zero_or_pos kw with h | h
   ·subst h; simp at hk
   ·exact h
  have hkh : 0 < kh := by
   rcases Nat.eq_zero_or_pos kh with h | h
   ·subst h; simp at hk
   ·exact h
  have hp : k / kw / kh < ch := by
   rw [Nat.div_div_eq_div_mul, Nat.div_lt_iff_lt_mul (Nat.mul_pos hkw hkh)]
   rw [show ch * (kw * kh) = ch * kh * kw from by rw [Nat.mul_comm kw kh, Nat.mul_assoc]]
   exact hk
  generalize hP : (k / kw / kh) = P at hp
  generalize hR : row + ((k / kw % kh : Nat) : Int) = R at hb
  generalize hC : col + ((k % kw : Nat) : Int) = C at hb
  obtain ⟨h1, h2, h3, h4⟩ := hb
  have g0 : 0 ≤ (P : Int) * high := Int.mul_nonneg (by omega) (by omega)
  have g1 : 0 ≤ ((P : Int) * high + R) * wide := Int.mul_nonneg (by omega) (by omega)
  have g2 : ((P : Int) + 1) * high ≤ (ch : Int) * high := Int.mul_le_mul_of_nonneg_right (by omega) (by omega)
  rw [Int.add_mul, Int.one_mul] at g2
  have g3 : ((P : Int) * high + R + 1) * wide ≤ (ch : Int) * high * wide := Int.mul_le_mul_of_nonneg_right (by omega) (by omega)
  rw [Int.add_mul, Int.one_mul] at g3
  constructor <;> omega
 ·cases e
theorem nest {kh kw p i j : Nat} (hi : i < kh) (hj : j < kw) : ((p * kh + i) * kw + j) % kw = j ∧ ((p * kh + i) * kw + j) / kw % kh = i ∧ ((p * kh + i) * kw + j) / kw / kh = p := by
 have e1 : ((p * kh + i) * kw + j) / kw = p * kh + i := by
  rw [Nat.add_comm, Nat.add_mul_div_right _ _ (by omega), Nat.div_eq_of_lt hj, Nat.zero_add]
 refine ⟨by rw [Nat.add_comm, Nat.add_mul_mod_self_right, Nat.mod_eq_of_lt hj], ?_, ?_⟩
 ·rw [e1, Nat.add_comm, Nat.add_mul_mod_self_right, Nat.mod_eq_of_lt hi]
 ·rw [e1, Nat.add_comm, Nat.add_mul_div_right _ _ (by omega), Nat.div_eq_of_lt hi, Nat.zero_add]
def spotQ (pl : Nat → Option Int) (K : Nat → Rat) (n : Nat) : List (Int × Rat) := (List.range n).filterMap fun k => (pl k).map fun a => (a, K k)
theorem spotQ_next (pl : Nat → Option Int) (K : Nat → Rat) (n : Nat) : spotQ pl K (n + 1) = spotQ pl K n ++ (match pl n with | some a => [(a, K n)] | none => []) := by
 unfold spotQ
 rw [List.range_succ, List.filterMap_append]
 congr 1
 cases h : pl n <;> simp [h]
theorem spotQ_mem {pl : Nat → Option Int} {K : Nat → Rat} {n : Nat} {x : Int × Rat} (h : x ∈ spotQ pl K n) : ∃ k, k < n ∧ pl k = some x.1 ∧ x.2 = K k := by
 obtain ⟨k, hk, e⟩ := List.mem_filterMap.1 h
 rw [List.mem_range] at hk
 cases hp : pl k with
 | none => rw [hp] at e; cases e
 | some a =>
  rw [hp] at e
  simp only [Option.map_some, Option.some.injEq] at e
  subst e
  exact ⟨k, hk, hp, rfl⟩
theorem spotQ_rise {pl : Nat → Option Int} (hl : ∀ k k' a a', k < k' → pl k = some a → pl k' = some a' → a < a') (K : Nat → Rat) : ∀ n, (spotQ pl K n).Pairwise fun x y => x.1 < y.1
 | 0 => List.Pairwise.nil
 | n + 1 => by
  rw [spotQ_next]
  refine List.pairwise_append.2 ⟨spotQ_rise hl K n, ?_, fun x hx y hy => ?_⟩
  ·cases pl n
   ·exact List.Pairwise.nil
   ·exact List.pairwise_singleton _ _
  ·obtain ⟨k, hk, e, -⟩ := spotQ_mem hx
   cases hp : pl n with
   | none => rw [hp] at hy; simp at hy
   | some a =>
    rw [hp] at hy
    rw [List.mem_singleton.1 hy]
    exact hl k n _ _ hk e hp
def sumK (pl : Nat → Option Int) (K : Nat → Rat) (x : Int → Rat) : Nat → Rat
 | 0 => 0
 | k + 1 => sumK pl K x k + (match pl k with | some a => K k * x a | none => 0)
theorem sumK_dot (pl : Nat → Option Int) (K : Nat → Rat) (Y : List (Int × Rat)) : ∀ n, sumK pl K (getQ Y) n = dotQ (spotQ pl K n) Y
 | 0 => rfl
 | n + 1 => by
  rw [sumK, sumK_dot pl K Y n, spotQ_next, dotQ_app]
  congr 1
  cases pl n with
  | none => rfl
  | some a =>
   show K n * getQ Y a = dotQ [(a, K n)] Y
   exact (dotQ_one (a, K n) Y).symm
theorem range_get (g : Nat → Rat) : ∀ n (a : Int), getQ ((List.range n).map fun k : Nat => ((k : Int), g k)) a = if 0 ≤ a ∧ a < (n : Int) then g a.toNat else 0
 | 0, a => by rw [if_neg (by omega)]; rfl
 | n + 1, a => by
  rw [List.range_succ, List.map_append, getQ_app, range_get g n a, List.map_singleton, getQ_one]
  show _ + (if (n : Int) = a then g n else 0) = _
  by_cases e : (n : Int) = a
  ·subst e
   rw [if_neg (by omega), if_pos rfl, if_pos (by omega), Rat.zero_add, Int.toNat_natCast]
  ·rw [if_neg e, Rat.add_zero]
   by_cases h : 0 ≤ a ∧ a < (n : Int)
   ·rw [if_pos h, if_pos (by omega)]
   ·rw [if_neg h, if_neg (by omega)]
theorem wmul {a b m : Nat} (h : m = a * b) (hb : m ≤ 1152921504606846976) : IntKind.i64.wrap ((a : Int) * (b : Int)) = (m : Int) := by
 rw [wrap_id (by rw [← Int.natCast_mul, ← h]; omega), ← Int.natCast_mul, ← h]
theorem wadd {a b m : Nat} (h : m = a + b) (hb : m ≤ 1152921504606846976) : IntKind.i64.wrap ((a : Int) + (b : Int)) = (m : Int) := by
 rw [wrap_id (by omega)]; omega
def kq (ks : List Rat) (E o k : Nat) : Rat := (ks[o * E + k]?).getD 0
theorem plK_at {KH KW : Nat} {high wide row col : Int} {p i j : Nat} (hi : i < KH) (hj : j < KW) : plK KH KW high wide row col ((p * KH + i) * KW + j) = if 0 ≤ row + i ∧ row + i < high ∧ 0 ≤ col + j ∧ col + j < wide then some (((p : Int) * high + (row + i)) * wide + (col + j)) else none := by
 obtain ⟨h1, h2, h3⟩ := nest (p := p) hi hj
 unfold plK
 rw [h1, h2, h3]
section
variable {w W : World} {ls : List Ow} {old new : World → Prop}
theorem GL.appG {β : Type} {t e : TypeId} {k sz bytes g : Nat} {z : Value} {cells : β → Array Value} (ht : Tryz.prog.underlying t = some (.slice e)) (hinfo : (Tryz.prog.info? e).map (fun i => (i.zero, i.size, i.bytes)) = some (some z, sz, bytes)) (hz : z.cells.size = sz) (hsz : 0 < sz) (hby : bytes ≤ 1000)
 {A : Option Addr} {c : Nat} {l : List β} (h : GL w ls old new W) (hk : ls[k]? = some ⟨e, sz, .slice A l.length c, l.map cells⟩) (x : β) (hx : (cells x).size = sz) (h1 : ∀ u ∈ (cells x).toList, u.oneCell' = true) (hd : Blk W g e (cells x)) (hl : l.length ≤ 1000000) :
 ∃ A' c' w', (Builtin.append_ #[t, t] t #[.slice A l.length c, .slice (some ⟨g, 0, none⟩) 1 1]).run Tryz.prog W = .ok (.slice A' (l ++ [x]).length c') w' ∧ GL w (ls.set k ⟨e, sz, .slice A' (l ++ [x]).length c', (l ++ [x]).map cells⟩) old new w' := by
 have hel : El W sz (some ⟨g, 0, none⟩) [cells x] := by
  refine ⟨Sl.some_ _ _ _, fun i hi => ?_, fun i hi j hj => ?_⟩
  ·have : i = 0 := by simpa using hi
   subst this; exact hx
  ·have : i = 0 := by simpa using hi
   subst this
   rw [adr_some, Nat.zero_mul, Nat.zero_add, Nat.zero_add]
   exact hd.cell j
 have hm : (l.length + 1) * bytes ≤ 1000001 * 1000 := Nat.mul_le_mul (by omega) hby
 obtain ⟨v', w', hrun, hG, -, A', n', c', hv⟩ := GL.appAt (P := Tryz.prog) (c := 1) ht hinfo hz hsz h hk hel h1 (by simp; omega) (by simp [maxLen]; omega)
 obtain ⟨A2, c2, hv2, -⟩ := (hG.own _ (List.mem_of_getElem? (set_at _ _ _ _ hk))).form
 have hv' : v' = .slice A2 (l ++ [x]).length c2 := by rw [show v' = _ from hv2]; simp
 subst hv'
 refine ⟨A2, c2, w', hrun, ?_⟩
 have e : (l ++ [x]).map cells = l.map cells ++ [cells x] := by simp
 rw [e]; exact hG
theorem GL.els9 {k : Nat} {e : TypeId} {sz n cap : Nat} {A : Option Addr} {cs : List (Array Value)} (h : GL w ls old new W) (hk : ls[k]? = some ⟨e, sz, .slice A n cap, cs⟩) : Rests W (w.heap.size ≤ ·) (fun V => El V sz A cs) := by
 have ho : OwnE W w.heap.size e sz (.slice A n cap) cs := h.own _ (List.mem_of_getElem? hk)
 obtain ⟨A', c', hv, -, hr⟩ := ho.reads
 obtain ⟨rfl, -, -⟩ : A = A' ∧ n = cs.length ∧ cap = c' := by simpa using hv
 exact hr
end
def rowF (KH KW H W ST PD R Q E : Nat) (ks : List Rat) (k : Nat) : List (Int × Rat) := (spotQ (plK KH KW (H : Int) (W : Int) (((k / Q % R * ST : Nat) : Int) - (PD : Int)) (((k % Q * ST : Nat) : Int) - (PD : Int))) (kq ks E (k / Q / R)) E).filter nzP
def biasF (R Q : Nat) (bs : List Rat) (k : Nat) : Rat := (bs[k / Q / R]?).getD 0
def sumsQ (C H W O KH KW ST PD R Q : Nat) (ks bs : List Rat) : LQ := ⟨1, (List.range (O * R * Q)).map (rowF KH KW H W ST PD R Q (C * KH * KW) ks), (List.range (O * R * Q)).map (biasF R Q bs), [0, 0, 0, 0, 0, 0, 0, 0], [], []⟩
end Go.Proofs.YtplhmeiciiajcaaGreatDoor
