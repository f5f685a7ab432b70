/-
 Sorting a list of at most 1000 that rises already: nothing moves. sparse.Norm of a rising list of at most 1000. lower: copied, numbers, same. lower.same. The plain law of Conv: which input a kernel's number falls on; what a row is. lower.spot: a row of a picture. lower.sums: the Affine of a Conv.
-/
import Derived.Test.YtikmgoefjbhcjaaGreatDoorSS
import Derived.Test.YtikmgoefjbhcjaaGreatDoorSV
import Derived.Test.YtikmgoefjbhcjaaGreatDoorNH
import Derived.Test.YtikmgoefjbhcjaaGreatDoorV18
namespace Go.Proofs.YtikmgoefjbhcjaaGreatDoor
set_option maxHeartbeats 16000000
open Go.RowKit

set_option maxRecDepth 100000 in
theorem zmw (w : World) (ok : TeV → World → Prop) (hok : ∀ p W, ok p W → Rests W (· < W.heap.size) (ok p)) (A : Option Addr) (c : Nat) (ts : List TeV) (h : LsR 5 tecells ok A ts w) (hl : ts.length ≤ 1000000) (hr : Rise ts) (a m b : Nat) (hm : m = a + 1) (hmb : m < b) (hb : b ≤ ts.length) :
 Calls Tryz.prog 184 #[.slice A ts.length c, .int .i64 (a : Int), .int .i64 (m : Int), .int .i64 (b : Int), .func (.func 81) #[] #[]] w fun e w' => e = .returned (.tuple #[]) ∧ Below w.heap.size w w' := by
 have sl1 := h.sl
 have hsz1 := zas
 have hadd := za3
 have HE := zmZ (Env.start (h.old hok))
 have HR := zmZ hr
 clear h hr
 have hd1 : IntKind.i64.wrap ((m : Int) - (a : Int)) = 1 := by rw [IntKind.wrap_i64]; omega
 have hd2 : IntKind.i64.wrap ((m : Int) - 1) = (a : Int) := by rw [IntKind.wrap_i64]; omega
 have Hm := zmZ hm
 clear hm
 go_enter Tryz.func184, Tryz.ntmps184
 go_wp2_with fail
 go_loopw [10, 11, 12] (fun iv jv xv wr => ∃ (j : Nat) (x : Value), iv = .int .i64 (m : Int) ∧ jv = .int .i64 (j : Int) ∧ xv = x ∧ m ≤ j ∧ j ≤ b ∧ Hid (Env w [] (fun V => LsR 5 tecells ok A ts V) (fun _ => True) wr)) (fun _ jv _ _ => (intOf jv).toNat)
 case atStart => exact ⟨b, _, rfl, rfl, rfl, by omega, Nat.le_refl _, HE⟩
 case round =>
  clear HE
  obtain ⟨j, x, rfl, rfl, rfl, hj1, hj2, HE⟩ := hrel
  by_cases hlt : m < j
  ·have hlt' : (m : Int) < (j : Int) := by omega
   have ha := Hm.out
   obtain ⟨k, hk⟩ : ∃ k, (m + j) / 2 = k := ⟨_, rfl⟩
   have hki : ((m : Int) + (j : Int)) / 2 = (k : Int) := by omega
   have hk1 : m ≤ k := by omega
   have hk2 : k < j := by omega
   have hi1 : ((k : Nat) : Int) < (ts.length : Int) := by omega
   have hi2 : ((a : Nat) : Int) < (ts.length : Int) := by omega
   have hi3 : k < ts.length := by omega
   have hi4 : a < ts.length := by omega
   have Hx := zmZ (fun (V : World) (h : LsR 5 tecells ok A ts V) => And.intro (h.tc (k) (by omega)) (h.tc (a) (by omega)))
   have hcmp : cmpI (ts[k]'(by omega)).pl (ts[a]'(by omega)).pl = 1 := by
    have h1 := HR.out.at_ (i := a) (j := k) (by omega) (by omega)
    unfold cmpI
    rw [if_neg (by omega), if_pos h1]
   generalize (ts[k]'(by omega)) = t at *
   generalize (ts[a]'(by omega)) = u at *
   have c := Hx.out _ HE.out.o
   clear ha
   go_upto_region 5 with fail
   go_region_held3 (fun W => TC A (k) t W ∧ TC A (a) u W) (first | with_reducible exact c | ((repeat' apply And.intro) <;> go_keep) | exact c)
    (first
     | (go_at_call 81; go_must (refine (zbI _ t u).mono ?_; rintro e w1 ⟨rfl, hb⟩; replace HE := zmZ (Env.cx HE.out hb); replace c := Hx.out _ HE.out.o; clear hb; rw [hcmp])))
   go_wp2_with fail
   go_roundw
   case rel => exact ⟨k, _, rfl, rfl, rfl, by omega, by omega, HE⟩
   case measure => (simp [intOf] <;> omega)
  ·obtain rfl : j = m := by omega
   go_wp2_with fail
   go_loopw [13] (fun kv wr => kv = .int .i64 (a : Int) ∧ Hid (Env w [] (fun V => LsR 5 tecells ok A ts V) (fun _ => True) wr)) (fun _ _ => 0)
   case atStart => exact ⟨rfl, HE⟩
   case round =>
    clear HE
    obtain ⟨rfl, HE⟩ := hrel
    go_wp2_with fail
    refine bodyPost_ret (results_none rfl _ _ _) rfl ?_
    exact ⟨rfl, HE.out.bel⟩
set_option maxRecDepth 100000 in
theorem zm0 (w : World) (ok : TeV → World → Prop) (hok : ∀ p W, ok p W → Rests W (· < W.heap.size) (ok p)) (A : Option Addr) (c : Nat) (ts : List TeV) (h : LsR 5 tecells ok A ts w) (hl : ts.length ≤ 1000000) (hr : Rise ts) (a m b : Nat) (ham : a + 1 < m) (hbm : b = m + 1) (hb : b ≤ ts.length) :
 Calls Tryz.prog 184 #[.slice A ts.length c, .int .i64 (a : Int), .int .i64 (m : Int), .int .i64 (b : Int), .func (.func 81) #[] #[]] w fun e w' => e = .returned (.tuple #[]) ∧ Below w.heap.size w w' := by
 have sl1 := h.sl
 have hsz1 := zas
 have hadd := za3
 have HE := zmZ (Env.start (h.old hok))
 have HR := zmZ hr
 clear h hr
 obtain ⟨x1, hx1⟩ : ∃ x, IntKind.i64.wrap ((m : Int) - (a : Int)) = x := ⟨_, rfl⟩
 have hx2 : ¬ x1 = 1 := by rw [← hx1, IntKind.wrap_i64]; omega
 have hx3 : (x1 == 1) = false := by simp [hx2]
 have hd2 : IntKind.i64.wrap ((b : Int) - (m : Int)) = 1 := by rw [IntKind.wrap_i64]; omega
 have Hm := zmZ hbm
 clear hbm
 go_enter Tryz.func184, Tryz.ntmps184
 go_wp2_with fail
 go_loopw [14, 15, 16] (fun iv jv xv wr => ∃ (i : Nat) (x : Value), iv = .int .i64 (i : Int) ∧ jv = .int .i64 (m : Int) ∧ xv = x ∧ a ≤ i ∧ i ≤ m ∧ Hid (Env w [] (fun V => LsR 5 tecells ok A ts V) (fun _ => True) wr)) (fun iv _ _ _ => m - (intOf iv).toNat)
 case atStart => exact ⟨a, _, rfl, rfl, rfl, Nat.le_refl _, by omega, HE⟩
 case round =>
  clear HE
  obtain ⟨j, x, rfl, rfl, rfl, hj1, hj2, HE⟩ := hrel
  by_cases hlt : j < m
  ·have hlt' : (j : Int) < (m : Int) := by omega
   have ha := Hm.out
   obtain ⟨k, hk⟩ : ∃ k, (j + m) / 2 = k := ⟨_, rfl⟩
   have hki : ((j : Int) + (m : Int)) / 2 = (k : Int) := by omega
   have hk1 : j ≤ k := by omega
   have hk2 : k < m := by omega
   have hi1 : ((m : Nat) : Int) < (ts.length : Int) := by omega
   have hi2 : ((k : Nat) : Int) < (ts.length : Int) := by omega
   have hi3 : m < ts.length := by omega
   have hi4 : k < ts.length := by omega
   have Hx := zmZ (fun (V : World) (h : LsR 5 tecells ok A ts V) => And.intro (h.tc (m) (by omega)) (h.tc (k) (by omega)))
   have hcmp : cmpI (ts[m]'(by omega)).pl (ts[k]'(by omega)).pl = 1 := by
    have h1 := HR.out.at_ (i := k) (j := m) (by omega) (by omega)
    unfold cmpI
    rw [if_neg (by omega), if_pos h1]
   generalize (ts[m]'(by omega)) = t at *
   generalize (ts[k]'(by omega)) = u at *
   have c := Hx.out _ HE.out.o
   clear ha
   go_upto_region 17 with fail
   go_region_held3 (fun W => TC A (m) t W ∧ TC A (k) u W) (first | with_reducible exact c | ((repeat' apply And.intro) <;> go_keep) | exact c)
    (first
     | (go_at_call 81; go_must (refine (zbI _ t u).mono ?_; rintro e w1 ⟨rfl, hb⟩; replace HE := zmZ (Env.cx HE.out hb); replace c := Hx.out _ HE.out.o; clear hb; rw [hcmp])))
   go_wp2_with fail
   go_roundw
   case rel => exact ⟨k + 1, _, by go_num, rfl, rfl, by omega, by omega, HE⟩
   case measure => (simp [intOf] <;> omega)
  ·obtain rfl : j = m := by omega
   have hns : ¬ (j : Int) > (j : Int) := by omega
   go_wp2_with fail
   go_loopw [17] (fun kv wr => kv = .int .i64 (j : Int) ∧ Hid (Env w [] (fun V => LsR 5 tecells ok A ts V) (fun _ => True) wr)) (fun _ _ => 0)
   case atStart => exact ⟨rfl, HE⟩
   case round =>
    clear HE
    obtain ⟨rfl, HE⟩ := hrel
    go_wp2_with fail
    refine bodyPost_ret (results_none rfl _ _ _) rfl ?_
    exact ⟨rfl, HE.out.bel⟩
set_option maxRecDepth 100000 in
theorem zko (w : World) (ok : TeV → World → Prop) (hok : ∀ p W, ok p W → Rests W (· < W.heap.size) (ok p)) (A : Option Addr) (c : Nat) (ts : List TeV) (h : LsR 5 tecells ok A ts w) (hl : ts.length ≤ 1000000) (hr : Rise ts) (a m b d : Nat) (ham : a + 1 < m) (hmb : m + 1 < b) (hb : b ≤ ts.length) (hd : (a + b) / 2 = d) (hmd : d < m) (hih : ∀ (a' m' b' : Nat), a' < m' → m' < b' → b' ≤ ts.length → b' - a' < b - a → ∀ V, LsR 5 tecells ok A ts V → Calls Tryz.prog 184 #[.slice A ts.length c, .int .i64 (a' : Int), .int .i64 (m' : Int), .int .i64 (b' : Int), .func (.func 81) #[] #[]] V fun e w' => e = .returned (.tuple #[]) ∧ Below V.heap.size V w') :
 Calls Tryz.prog 184 #[.slice A ts.length c, .int .i64 (a : Int), .int .i64 (m : Int), .int .i64 (b : Int), .func (.func 81) #[] #[]] w fun e w' => e = .returned (.tuple #[]) ∧ Below w.heap.size w w' := by
 have sl1 := h.sl
 have hsz1 := zas
 have hadd := za3
 have HE := zmZ (Env.start (h.old hok))
 have HR := zmZ hr
 clear h hr
 obtain ⟨x1, hx1⟩ : ∃ x, IntKind.i64.wrap ((m : Int) - (a : Int)) = x := ⟨_, rfl⟩
 have hx2 : ¬ x1 = 1 := by rw [← hx1, IntKind.wrap_i64]; omega
 have hx3 : (x1 == 1) = false := by simp [hx2]
 obtain ⟨y1, hy1⟩ : ∃ x, IntKind.i64.wrap ((b : Int) - (m : Int)) = x := ⟨_, rfl⟩
 have hy2 : ¬ y1 = 1 := by rw [← hy1, IntKind.wrap_i64]; omega
 have hy3 : (y1 == 1) = false := by simp [hy2]
 have hdi : ((a : Int) + (b : Int)) / 2 = (d : Int) := by omega
 have hd4 : IntKind.i64.wrap ((d : Int) + (m : Int)) = ((d + m : Nat) : Int) := by rw [IntKind.wrap_i64]; omega
 obtain ⟨n, hn⟩ : ∃ n, n = d + m := ⟨_, rfl⟩
 rw [← hn] at hd4
 obtain ⟨p, hp⟩ : ∃ p, p + 1 = n := ⟨n - 1, by omega⟩
 have hd5 : IntKind.i64.wrap ((n : Int) - 1) = (p : Int) := by rw [IntKind.wrap_i64]; omega
 have Hd := zmZ hd
 have Hn := zmZ hn
 have Hp := zmZ hp
 obtain ⟨s, hs⟩ : ∃ s, s + b = n := ⟨n - b, by omega⟩
 have Hs := zmZ hs
 have hd6 : IntKind.i64.wrap ((n : Int) - (b : Int)) = (s : Int) := by rw [IntKind.wrap_i64]; omega
 have hd7 : (d : Int) < (m : Int) := by omega
 have hd8 : IntKind.i64.wrap ((n : Int) - (d : Int)) = (m : Int) := by rw [IntKind.wrap_i64]; omega
 have hd9 : (m : Int) < (b : Int) := by omega
 have hd10 : (a : Int) < (d : Int) := by omega
 have Hih := zmZ (fun V => hih d m b hmd (by omega) hb (by omega) V)
 clear hs hih
 clear hn hp
 go_enter Tryz.func184, Tryz.ntmps184
 go_wp2_with fail
 go_loopw [20, 21, 23] (fun iv jv xv wr => ∃ (i : Nat) (x : Value), iv = .int .i64 (i : Int) ∧ jv = .int .i64 (d : Int) ∧ xv = x ∧ s ≤ i ∧ i ≤ d ∧ Hid (Env w [] (fun V => LsR 5 tecells ok A ts V) (fun _ => True) wr)) (fun iv _ _ _ => d - (intOf iv).toNat)
 case atStart => exact ⟨s, _, rfl, rfl, rfl, Nat.le_refl _, by have := Hs.out; have := Hd.out; have := Hn.out; omega, HE⟩
 case round =>
  clear HE
  obtain ⟨j, x, rfl, rfl, rfl, hj1, hj2, HE⟩ := hrel
  by_cases hlt : j < d
  ·have hlt' : (j : Int) < (d : Int) := by omega
   have h1 := Hd.out
   have h2 := Hn.out
   have h3 := Hp.out
   have h4 := Hs.out
   obtain ⟨k, hk⟩ : ∃ k, (j + d) / 2 = k := ⟨_, rfl⟩
   have hki : ((j : Int) + (d : Int)) / 2 = (k : Int) := by omega
   have hk1 : j ≤ k := by omega
   have hk2 : k < d := by omega
   obtain ⟨q, hq⟩ : ∃ q, q + k = p := ⟨p - k, by omega⟩
   have hh2 : IntKind.i64.wrap ((p : Int) - (k : Int)) = (q : Int) := by rw [IntKind.wrap_i64]; omega
   have hi1 : ((q : Nat) : Int) < (ts.length : Int) := by omega
   have hi2 : ((k : Nat) : Int) < (ts.length : Int) := by omega
   have hi3 : q < ts.length := by omega
   have hi4 : k < ts.length := by omega
   have Hx := zmZ (fun (V : World) (h : LsR 5 tecells ok A ts V) => And.intro (h.tc (q) (by omega)) (h.tc (k) (by omega)))
   have hcmp : cmpI (ts[q]'(by omega)).pl (ts[k]'(by omega)).pl = 1 := by
    have h1 := HR.out.at_ (i := k) (j := q) (by omega) (by omega)
    unfold cmpI
    rw [if_neg (by omega), if_pos h1]
   generalize (ts[q]'(by omega)) = t at *
   generalize (ts[k]'(by omega)) = u at *
   have c := Hx.out _ HE.out.o
   clear h1 h2 h3 hq
   go_upto_region 35 with fail
   go_region_held3 (fun W => TC A (q) t W ∧ TC A (k) u W) (first | with_reducible exact c | ((repeat' apply And.intro) <;> go_keep) | exact c)
    (first
     | (go_at_call 81; go_must (refine (zbI _ t u).mono ?_; rintro e w1 ⟨rfl, hb⟩; replace HE := zmZ (Env.cx HE.out hb); replace c := Hx.out _ HE.out.o; clear hb; rw [hcmp])))
   go_wp2_with fail
   go_roundw
   case rel => exact ⟨k + 1, _, by go_num, rfl, rfl, by omega, by omega, HE⟩
   case measure => (simp [intOf] <;> omega)
  ·obtain rfl : j = d := by omega
   go_wp2_with fail
   refine (Hih.out _ HE.out.o).mono ?_
   rintro e w1 ⟨rfl, hb⟩
   replace HE := zmZ (Env.call HE.out hb)
   clear hb
   go_wp2_with fail
   go_end0
   exact ⟨rfl, HE.out.bel⟩
set_option maxRecDepth 100000 in
theorem zl8 (w : World) (ok : TeV → World → Prop) (hok : ∀ p W, ok p W → Rests W (· < W.heap.size) (ok p)) (A : Option Addr) (c : Nat) (ts : List TeV) (h : LsR 5 tecells ok A ts w) (hl : ts.length ≤ 1000000) (hr : Rise ts) (a m b d : Nat) (ham : a + 1 < m) (hmb : m + 1 < b) (hb : b ≤ ts.length) (hd : (a + b) / 2 = d) (hmd : m < d) (hih : ∀ (a' m' b' : Nat), a' < m' → m' < b' → b' ≤ ts.length → b' - a' < b - a → ∀ V, LsR 5 tecells ok A ts V → Calls Tryz.prog 184 #[.slice A ts.length c, .int .i64 (a' : Int), .int .i64 (m' : Int), .int .i64 (b' : Int), .func (.func 81) #[] #[]] V fun e w' => e = .returned (.tuple #[]) ∧ Below V.heap.size V w') :
 Calls Tryz.prog 184 #[.slice A ts.length c, .int .i64 (a : Int), .int .i64 (m : Int), .int .i64 (b : Int), .func (.func 81) #[] #[]] w fun e w' => e = .returned (.tuple #[]) ∧ Below w.heap.size w w' := by
 have sl1 := h.sl
 have hsz1 := zas
 have hadd := za3
 have HE := zmZ (Env.start (h.old hok))
 have HR := zmZ hr
 clear h hr
 obtain ⟨x1, hx1⟩ : ∃ x, IntKind.i64.wrap ((m : Int) - (a : Int)) = x := ⟨_, rfl⟩
 have hx2 : ¬ x1 = 1 := by rw [← hx1, IntKind.wrap_i64]; omega
 have hx3 : (x1 == 1) = false := by simp [hx2]
 obtain ⟨y1, hy1⟩ : ∃ x, IntKind.i64.wrap ((b : Int) - (m : Int)) = x := ⟨_, rfl⟩
 have hy2 : ¬ y1 = 1 := by rw [← hy1, IntKind.wrap_i64]; omega
 have hy3 : (y1 == 1) = false := by simp [hy2]
 have hdi : ((a : Int) + (b : Int)) / 2 = (d : Int) := by omega
 have hd4 : IntKind.i64.wrap ((d : Int) + (m : Int)) = ((d + m : Nat) : Int) := by rw [IntKind.wrap_i64]; omega
 obtain ⟨n, hn⟩ : ∃ n, n = d + m := ⟨_, rfl⟩
 rw [← hn] at hd4
 obtain ⟨p, hp⟩ : ∃ p, p + 1 = n := ⟨n - 1, by omega⟩
 have hd5 : IntKind.i64.wrap ((n : Int) - 1) = (p : Int) := by rw [IntKind.wrap_i64]; omega
 have Hd := zmZ hd
 have Hn := zmZ hn
 have Hp := zmZ hp
 have hd7 : ¬ (d : Int) < (m : Int) := by omega
 have hd8 : IntKind.i64.wrap ((n : Int) - (m : Int)) = (d : Int) := by rw [IntKind.wrap_i64]; omega
 have hd9 : (a : Int) < (m : Int) := by omega
 have hd10 : (m : Int) < (d : Int) := by omega
 have Hih := zmZ (fun V => hih a m d (by omega) hmd (by omega) (by omega) V)
 clear hih
 clear hn hp
 go_enter Tryz.func184, Tryz.ntmps184
 go_wp2_with fail
 go_loopw [20, 21, 23] (fun iv jv xv wr => ∃ (i : Nat) (x : Value), iv = .int .i64 (i : Int) ∧ jv = .int .i64 (m : Int) ∧ xv = x ∧ a ≤ i ∧ i ≤ m ∧ Hid (Env w [] (fun V => LsR 5 tecells ok A ts V) (fun _ => True) wr)) (fun iv _ _ _ => m - (intOf iv).toNat)
 case atStart => exact ⟨a, _, rfl, rfl, rfl, Nat.le_refl _, by have := Hd.out; have := Hn.out; omega, HE⟩
 case round =>
  clear HE
  obtain ⟨j, x, rfl, rfl, rfl, hj1, hj2, HE⟩ := hrel
  by_cases hlt : j < m
  ·have hlt' : (j : Int) < (m : Int) := by omega
   have h1 := Hd.out
   have h2 := Hn.out
   have h3 := Hp.out
   obtain ⟨k, hk⟩ : ∃ k, (j + m) / 2 = k := ⟨_, rfl⟩
   have hki : ((j : Int) + (m : Int)) / 2 = (k : Int) := by omega
   have hk1 : j ≤ k := by omega
   have hk2 : k < m := by omega
   obtain ⟨q, hq⟩ : ∃ q, q + k = p := ⟨p - k, by omega⟩
   have hh2 : IntKind.i64.wrap ((p : Int) - (k : Int)) = (q : Int) := by rw [IntKind.wrap_i64]; omega
   have hi1 : ((q : Nat) : Int) < (ts.length : Int) := by omega
   have hi2 : ((k : Nat) : Int) < (ts.length : Int) := by omega
   have hi3 : q < ts.length := by omega
   have hi4 : k < ts.length := by omega
   have Hx := zmZ (fun (V : World) (h : LsR 5 tecells ok A ts V) => And.intro (h.tc (q) (by omega)) (h.tc (k) (by omega)))
   have hcmp : cmpI (ts[q]'(by omega)).pl (ts[k]'(by omega)).pl = 1 := by
    have h1 := HR.out.at_ (i := k) (j := q) (by omega) (by omega)
    unfold cmpI
    rw [if_neg (by omega), if_pos h1]
   generalize (ts[q]'(by omega)) = t at *
   generalize (ts[k]'(by omega)) = u at *
   have c := Hx.out _ HE.out.o
   clear h1 h2 h3 hq
   go_upto_region 35 with fail
   go_region_held3 (fun W => TC A (q) t W ∧ TC A (k) u W) (first | with_reducible exact c | ((repeat' apply And.intro) <;> go_keep) | exact c)
    (first
     | (go_at_call 81; go_must (refine (zbI _ t u).mono ?_; rintro e w1 ⟨rfl, hb⟩; replace HE := zmZ (Env.cx HE.out hb); replace c := Hx.out _ HE.out.o; clear hb; rw [hcmp])))
   go_wp2_with fail
   go_roundw
   case rel => exact ⟨k + 1, _, by go_num, rfl, rfl, by omega, by omega, HE⟩
   case measure => (simp [intOf] <;> omega)
  ·obtain rfl : j = m := by omega
   go_wp2_with fail
   refine (Hih.out _ HE.out.o).mono ?_
   rintro e w1 ⟨rfl, hb⟩
   replace HE := zmZ (Env.call HE.out hb)
   clear hb
   go_wp2_with fail
   go_end0
   exact ⟨rfl, HE.out.bel⟩
set_option maxRecDepth 100000 in
theorem zl5 (w : World) (ok : TeV → World → Prop) (hok : ∀ p W, ok p W → Rests W (· < W.heap.size) (ok p)) (A : Option Addr) (c : Nat) (ts : List TeV) (h : LsR 5 tecells ok A ts w) (hl : ts.length ≤ 1000000) (hr : Rise ts) (a m b d : Nat) (ham : a + 1 < m) (hmb : m + 1 < b) (hb : b ≤ ts.length) (hd : (a + b) / 2 = d) (hmd : m = d) :
 Calls Tryz.prog 184 #[.slice A ts.length c, .int .i64 (a : Int), .int .i64 (m : Int), .int .i64 (b : Int), .func (.func 81) #[] #[]] w fun e w' => e = .returned (.tuple #[]) ∧ Below w.heap.size w w' := by
 have sl1 := h.sl
 have hsz1 := zas
 have hadd := za3
 have HE := zmZ (Env.start (h.old hok))
 have HR := zmZ hr
 clear h hr
 obtain ⟨x1, hx1⟩ : ∃ x, IntKind.i64.wrap ((m : Int) - (a : Int)) = x := ⟨_, rfl⟩
 have hx2 : ¬ x1 = 1 := by rw [← hx1, IntKind.wrap_i64]; omega
 have hx3 : (x1 == 1) = false := by simp [hx2]
 obtain ⟨y1, hy1⟩ : ∃ x, IntKind.i64.wrap ((b : Int) - (m : Int)) = x := ⟨_, rfl⟩
 have hy2 : ¬ y1 = 1 := by rw [← hy1, IntKind.wrap_i64]; omega
 have hy3 : (y1 == 1) = false := by simp [hy2]
 have hdi : ((a : Int) + (b : Int)) / 2 = (d : Int) := by omega
 have hd4 : IntKind.i64.wrap ((d : Int) + (m : Int)) = ((d + m : Nat) : Int) := by rw [IntKind.wrap_i64]; omega
 obtain ⟨n, hn⟩ : ∃ n, n = d + m := ⟨_, rfl⟩
 rw [← hn] at hd4
 obtain ⟨p, hp⟩ : ∃ p, p + 1 = n := ⟨n - 1, by omega⟩
 have hd5 : IntKind.i64.wrap ((n : Int) - 1) = (p : Int) := by rw [IntKind.wrap_i64]; omega
 have Hd := zmZ hd
 have Hn := zmZ hn
 have Hp := zmZ hp
 have hd7 : ¬ (d : Int) < (m : Int) := by omega
 have hd8 : IntKind.i64.wrap ((n : Int) - (m : Int)) = (d : Int) := by rw [IntKind.wrap_i64]; omega
 have hd9 : (a : Int) < (m : Int) := by omega
 have hd10 : ¬ (m : Int) < (d : Int) := by omega
 have hd11 : (m : Int) = (d : Int) := by omega
 have Hmd := zmZ hd11
 clear hd11 hmd
 clear hn hp
 go_enter Tryz.func184, Tryz.ntmps184
 go_wp2_with fail
 go_loopw [20, 21, 23] (fun iv jv xv wr => ∃ (i : Nat) (x : Value), iv = .int .i64 (i : Int) ∧ jv = .int .i64 (m : Int) ∧ xv = x ∧ a ≤ i ∧ i ≤ m ∧ Hid (Env w [] (fun V => LsR 5 tecells ok A ts V) (fun _ => True) wr)) (fun iv _ _ _ => m - (intOf iv).toNat)
 case atStart => exact ⟨a, _, rfl, rfl, rfl, Nat.le_refl _, by have := Hd.out; have := Hn.out; omega, HE⟩
 case round =>
  clear HE
  obtain ⟨j, x, rfl, rfl, rfl, hj1, hj2, HE⟩ := hrel
  by_cases hlt : j < m
  ·have hlt' : (j : Int) < (m : Int) := by omega
   have h1 := Hd.out
   have h2 := Hn.out
   have h3 := Hp.out
   obtain ⟨k, hk⟩ : ∃ k, (j + m) / 2 = k := ⟨_, rfl⟩
   have hki : ((j : Int) + (m : Int)) / 2 = (k : Int) := by omega
   have hk1 : j ≤ k := by omega
   have hk2 : k < m := by omega
   obtain ⟨q, hq⟩ : ∃ q, q + k = p := ⟨p - k, by omega⟩
   have hh2 : IntKind.i64.wrap ((p : Int) - (k : Int)) = (q : Int) := by rw [IntKind.wrap_i64]; omega
   have hi1 : ((q : Nat) : Int) < (ts.length : Int) := by omega
   have hi2 : ((k : Nat) : Int) < (ts.length : Int) := by omega
   have hi3 : q < ts.length := by omega
   have hi4 : k < ts.length := by omega
   have Hx := zmZ (fun (V : World) (h : LsR 5 tecells ok A ts V) => And.intro (h.tc (q) (by omega)) (h.tc (k) (by omega)))
   have hcmp : cmpI (ts[q]'(by omega)).pl (ts[k]'(by omega)).pl = 1 := by
    have h1 := HR.out.at_ (i := k) (j := q) (by omega) (by omega)
    unfold cmpI
    rw [if_neg (by omega), if_pos h1]
   generalize (ts[q]'(by omega)) = t at *
   generalize (ts[k]'(by omega)) = u at *
   have c := Hx.out _ HE.out.o
   clear h1 h2 h3 hq
   go_upto_region 35 with fail
   go_region_held3 (fun W => TC A (q) t W ∧ TC A (k) u W) (first | with_reducible exact c | ((repeat' apply And.intro) <;> go_keep) | exact c)
    (first
     | (go_at_call 81; go_must (refine (zbI _ t u).mono ?_; rintro e w1 ⟨rfl, hb⟩; replace HE := zmZ (Env.cx HE.out hb); replace c := Hx.out _ HE.out.o; clear hb; rw [hcmp])))
   go_wp2_with fail
   go_roundw
   case rel => exact ⟨k + 1, _, by go_num, rfl, rfl, by omega, by omega, HE⟩
   case measure => (simp [intOf] <;> omega)
  ·obtain rfl : j = m := by omega
   go_wp2_with fail
   go_end0
   exact ⟨rfl, HE.out.bel⟩
theorem zfO (ok : TeV → World → Prop) (hok : ∀ p W, ok p W → Rests W (· < W.heap.size) (ok p)) (A : Option Addr) (c : Nat) (ts : List TeV) (hl : ts.length ≤ 1000000) (hr : Rise ts) : ∀ (k a m b : Nat), b - a ≤ k → a < m → m < b → b ≤ ts.length → ∀ w, LsR 5 tecells ok A ts w →
 Calls Tryz.prog 184 #[.slice A ts.length c, .int .i64 (a : Int), .int .i64 (m : Int), .int .i64 (b : Int), .func (.func 81) #[] #[]] w fun e w' => e = .returned (.tuple #[]) ∧ Below w.heap.size w w' := by
 intro k
 induction k with
 | zero => intro a m b h1 h2 h3; omega
 | succ k ih =>
  intro a m b hk ham hmb hb w h
  by_cases e1 : m = a + 1
  ·exact zmw w ok hok A c ts h hl hr a m b e1 hmb hb
  ·by_cases e2 : b = m + 1
   ·exact zm0 w ok hok A c ts h hl hr a m b (by omega) e2 hb
   ·have hih : ∀ (a' m' b' : Nat), a' < m' → m' < b' → b' ≤ ts.length → b' - a' < b - a → ∀ V, LsR 5 tecells ok A ts V → Calls Tryz.prog 184 #[.slice A ts.length c, .int .i64 (a' : Int), .int .i64 (m' : Int), .int .i64 (b' : Int), .func (.func 81) #[] #[]] V fun e w' => e = .returned (.tuple #[]) ∧ Below V.heap.size V w' :=
     fun a' m' b' h1 h2 h3 h4 V hV => ih a' m' b' (by omega) h1 h2 h3 V hV
    rcases Nat.lt_trichotomy m ((a + b) / 2) with e3 | e3 | e3
    ·exact zl8 w ok hok A c ts h hl hr a m b _ (by omega) (by omega) hb rfl e3 hih
    ·exact zl5 w ok hok A c ts h hl hr a m b _ (by omega) (by omega) hb rfl e3
    ·exact zko w ok hok A c ts h hl hr a m b _ (by omega) (by omega) hb rfl e3 hih
set_option maxRecDepth 100000 in
theorem zeT (w : World) (ok : TeV → World → Prop) (hok : ∀ p W, ok p W → Rests W (· < W.heap.size) (ok p)) (A : Option Addr) (c : Nat) (ts : List TeV) (h : LsR 5 tecells ok A ts w) (hl : ts.length ≤ 1000) (hr : Rise ts) :
 Calls Tryz.prog 125 #[.slice A ts.length c, .int .i64 (ts.length : Int), .func (.func 81) #[] #[]] w fun e w' => e = .returned (.tuple #[]) ∧ Below w.heap.size w w' := by
 have HE := zmZ (Env.start (h.old hok))
 have HR := zmZ hr
 clear h hr
 go_enter Tryz.func125, Tryz.ntmps125
 go_wp2_with fail
 go_loopw [7, 8] (fun av bv wr => ∃ a : Nat, av = .int .i64 (a : Int) ∧ bv = .int .i64 ((a : Int) + 20) ∧ a ≤ ts.length ∧ Hid (Env w [] (fun V => LsR 5 tecells ok A ts V) (fun _ => True) wr)) (fun av _ _ => ts.length - (intOf av).toNat)
 case atStart => exact ⟨0, rfl, by go_num, Nat.zero_le _, HE⟩
 case round =>
  clear HE
  obtain ⟨a, rfl, rfl, ha, HE⟩ := hrel
  by_cases hb : a + 20 ≤ ts.length
  ·have hb' : (a : Int) + 20 ≤ (ts.length : Int) := by omega
   go_wp2_with fail
   refine (zcT _ ok hok A c ts HE.out.o a (a + 20) _ _ rfl (by omega) (by omega) (by omega) (by omega) HR.out).mono ?_
   rintro e w1 ⟨rfl, hb2⟩
   replace HE := zmZ (Env.call HE.out hb2)
   clear hb2
   go_wp2_with fail
   go_roundw
   case rel => exact ⟨a + 20, by go_num, by go_num, hb, HE⟩
   case measure => (simp [intOf] <;> omega)
  ·have hb' : ¬ (a : Int) + 20 ≤ (ts.length : Int) := by omega
   go_wp2_with fail
   refine (zcT _ ok hok A c ts HE.out.o a ts.length _ _ rfl rfl (by omega) (by omega) (by omega) HR.out).mono ?_
   rintro e w1 ⟨rfl, hb2⟩
   replace HE := zmZ (Env.call HE.out hb2)
   clear hb2 hb' hb ha
   go_wp2_with fail
   go_loopw [6, 7, 8, 9] (fun sv av bv mv wr => ∃ (s : Nat) (x y z : Value), sv = .int .i64 (s : Int) ∧ av = x ∧ bv = y ∧ mv = z ∧ 1 ≤ s ∧ s ≤ 4000 ∧ Hid (Env w [] (fun V => LsR 5 tecells ok A ts V) (fun _ => True) wr)) (fun sv _ _ _ _ => ts.length - (intOf sv).toNat)
   case atStart => exact ⟨20, _, _, _, rfl, rfl, rfl, rfl, by omega, by omega, HE⟩
   case round =>
    clear HE
    obtain ⟨s, x, y, z, rfl, rfl, rfl, rfl, hs1, hs2, HE⟩ := hrel
    by_cases hs : s < ts.length
    ·have hs' : (s : Int) < (ts.length : Int) := by omega
     obtain ⟨t, ht⟩ : ∃ t, t = 2 * s := ⟨_, rfl⟩
     have hs3 : IntKind.i64.wrap (2 * (s : Int)) = (t : Int) := by rw [IntKind.wrap_i64]; omega
     have hs4 : IntKind.i64.wrap ((s : Int) * 2) = (t : Int) := by rw [IntKind.wrap_i64]; omega
     have Ht := zmZ ht
     clear ht
     go_wp2_with fail
     go_loopw [7, 8] (fun av bv wr => ∃ a : Nat, av = .int .i64 (a : Int) ∧ bv = .int .i64 ((a : Int) + (t : Int)) ∧ a ≤ ts.length ∧ Hid (Env w [] (fun V => LsR 5 tecells ok A ts V) (fun _ => True) wr)) (fun av _ _ => ts.length - (intOf av).toNat)
     case atStart => exact ⟨0, rfl, by go_num, Nat.zero_le _, HE⟩
     case round =>
      clear HE
      obtain ⟨a, rfl, rfl, ha, HE⟩ := hrel
      have ht := Ht.out
      have hs5 : IntKind.i64.wrap ((a : Int) + (s : Int)) = ((a + s : Nat) : Int) := by rw [IntKind.wrap_i64]; omega
      have hs6 : IntKind.i64.wrap ((a : Int) + (t : Int) + (t : Int)) = ((a + t : Nat) : Int) + (t : Int) := by rw [IntKind.wrap_i64]; omega
      have hs7 : (a : Int) + (t : Int) = ((a + t : Nat) : Int) := by omega
      obtain ⟨m, hm⟩ : ∃ m, m = a + s := ⟨_, rfl⟩
      obtain ⟨b, hb⟩ : ∃ b, b = a + t := ⟨_, rfl⟩
      rw [← hm] at hs5
      rw [← hb] at hs6 hs7
      rw [hs7] at hs6 ⊢
      have Hm := zmZ hm
      have Hb := zmZ hb
      clear hm hb ht hs7
      by_cases hbl : b ≤ ts.length
      ·have hb' : (b : Int) ≤ (ts.length : Int) := by omega
       go_wp2_with fail
       have h1 := Hm.out
       have h2 := Hb.out
       have h3 := Ht.out
       refine (zfO ok hok A c ts (by omega) HR.out _ a m b (Nat.le_refl _) (by omega) (by omega) (by omega) _ HE.out.o).mono ?_
       rintro e w1 ⟨rfl, hb⟩
       replace HE := zmZ (Env.call HE.out hb)
       clear hb
       clear h1 h2 h3
       go_wp2_with fail
       go_roundw
       case rel => exact ⟨b, rfl, by go_num, hbl, HE⟩
       case measure => (have h2 := Hb.out; have h3 := Ht.out; simp [intOf] <;> omega)
      ·have hb' : ¬ (b : Int) ≤ (ts.length : Int) := by omega
       by_cases hml : m < ts.length
       ·have hm' : (m : Int) < (ts.length : Int) := by omega
        go_wp2_with fail
        have h1 := Hm.out
        have h2 := Hb.out
        have h3 := Ht.out
        refine (zfO ok hok A c ts (by omega) HR.out _ a m ts.length (Nat.le_refl _) (by omega) (by omega) (by omega) _ HE.out.o).mono ?_
        rintro e w1 ⟨rfl, hb⟩
        replace HE := zmZ (Env.call HE.out hb)
        clear hb
        clear h1 h2 h3
        go_wp2_with fail
        go_roundw
        case rel => exact ⟨t, _, _, _, rfl, rfl, rfl, rfl, by have := Ht.out; omega, by have := Ht.out; omega, HE⟩
        case measure => (have h3 := Ht.out; simp [intOf] <;> omega)
       ·have hm' : ¬ (m : Int) < (ts.length : Int) := by omega
        go_wp2_with fail
        go_roundw
        case rel => exact ⟨t, _, _, _, rfl, rfl, rfl, rfl, by have := Ht.out; omega, by have := Ht.out; omega, HE⟩
        case measure => (have h3 := Ht.out; simp [intOf] <;> omega)
    ·have hs' : ¬ (s : Int) < (ts.length : Int) := by omega
     go_wp2_with fail
     go_end0
     exact ⟨rfl, HE.out.bel⟩
set_option maxRecDepth 100000 in
theorem zgr (w : World) (ok : TeV → World → Prop) (hok : ∀ p W, ok p W → Rests W (· < W.heap.size) (ok p)) (A : Option Addr) (c : Nat) (ts : List TeV) (h : LsR 5 tecells ok A ts w) (hl : ts.length ≤ 1000) (hr : Rise ts) :
 Calls Tryz.prog 80 #[.slice A ts.length c, .func (.func 81) #[] #[]] w fun e w' => e = .returned (.tuple #[]) ∧ Below w.heap.size w w' := by
 go_enter Tryz.func80, Tryz.ntmps80
 go_wp2_with fail
 refine (zeT _ ok hok A c ts h hl hr).mono ?_
 rintro e w1 ⟨rfl, hb⟩
 go_wp2_with fail
 go_end0
 exact ⟨rfl, hb⟩

set_option maxRecDepth 100000 in
theorem zcN (w : World) (n : Nat) (hn : n ≤ 100000) (h1n : 1 ≤ n) (A : Option Addr) (c : Nat) (ts : List TeV) (h : LsR 5 tecells (teD n) A ts w) (h20 : ts.length ≤ 1000) (hr : Rise ts) (hT : Tz w) :
 Calls Tryz.prog 48 #[.slice A ts.length c] w (RetVec ((ts.map plq).filter nzP) w) := by
 have HE := zmZ (Env.start ((h.old zb2).and hT.old))
 have HR := zmZ hr
 have HS := zmZ (show ∀ t ∈ ts, Sz t.q n from fun t ht => RatD.sz (h.ok t ht) h1n)
 clear h hr hT
 have hsz1 := zas
 have hsz2 := zbW
 have hadd := za3
 go_enter Tryz.func48, Tryz.ntmps48
 go_wp2_with fail
 refine (zhB _ (teD n) A c ts HE.out.o.1 (by omega)).mono ?_
 rintro e w1 ⟨A1, c1, rfl, hc1, hk, hb⟩
 replace HE := zmZ (Env.ret HE.out hk hb)
 clear hk hb
 have sl1 : Sl A1 ts.length := by have := HE.out.n.1.sl; rwa [List.length_map] at this
 go_wp2_with fail
 refine (zgr _ (teD n) zb2 A1 c1 ts ⟨HE.out.n.1, HE.out.o.1.ok⟩ h20 HR.out).mono ?_
 rintro e w2 ⟨rfl, hb⟩
 replace HE := zmZ (Env.call HE.out hb)
 clear hb
 go_wp2_with fail
 have HG := zmZ ((GL.start HE.out).new_ 45 5)
 clear HE
 go_loopw [4, 14] (fun ov iv wr => ∃ (Ao : Option Addr) (co i : Nat) (os : List TeV), ov = .slice Ao i co ∧ iv = .int .i64 (i : Int) ∧ i ≤ ts.length ∧ Hid (os.length = i) ∧ Hid (os.map plq = (ts.take i).map plq) ∧ Hid (GL w [⟨45, 5, .slice Ao i co, os.map tecells⟩] (fun V => LsR 5 tecells (teD n) A ts V ∧ Tz V) (fun V => (∀ p ∈ os, teN p V) ∧ El V 5 A1 (ts.map tecells)) wr)) (fun _ iv _ => ts.length - (intOf iv).toNat)
 case atStart => exact ⟨none, 0, 0, [], rfl, rfl, Nat.zero_le _, zmZ rfl, zmZ rfl, zmZ (HG.out.imp (fun _ h => h.2) (fun _ h => ⟨by simp, h.1⟩))⟩
 case round =>
  clear HG
  obtain ⟨Ao, co, i, os, rfl, rfl, hi, Hoi, HM, HG⟩ := hrel
  by_cases hlt : i < ts.length
  ·have HE := zmZ HG.out.env
   have HLs := zmZ (show LsR 5 tecells (teD n) A1 ts wr from ⟨HE.out.o.2.2, HE.out.o.1.1.ok⟩)
   have c0 := HLs.out.tc i hlt
   obtain ⟨t, ht⟩ : ∃ t, t = ts[i] := ⟨_, rfl⟩
   rw [← ht] at c0
   have Hm := zmZ (show t ∈ ts by rw [ht]; exact List.getElem_mem hlt)
   have Ht := zmZ ht
   clear ht
   go_upto_region 7 with fail
   obtain ⟨W2, gt, hW2, hgt, HE⟩ := Env.al HE.out 45 #[.int .i64 t.pl, .bool t.r.num.neg, .slice t.r.num.A t.r.num.k t.r.num.c, .bool t.r.den.neg, .slice t.r.den.A t.r.den.k t.r.den.c]
   rw [hW2, hgt]
   clear hW2 hgt c0
   have c := Env.c1 HE.out
   go_upto_region 8 with fail
   go_cut [32] from 15 to 56 (fun bv wx => bv = .bool false ∧ Hid (Env wr [⟨gt, 45, #[.int .i64 t.pl, .bool t.r.num.neg, .slice t.r.num.A t.r.num.k t.r.num.c, .bool t.r.den.neg, .slice t.r.den.A t.r.den.k t.r.den.c]⟩] (fun V => (fun V => LsR 5 tecells (teD n) A ts V ∧ Tz V) V ∧ (fun V => (∀ p ∈ os, teN p V) ∧ El V 5 A1 (ts.map tecells)) V) (fun _ => True) wx))
   case first =>
    rcases Nat.eq_zero_or_pos i with rfl | h0
    ·go_quiet (fail)
     go_wp2_with fail
     go_meet
     case rel => exact ⟨rfl, zmZ (HE.out.drewN _)⟩
    ·obtain ⟨k, rfl⟩ : ∃ k, i = k + 1 := ⟨i - 1, by omega⟩
     have hko : k < os.length := by have := Hoi.out; omega
     have hlt2 : (os[k]'hko).pl < t.pl := by
      have h2 := congrArg (fun l => l[k]?) HM.out
      simp only [List.getElem?_map, List.getElem?_take, List.getElem?_eq_getElem hko] at h2
      rw [if_pos (by omega), List.getElem?_eq_getElem (by omega)] at h2
      have h3 : (os[k]'hko).pl = (ts[k]'(by omega)).pl := by simpa [plq] using congrArg (fun o => (o.map Prod.fst).getD 0) h2
      rw [h3, Ht.out]
      exact HR.out.at_ (by omega) hlt
     have cc : Hid (LsR 5 tecells teN Ao os wr) := zmZ ⟨(show OwnE wr w.heap.size 45 5 (.slice Ao (k + 1) co) (os.map tecells) from HG.out.own _ (List.mem_cons_self ..)).el.1, HG.out.n.1⟩
     have c2 := ((cc.out.old zkh).below HE.out.bel).now.tc k hko
     have slo : Sl Ao (k + 1) := by have := cc.out.sl; rwa [Hoi.out] at this
     have hne : ((os[k]'hko).pl == t.pl) = false := by simp; omega
     generalize (os[k]'hko) = u at *
     have hi1 : (0 : Int) < (k : Int) + 1 := by omega
     have hi3 : (k : Int) < (k : Int) + 1 := by omega
     have hi4 : k < k + 1 := by omega
     have hi5 : IntKind.i64.wrap ((k : Int) + 1 - 1) = (k : Int) := by rw [IntKind.wrap_i64]; omega
     have hi6 : IntKind.i64.wrap (k : Int) = (k : Int) := by rw [IntKind.wrap_i64]; omega
     clear cc hlt2 hko
     go_quiet (fail)
     go_wp2_with fail
     go_meet
     case rel => exact ⟨rfl, zmZ (HE.out.drewN _)⟩
   case rest =>
    clear HE c
    obtain ⟨rfl, HE⟩ := hcut
    have c := Env.c1 HE.out
    go_upto_region 10 with fail
    go_region_held3 (fun W => CB gt #[.int .i64 t.pl, .bool t.r.num.neg, .slice t.r.num.A t.r.num.k t.r.num.c, .bool t.r.den.neg, .slice t.r.den.A t.r.den.k t.r.den.c] W) (first | with_reducible exact c | ((repeat' apply And.intro) <;> go_keep) | exact c | exact Env.c1 (HE.out.other _) | exact Env.c1 (HE.out.drew.other _))
     (first
      | (go_at_call 34; go_must (refine (zaG _ t.r t.q n (by omega) h1n (by first | exact HE.out.o.1.1.ok t Hm.out | exact HE.out.drew.o.1.1.ok t Hm.out) (by first | exact HE.out.o.1.2 | exact HE.out.drew.o.1.2)).mono ?_; rintro e w3 ⟨rk, rfl, hk, hb⟩; replace HE := zmZ (Env.rx HE.out hk hb); replace c := Env.c1 HE.out; clear hk hb))
      | (obtain ⟨Ap, cp, w8, hrun, hG⟩ := GL.appT zeF (os := os) (by rw [Hoi.out]; exact HG.out) (by first | exact HE.out.read | exact HE.out.drew.read) ⟨t.pl, rk, t.q⟩ (by have := Hoi.out; omega); rw [Hoi.out] at hrun; refine zbw rfl (.tmp 47) (.tmp 54) 43 _ _ _ rfl rfl rfl hrun ?_; replace c := Blk.cb hG.n.1.1; have HG2 := zmZ hG; clear hrun hG HE))
    go_wp2_with fail
    go_roundw
    case rel => exact ⟨Ap, cp, i + 1, os ++ [⟨t.pl, rk, t.q⟩], by rw [Hoi.out], by go_num, by omega, zmZ (by have := Hoi.out; simp; omega), zmZ (by rw [List.map_append, HM.out, List.take_succ_eq_append_getElem hlt, List.map_append, ← Ht.out]; rfl), zmZ (by have hX := HG2.out; rw [List.length_append, Hoi.out] at hX; exact hX.imp (fun _ h => h) (fun V h => ⟨fun p hp => by
     rcases List.mem_append.1 hp with hp | hp
     ·exact h.2.1 p hp
     ·rw [List.mem_singleton.1 hp]; exact h.1.2.1, h.2.2⟩))⟩
    case measure => (simp [intOf] <;> omega)
  ·obtain rfl : i = ts.length := by omega
   have hol : os.length ≤ 1000000 := by have := Hoi.out; omega
   have HM2 := zmZ (show os.map plq = ts.map plq by have := HM.out; rwa [List.take_length] at this)
   have HS2 := zmZ (show ∀ p ∈ os, Sz p.q n from fun p hp => by
    have h1 := List.mem_map_of_mem (f := plq) hp
    rw [HM2.out] at h1
    obtain ⟨t, ht, e⟩ := List.mem_map.1 h1
    have e2 : t.q = p.q := congrArg Prod.snd e
    rw [← e2]; exact HS.out t ht)
   clear HM
   go_wp2_with fail
   refine (zgj w _ (.slice Ao ts.length co) os n hn _ _ HG.out (fun V hV p hp => RatN.rat (hV.1 p hp) (HS2.out p hp)) hol).mono ?_
   rintro e w9 ⟨⟨Ap, cp, rfl, hc, hr⟩, hb⟩
   have Hr := zmZ hr
   clear hr
   go_wp2_with fail
   go_ret
   refine ⟨Ap, cp, os.filter nzT, rfl, hc, by rw [zdL, HM2.out], Hr.out.imp fun V h => ⟨h.1, fun p hp => h.2.1 p (List.mem_filter.1 hp).1⟩, hb⟩

def CpRes {β κ : Type} (k : Nat) (cells : β → Array Value) (ok : β → World → Prop) (g : β → κ) (ks : List κ) (w : World) (e : Ending) (w' : World) : Prop :=
 ∃ A c os, e = .returned (.slice A (List.length os) c) ∧ List.length os ≤ c ∧ os.map g = ks ∧ Rests w' (w.heap.size ≤ ·) (LsR k cells ok A os) ∧ Below w.heap.size w w'
theorem CpRes.up {β κ : Type} {k : Nat} {cells : β → Array Value} {ok : β → World → Prop} {g : β → κ} {ks : List κ} {w W w' : World} {e : Ending} (h : CpRes k cells ok g ks W e w') (hb : Below w.heap.size w W) : CpRes k cells ok g ks w e w' := by
 obtain ⟨A, c, os, h1, h2, h3, h4, h5⟩ := h
 exact ⟨A, c, os, h1, h2, h3, h4.mono fun n hn => Nat.le_trans hb.size hn, Below.after hb h5⟩
def grC (g : GrV) (W : World) : Prop := g.l.length ≤ g.c ∧ grD g W
theorem zdT (z : Int) : ∀ u ∈ (icells z).toList, u.oneCell' = true := by simp [icells, Value.oneCell']
theorem zci (g : GrV) : ∀ u ∈ (grcells g).toList, u.oneCell' = true := by simp [grcells, Value.oneCell']
theorem zdl (v : VeV) : ∀ u ∈ (vecells v).toList, u.oneCell' = true := by simp [vecells, Value.oneCell']
theorem zfk (l : LaV) : ∀ u ∈ (lacells l).toList, u.oneCell' = true := by simp [lacells, Value.oneCell']
theorem zau {α κ : Type} {f : α → κ} {l : List α} {i : Nat} {ks : List κ} {y : κ} (h : ks = (l.take i).map f) (hi : i < l.length) (hy : y = f l[i]) : ks ++ [y] = (l.take (i + 1)).map f := by
 rw [List.take_succ_eq_append_getElem hi, List.map_append, h, hy]
 rfl
theorem GL.appX {β : Type} {w W W' : World} {ls : List Ow} {bs : List Bo} {old new old' new' : World → Prop} {t e : TypeId} {k bytes : Nat} {z : Value} {cells : β → Array Value} (ht : Tryz.prog.underlying t = some (.slice e)) (hinfo : (Tryz.prog.info? e).map (fun i => (i.zero, i.size, i.bytes)) = some (some z, k, bytes)) (hz : z.cells.size = k) (hk : 0 < k) (hb : bytes ≤ 1000)
 {A : Option Addr} {c : Nat} {os : List β} (h : GL w (⟨e, k, .slice A os.length c, os.map cells⟩ :: ls) old new W) (he : Env W bs old' new' W') (x : β) (hx : (cells x).size = k) (h1 : ∀ u ∈ (cells x).toList, u.oneCell' = true) (hl : os.length ≤ 1000000) :
 ∃ A' c' w', (Builtin.append_ #[t, t] t #[.slice A os.length c, .slice (some ⟨W'.heap.size, 0, none⟩) 1 1]).run Tryz.prog (W'.alloc (.cells (cells x) e)) = .ok (.slice A' (os ++ [x]).length c') w' ∧ GL w (⟨e, k, .slice A' (os ++ [x]).length c', (os ++ [x]).map cells⟩ :: ls) old (fun V => new' V ∧ new V) w' := by
 have hm : (os.length + 1) * bytes ≤ 1000001 * 1000 := Nat.mul_le_mul (by omega) hb
 obtain ⟨v', w', hrun, hG⟩ := GL.app (P := Tryz.prog) ht hinfo hz hk h he (cells x) hx h1 (by simp; omega) (by simp [maxLen]; omega)
 obtain ⟨A', c', hv, -⟩ := (hG.own _ (List.mem_cons_self ..)).form
 have hv' : v' = .slice A' (os ++ [x]).length c' := by rw [show v' = _ from hv]; simp
 subst hv'
 refine ⟨A', c', w', hrun, ?_⟩
 have e : (os ++ [x]).map cells = os.map cells ++ [cells x] := by simp
 rw [e]; exact hG
set_option maxRecDepth 100000 in
theorem zfm (w : World) (z : Int) : Calls Tryz.prog 53 #[.int .i64 z] w fun e w' => e = .returned (.int .i64 z) ∧ w' = w := by
 go_enter Tryz.func53, Tryz.ntmps53
 go_wp2_with fail
 go_ret
 exact ⟨rfl, rfl⟩
theorem zif (w : World) (z : Int) : Calls Tryz.prog 53 #[.int .i64 z] w fun e w' => ∃ y, e = .returned (.int .i64 y) ∧ y = id z ∧ Rests w' (w.heap.size ≤ ·) (okI y) ∧ Below w.heap.size w w' :=
 (zfm w z).mono fun e w' ⟨h1, h2⟩ => ⟨z, h1, rfl, .pure trivial _ _, by rw [h2]; exact Below.refl _ _⟩
set_option maxRecDepth 100000 in
theorem zlM (w : World)  (A : Option Addr) (c : Nat) (l : List Int) (h : LsR 1 icells (okI) A l w) (hl : l.length ≤ 100000)  (nl : Nat) (hnl : nl = l.length) :
 Calls Tryz.prog 52 #[.slice A nl c, .func (.func 53) #[] #[]] w (CpRes 1 (icells : Int → Array Value) (okI) (id) (l.map (id)) w) := by
 have sl1 := h.sl
 rw [← hnl] at sl1
 have hsz2 := zaF
 have hadd := za3
 have Hn := zmZ hnl
 have Hl := zmZ hl
 have hnb : nl ≤ 100000 := by omega
 have HG := zmZ ((GL.start (Env.start (h.old zdf))).new_ 3 1)
 clear h hnl hl
 go_enter Tryz.func52, Tryz.ntmps52
 go_wp2_with fail
 go_loopw [5, 10] (fun ov iv wr => ∃ (Ao : Option Addr) (co i : Nat) (os : List (Int)), ov = .slice Ao os.length co ∧ iv = .int .i64 (i : Int) ∧ i ≤ nl ∧ Hid (os.map (id) = (l.take i).map (id)) ∧ Hid (GL w [⟨3, 1, .slice Ao os.length co, os.map icells⟩] (fun V => LsR 1 icells (okI) A l V) (fun V => ∀ y ∈ os, (okI) y V) wr)) (fun _ iv _ => nl - (intOf iv).toNat)
 case atStart => exact ⟨none, 0, 0, [], rfl, rfl, Nat.zero_le _, zmZ rfl, zmZ (HG.out.imp (fun _ h => h.2) (fun _ _ => by simp))⟩
 case round =>
  clear HG
  obtain ⟨Ao, co, i, os, rfl, rfl, hi, HM, HG⟩ := hrel
  by_cases hlt : i < nl
  ·have hlt2 : i < l.length := by rw [← Hn.out]; exact hlt
   have HE := zmZ HG.out.env
   have c0 := HE.out.o.1.ic i hlt2
   have HM2 := zmZ (fun (y : Int) (hy : y = (id) l[i]) => zau HM.out hlt2 hy)
   have hos := congrArg List.length HM.out
   rw [List.length_map, List.length_map, List.length_take] at hos
   have hosl : os.length ≤ 100000 := by have := Hl.out; omega
   clear hos
   obtain ⟨p, hp⟩ : ∃ p, p = l[i] := ⟨_, rfl⟩
   rw [← hp] at c0 HM2
   have Hm := zmZ (show p ∈ l by rw [hp]; exact List.getElem_mem hlt2)
   clear hp
   go_wp2_with fail
   refine (zif _ p).mono ?_
   rintro e w3 ⟨y, rfl, hy, hk, hb⟩
   have HM3 := zmZ (HM2.out _ hy)
   replace HE := zmZ (Env.ret HE.out hk hb)
   obtain ⟨A', c', w8, hrun, hG⟩ := GL.appX (cells := icells) zcf zcB rfl (by decide) (by decide) HG.out HE.out y rfl (zdT y) (by omega)
   have Hrun := zmZ hrun
   have HG2 := zmZ hG
   clear hrun hG hk hb hy
   go_wp2_with (at_builtin; refine za1 rfl (.tmp 14) (.tmp 18) 46 _ _ _ rfl rfl rfl Hrun.out ?_)
   clear Hrun
   go_wp2_with fail
   go_roundw
   case rel => exact ⟨A', c', i + 1, os ++ [y], by simp, by go_num, by omega, zmZ (by rw [List.map_append]; exact HM3.out), zmZ (HG2.out.imp (fun _ h => h) (fun V h p hp => by
    rcases List.mem_append.1 hp with hp | hp
    ·exact h.2 p hp
    ·rw [List.mem_singleton.1 hp]; exact h.1.1))⟩
   case measure => (simp [intOf] <;> omega)
  ·obtain rfl : i = nl := by omega
   obtain ⟨A', c', hv, hc, hr⟩ := HG.out.tell (cells := icells) (ok := okI) (l := os) (fun V h => h)
   obtain ⟨rfl, rfl⟩ : Ao = A' ∧ co = c' := by simpa using hv
   have Hr := zmZ hr
   have Hc := zmZ hc
   have Hbel := zmZ HG.out.bel
   clear hr hv HG hc
   go_wp2_with fail
   go_ret
   exact ⟨Ao, co, os, rfl, Hc.out, by rw [HM.out, Hn.out, List.take_length], Hr.out, Hbel.out⟩
set_option maxRecDepth 100000 in
theorem zis (w : World) (g : GrV) (h : grD g w) (hl : g.l.length ≤ 100000) (nl : Nat) (hnl : nl = g.l.length) : Calls Tryz.prog 51 #[.slice g.A nl g.c] w (CpRes 1 icells okI id (g.l.map id) w) := by
 have Hn := zmZ hnl
 have HE := zmZ (Env.start ((zc1 g w h)))
 clear h hnl
 go_enter Tryz.func51, Tryz.ntmps51
 go_wp2_with fail
 refine (zlM _ g.A g.c g.l HE.out.o hl nl Hn.out).mono ?_
 intro e w1 hr
 have HR := zmZ (hr.up HE.out.bel)
 obtain ⟨A, c, os, rfl, -⟩ := hr
 go_wp2_with fail
 go_ret
 exact HR.out
theorem zl9 (w : World) (g : GrV) (h : grD g w) (hl : g.l.length ≤ 100000) : Calls Tryz.prog 51 #[.slice g.A g.l.length g.c] w fun e w' => ∃ y : GrV, e = .returned (.slice y.A y.l.length y.c) ∧ y.l = g.l ∧ Rests w' (w.heap.size ≤ ·) (grC y) ∧ Below w.heap.size w w' :=
 (zis w g h hl _ rfl).mono fun e w' ⟨A, c, os, h1, h2, h3, h4, h5⟩ => ⟨⟨A, c, os⟩, h1, by simpa using h3, h4.imp fun _ h => ⟨h2, h⟩, h5⟩
set_option maxRecDepth 100000 in
theorem zmI (w : World)  (A : Option Addr) (c : Nat) (l : List GrV) (h : LsR 1 grcells (grD) A l w) (hl : l.length ≤ 100000) (hg : ∀ g ∈ l, g.l.length ≤ 100000) (nl : Nat) (hnl : nl = l.length) :
 Calls Tryz.prog 50 #[.slice A nl c, .func (.func 51) #[] #[]] w (CpRes 1 (grcells : GrV → Array Value) (grC) (GrV.l) (l.map (GrV.l)) w) := by
 have sl1 := h.sl
 rw [← hnl] at sl1
 have hsz2 := zbt
 have hadd := za3
 have Hn := zmZ hnl
 have Hl := zmZ hl
 have hnb : nl ≤ 100000 := by omega
 have Hg := zmZ hg
 clear hg
 have HG := zmZ ((GL.start (Env.start (h.old zc1))).new_ 46 1)
 clear h hnl hl
 go_enter Tryz.func50, Tryz.ntmps50
 go_wp2_with fail
 go_loopw [5, 10] (fun ov iv wr => ∃ (Ao : Option Addr) (co i : Nat) (os : List (GrV)), ov = .slice Ao os.length co ∧ iv = .int .i64 (i : Int) ∧ i ≤ nl ∧ Hid (os.map (GrV.l) = (l.take i).map (GrV.l)) ∧ Hid (GL w [⟨46, 1, .slice Ao os.length co, os.map grcells⟩] (fun V => LsR 1 grcells (grD) A l V) (fun V => ∀ y ∈ os, (grC) y V) wr)) (fun _ iv _ => nl - (intOf iv).toNat)
 case atStart => exact ⟨none, 0, 0, [], rfl, rfl, Nat.zero_le _, zmZ rfl, zmZ (HG.out.imp (fun _ h => h.2) (fun _ _ => by simp))⟩
 case round =>
  clear HG
  obtain ⟨Ao, co, i, os, rfl, rfl, hi, HM, HG⟩ := hrel
  by_cases hlt : i < nl
  ·have hlt2 : i < l.length := by rw [← Hn.out]; exact hlt
   have HE := zmZ HG.out.env
   have c0 := HE.out.o.1.gc i hlt2
   have HM2 := zmZ (fun (y : List Int) (hy : y = (GrV.l) l[i]) => zau HM.out hlt2 hy)
   have hos := congrArg List.length HM.out
   rw [List.length_map, List.length_map, List.length_take] at hos
   have hosl : os.length ≤ 100000 := by have := Hl.out; omega
   clear hos
   obtain ⟨p, hp⟩ : ∃ p, p = l[i] := ⟨_, rfl⟩
   rw [← hp] at c0 HM2
   have Hm := zmZ (show p ∈ l by rw [hp]; exact List.getElem_mem hlt2)
   clear hp
   go_wp2_with fail
   refine (zl9 _ p (HE.out.o.1.ok p Hm.out) (Hg.out p Hm.out)).mono ?_
   rintro e w3 ⟨y, rfl, hy, hk, hb⟩
   have HM3 := zmZ (HM2.out _ hy)
   replace HE := zmZ (Env.ret HE.out hk hb)
   obtain ⟨A', c', w8, hrun, hG⟩ := GL.appX (cells := grcells) zdo zfH rfl (by decide) (by decide) HG.out HE.out y rfl (zci y) (by omega)
   have Hrun := zmZ hrun
   have HG2 := zmZ hG
   clear hrun hG hk hb hy
   go_wp2_with (at_builtin; refine za1 rfl (.tmp 14) (.tmp 18) 34 _ _ _ rfl rfl rfl Hrun.out ?_)
   clear Hrun
   go_wp2_with fail
   go_roundw
   case rel => exact ⟨A', c', i + 1, os ++ [y], by simp, by go_num, by omega, zmZ (by rw [List.map_append]; exact HM3.out), zmZ (HG2.out.imp (fun _ h => h) (fun V h p hp => by
    rcases List.mem_append.1 hp with hp | hp
    ·exact h.2 p hp
    ·rw [List.mem_singleton.1 hp]; exact h.1.1))⟩
   case measure => (simp [intOf] <;> omega)
  ·obtain rfl : i = nl := by omega
   obtain ⟨A', c', hv, hc, hr⟩ := HG.out.tell (cells := grcells) (ok := grC) (l := os) (fun V h => h)
   obtain ⟨rfl, rfl⟩ : Ao = A' ∧ co = c' := by simpa using hv
   have Hr := zmZ hr
   have Hc := zmZ hc
   have Hbel := zmZ HG.out.bel
   clear hr hv HG hc
   go_wp2_with fail
   go_ret
   exact ⟨Ao, co, os, rfl, Hc.out, by rw [HM.out, Hn.out, List.take_length], Hr.out, Hbel.out⟩
def zmH (q : Rat) (w : World) (e : Ending) (w' : World) : Prop := ∃ y : RV × Rat, e = .returned (.agg #[.bool y.1.num.neg, .slice y.1.num.A y.1.num.k y.1.num.c, .bool y.1.den.neg, .slice y.1.den.A y.1.den.k y.1.den.c]) ∧ y.2 = q ∧ Rests w' (w.heap.size ≤ ·) (roN y) ∧ Below w.heap.size w w'
set_option maxRecDepth 100000 in
theorem zeZ (w : World) (n : Nat) (hn : n ≤ 400000000000) (h1n : 1 ≤ n) (r : RV) (q : Rat) (h : RatD r q n w) (hT : Tz w) : Calls Tryz.prog 88 #[rA r] w (zmH q w) := by
 have HE := zmZ (lyRZ r (((RatD.old h)).and (hT.old)))
 have c := Env.c2 HE.out
 have dd := Env.d2 HE.out
 clear h hT
 unfold rA
 go_enter Tryz.func88, Tryz.ntmps88
 go_wp2_with fail
 refine (zaG _ r q n (by omega) h1n HE.out.o.1 HE.out.o.2).mono ?_
 rintro e w1 ⟨k, rfl, hk, hb⟩
 replace HE := zmZ (Env.ret HE.out hk hb)
 replace c := Env.c2 HE.out
 clear hk hb
 go_wp2_with fail
 have hE := HE.out.put4 (.bool k.num.neg) (.slice k.num.A k.num.k k.num.c) (.bool k.den.neg) (.slice k.den.A k.den.k k.den.c)
 replace c := Env.c2 hE
 exact bodyPost_ret (v := .agg #[.bool k.num.neg, .slice k.num.A k.num.k k.num.c, .bool k.den.neg, .slice k.den.A k.den.k k.den.c]) (by simp [results, Tryz.results88, go_sem, c]) rfl ⟨(k, q), rfl, rfl, (hE.rsn.imp fun _ h => h.1).mono fun _ h => h.1, hE.bel⟩
set_option maxRecDepth 100000 in
theorem zlW (w : World) (n : Nat) (hn : n ≤ 400000000000) (h1n : 1 ≤ n) (A : Option Addr) (c : Nat) (l : List (RV × Rat)) (h : LsR 4 rtcells (roD n) A l w) (hl : l.length ≤ 100000) (hT : Tz w) (nl : Nat) (hnl : nl = l.length) :
 Calls Tryz.prog 87 #[.slice A nl c, .func (.func 88) #[] #[]] w (CpRes 4 (rtcells : RV × Rat → Array Value) (roN) (Prod.snd) (l.map (Prod.snd)) w) := by
 have sl1 := h.sl
 rw [← hnl] at sl1
 have hsz2 := zak
 have hadd := za3
 have Hn := zmZ hnl
 have Hl := zmZ hl
 have hnb : nl ≤ 100000 := by omega
 have HG := zmZ ((GL.start (Env.start ((h.old zaq).and hT.old))).new_ 41 4)
 clear h hnl hl
 go_enter Tryz.func87, Tryz.ntmps87
 go_wp2_with fail
 go_loopw [5, 10] (fun ov iv wr => ∃ (Ao : Option Addr) (co i : Nat) (os : List (RV × Rat)), ov = .slice Ao os.length co ∧ iv = .int .i64 (i : Int) ∧ i ≤ nl ∧ Hid (os.map (Prod.snd) = (l.take i).map (Prod.snd)) ∧ Hid (GL w [⟨41, 4, .slice Ao os.length co, os.map rtcells⟩] (fun V => LsR 4 rtcells (roD n) A l V ∧ Tz V) (fun V => ∀ y ∈ os, (roN) y V) wr)) (fun _ iv _ => nl - (intOf iv).toNat)
 case atStart => exact ⟨none, 0, 0, [], rfl, rfl, Nat.zero_le _, zmZ rfl, zmZ (HG.out.imp (fun _ h => h.2) (fun _ _ => by simp))⟩
 case round =>
  clear HG
  obtain ⟨Ao, co, i, os, rfl, rfl, hi, HM, HG⟩ := hrel
  by_cases hlt : i < nl
  ·have hlt2 : i < l.length := by rw [← Hn.out]; exact hlt
   have HE := zmZ HG.out.env
   have c0 := HE.out.o.1.1.rc i hlt2
   have HM2 := zmZ (fun (y : Rat) (hy : y = (Prod.snd) l[i]) => zau HM.out hlt2 hy)
   have hos := congrArg List.length HM.out
   rw [List.length_map, List.length_map, List.length_take] at hos
   have hosl : os.length ≤ 100000 := by have := Hl.out; omega
   clear hos
   obtain ⟨p, hp⟩ : ∃ p, p = l[i] := ⟨_, rfl⟩
   rw [← hp] at c0 HM2
   have Hm := zmZ (show p ∈ l by rw [hp]; exact List.getElem_mem hlt2)
   clear hp
   go_upto_region 5 with fail
   obtain ⟨W2, gt, hW2, hgt, HE⟩ := Env.al HE.out 41 #[.bool p.1.num.neg, .slice p.1.num.A p.1.num.k p.1.num.c, .bool p.1.den.neg, .slice p.1.den.A p.1.den.k p.1.den.c]
   rw [hW2, hgt]
   clear hW2 hgt c0
   have cb := Env.c1 HE.out
   go_wp2_with fail
   refine (zeZ _ n hn h1n p.1 p.2 (HE.out.o.1.1.ok p Hm.out) HE.out.o.1.2).mono ?_
   rintro e w3 ⟨y, rfl, hy, hk, hb⟩
   have HM3 := zmZ (HM2.out _ hy)
   replace HE := zmZ (Env.ret HE.out hk hb)
   obtain ⟨A', c', w8, hrun, hG⟩ := GL.appX (cells := rtcells) zb0 zbO rfl (by decide) (by decide) HG.out HE.out y rfl (zbQ y) (by omega)
   have Hrun := zmZ hrun
   have HG2 := zmZ hG
   clear hrun hG hk hb hy
   go_wp2_with (at_builtin; refine za1 rfl (.tmp 14) (.tmp 18) 33 _ _ _ rfl rfl rfl Hrun.out ?_)
   clear Hrun
   go_wp2_with fail
   go_roundw
   case rel => exact ⟨A', c', i + 1, os ++ [y], by simp, by go_num, by omega, zmZ (by rw [List.map_append]; exact HM3.out), zmZ (HG2.out.imp (fun _ h => h) (fun V h p hp => by
    rcases List.mem_append.1 hp with hp | hp
    ·exact h.2 p hp
    ·rw [List.mem_singleton.1 hp]; exact h.1.1))⟩
   case measure => (simp [intOf] <;> omega)
  ·obtain rfl : i = nl := by omega
   obtain ⟨A', c', hv, hc, hr⟩ := HG.out.tell (cells := rtcells) (ok := roN) (l := os) (fun V h => h)
   obtain ⟨rfl, rfl⟩ : Ao = A' ∧ co = c' := by simpa using hv
   have Hr := zmZ hr
   have Hc := zmZ hc
   have Hbel := zmZ HG.out.bel
   clear hr hv HG hc
   go_wp2_with fail
   go_ret
   exact ⟨Ao, co, os, rfl, Hc.out, by rw [HM.out, Hn.out, List.take_length], Hr.out, Hbel.out⟩
set_option maxRecDepth 100000 in
theorem zdd (w : World) (n : Nat) (hn : n ≤ 400000000000) (h1n : 1 ≤ n) (A : Option Addr) (c : Nat) (l : List (RV × Rat)) (h : LsR 4 rtcells (roD n) A l w) (hl : l.length ≤ 100000) (hT : Tz w) (nl : Nat) (hnl : nl = l.length) : Calls Tryz.prog 49 #[.slice A nl c] w (CpRes 4 (rtcells : RV × Rat → Array Value) roN Prod.snd (l.map Prod.snd) w) := by
 have Hn := zmZ hnl
 have HE := zmZ (Env.start (((h.old zaq)).and (hT.old)))
 clear h hT hnl
 go_enter Tryz.func49, Tryz.ntmps49
 go_wp2_with fail
 refine (zlW _ n hn h1n A c l HE.out.o.1 hl HE.out.o.2 nl Hn.out).mono ?_
 intro e w1 hr
 have HR := zmZ (hr.up HE.out.bel)
 obtain ⟨A, c, os, rfl, -⟩ := hr
 go_wp2_with fail
 go_ret
 exact HR.out
set_option maxRecDepth 100000 in
theorem zhs (w : World) (n : Nat) (hn : n ≤ 100000) (h1n : 1 ≤ n) (v : VeV) (h : veF (teD n) v w) (hv : v.ts.length ≤ 1000) (hr : Rise v.ts) (hT : Tz w) : Calls Tryz.prog 47 #[.slice v.A v.ts.length v.c] w (RetVec ((v.ts.map plq).filter nzP) w) := by
 have HE := zmZ (Env.start (((zei zb2 v w h)).and (hT.old)))
 clear h hT
 go_enter Tryz.func47, Tryz.ntmps47
 go_wp2_with fail
 refine (zcN _ n hn h1n v.A v.c v.ts HE.out.o.1 hv hr HE.out.o.2).mono ?_
 intro e w1 hret
 have HR := zmZ (hret.up HE.out.bel)
 obtain ⟨A, c, os, rfl, -⟩ := hret
 go_wp2_with fail
 go_ret
 exact HR.out
theorem zkH (w : World) (n : Nat) (hn : n ≤ 100000) (h1n : 1 ≤ n) (v : VeV) (h : veF (teD n) v w) (hv : v.ts.length ≤ 1000) (hr : Rise v.ts) (hT : Tz w) : Calls Tryz.prog 47 #[.slice v.A v.ts.length v.c] w fun e w' => ∃ y : VeV, e = .returned (.slice y.A y.ts.length y.c) ∧ y.ts.map plq = (v.ts.map plq).filter nzP ∧ Rests w' (w.heap.size ≤ ·) (veF teN y) ∧ Below w.heap.size w w' :=
 (zhs w n hn h1n v h hv hr hT).mono fun _e _w' ⟨A, c, ts, h1, _h2, h3, h4, h5⟩ => ⟨⟨A, c, ts⟩, h1, h3, h4, h5⟩
set_option maxRecDepth 100000 in
theorem zm5 (w : World) (n : Nat) (hn : n ≤ 100000) (h1n : 1 ≤ n) (A : Option Addr) (c : Nat) (l : List VeV) (h : LsR 1 vecells (veF (teD n)) A l w) (hl : l.length ≤ 100000) (hT : Tz w) (hv : ∀ v ∈ l, v.ts.length ≤ 1000 ∧ Rise v.ts) (nl : Nat) (hnl : nl = l.length) :
 Calls Tryz.prog 46 #[.slice A nl c, .func (.func 47) #[] #[]] w (CpRes 1 (vecells : VeV → Array Value) (veF teN) (fun v => v.ts.map plq) (l.map (fun v => (v.ts.map plq).filter nzP)) w) := by
 have sl1 := h.sl
 rw [← hnl] at sl1
 have hsz2 := zb9
 have hadd := za3
 have Hn := zmZ hnl
 have Hl := zmZ hl
 have hnb : nl ≤ 100000 := by omega
 have Hv := zmZ hv
 clear hv
 have HG := zmZ ((GL.start (Env.start ((h.old (zei zb2)).and hT.old))).new_ 43 1)
 clear h hnl hl
 go_enter Tryz.func46, Tryz.ntmps46
 go_wp2_with fail
 go_loopw [5, 10] (fun ov iv wr => ∃ (Ao : Option Addr) (co i : Nat) (os : List (VeV)), ov = .slice Ao os.length co ∧ iv = .int .i64 (i : Int) ∧ i ≤ nl ∧ Hid (os.map (fun v => v.ts.map plq) = (l.take i).map (fun v => (v.ts.map plq).filter nzP)) ∧ Hid (GL w [⟨43, 1, .slice Ao os.length co, os.map vecells⟩] (fun V => LsR 1 vecells (veF (teD n)) A l V ∧ Tz V) (fun V => ∀ y ∈ os, (veF teN) y V) wr)) (fun _ iv _ => nl - (intOf iv).toNat)
 case atStart => exact ⟨none, 0, 0, [], rfl, rfl, Nat.zero_le _, zmZ rfl, zmZ (HG.out.imp (fun _ h => h.2) (fun _ _ => by simp))⟩
 case round =>
  clear HG
  obtain ⟨Ao, co, i, os, rfl, rfl, hi, HM, HG⟩ := hrel
  by_cases hlt : i < nl
  ·have hlt2 : i < l.length := by rw [← Hn.out]; exact hlt
   have HE := zmZ HG.out.env
   have c0 := HE.out.o.1.1.vc i hlt2
   have HM2 := zmZ (fun (y : List (Int × Rat)) (hy : y = (fun v => (v.ts.map plq).filter nzP) l[i]) => zau HM.out hlt2 hy)
   have hos := congrArg List.length HM.out
   rw [List.length_map, List.length_map, List.length_take] at hos
   have hosl : os.length ≤ 100000 := by have := Hl.out; omega
   clear hos
   obtain ⟨p, hp⟩ : ∃ p, p = l[i] := ⟨_, rfl⟩
   rw [← hp] at c0 HM2
   have Hm := zmZ (show p ∈ l by rw [hp]; exact List.getElem_mem hlt2)
   clear hp
   go_wp2_with fail
   refine (zkH _ n hn h1n p (HE.out.o.1.1.ok p Hm.out) (Hv.out p Hm.out).1 (Hv.out p Hm.out).2 HE.out.o.1.2).mono ?_
   rintro e w3 ⟨y, rfl, hy, hk, hb⟩
   have HM3 := zmZ (HM2.out _ hy)
   replace HE := zmZ (Env.ret HE.out hk hb)
   obtain ⟨A', c', w8, hrun, hG⟩ := GL.appX (cells := vecells) zce zd6 rfl (by decide) (by decide) HG.out HE.out y rfl (zdl y) (by omega)
   have Hrun := zmZ hrun
   have HG2 := zmZ hG
   clear hrun hG hk hb hy
   go_wp2_with (at_builtin; refine za1 rfl (.tmp 14) (.tmp 18) 32 _ _ _ rfl rfl rfl Hrun.out ?_)
   clear Hrun
   go_wp2_with fail
   go_roundw
   case rel => exact ⟨A', c', i + 1, os ++ [y], by simp, by go_num, by omega, zmZ (by rw [List.map_append]; exact HM3.out), zmZ (HG2.out.imp (fun _ h => h) (fun V h p hp => by
    rcases List.mem_append.1 hp with hp | hp
    ·exact h.2 p hp
    ·rw [List.mem_singleton.1 hp]; exact h.1.1))⟩
   case measure => (simp [intOf] <;> omega)
  ·obtain rfl : i = nl := by omega
   obtain ⟨A', c', hv, hc, hr⟩ := HG.out.tell (cells := vecells) (ok := veF teN) (l := os) (fun V h => h)
   obtain ⟨rfl, rfl⟩ : Ao = A' ∧ co = c' := by simpa using hv
   have Hr := zmZ hr
   have Hc := zmZ hc
   have Hbel := zmZ HG.out.bel
   clear hr hv HG hc
   go_wp2_with fail
   go_ret
   exact ⟨Ao, co, os, rfl, Hc.out, by rw [HM.out, Hn.out, List.take_length], Hr.out, Hbel.out⟩

section
variable {w W : World} {bs : List Bo} {old new : World → Prop}
theorem Env.put13 {g : Nat} {t : TypeId} {u0 u1 u2 u3 u4 u5 u6 u7 u8 u9 u10 u11 u12 : Value} (h : Env w (⟨g, t, #[u0, u1, u2, u3, u4, u5, u6, u7, u8, u9, u10, u11, u12]⟩ :: bs) old new W) (a0 a1 a2 a3 a4 a5 a6 a7 a8 a9 a10 a11 a12 : Value) : Env w (⟨g, t, #[a0, a1, a2, a3, a4, a5, a6, a7, a8, a9, a10, a11, a12]⟩ :: bs) old new (((((((((((((W.setCell ⟨g, 0, none⟩ a0).setCell ⟨g, 1, none⟩ a1).setCell ⟨g, 2, none⟩ a2).setCell ⟨g, 3, none⟩ a3).setCell ⟨g, 4, none⟩ a4).setCell ⟨g, 5, none⟩ a5).setCell ⟨g, 6, none⟩ a6).setCell ⟨g, 7, none⟩ a7).setCell ⟨g, 8, none⟩ a8).setCell ⟨g, 9, none⟩ a9).setCell ⟨g, 10, none⟩ a10).setCell ⟨g, 11, none⟩ a11).setCell ⟨g, 12, none⟩ a12) := by
 have h1 : Env w (⟨g, t, #[a0, u1, u2, u3, u4, u5, u6, u7, u8, u9, u10, u11, u12]⟩ :: bs) old new (W.setCell ⟨g, 0, none⟩ a0) := h.put 0 a0
 have h2 : Env w (⟨g, t, #[a0, a1, u2, u3, u4, u5, u6, u7, u8, u9, u10, u11, u12]⟩ :: bs) old new ((W.setCell ⟨g, 0, none⟩ a0).setCell ⟨g, 1, none⟩ a1) := h1.put 1 a1
 have h3 : Env w (⟨g, t, #[a0, a1, a2, u3, u4, u5, u6, u7, u8, u9, u10, u11, u12]⟩ :: bs) old new (((W.setCell ⟨g, 0, none⟩ a0).setCell ⟨g, 1, none⟩ a1).setCell ⟨g, 2, none⟩ a2) := h2.put 2 a2
 have h4 : Env w (⟨g, t, #[a0, a1, a2, a3, u4, u5, u6, u7, u8, u9, u10, u11, u12]⟩ :: bs) old new ((((W.setCell ⟨g, 0, none⟩ a0).setCell ⟨g, 1, none⟩ a1).setCell ⟨g, 2, none⟩ a2).setCell ⟨g, 3, none⟩ a3) := h3.put 3 a3
 have h5 : Env w (⟨g, t, #[a0, a1, a2, a3, a4, u5, u6, u7, u8, u9, u10, u11, u12]⟩ :: bs) old new (((((W.setCell ⟨g, 0, none⟩ a0).setCell ⟨g, 1, none⟩ a1).setCell ⟨g, 2, none⟩ a2).setCell ⟨g, 3, none⟩ a3).setCell ⟨g, 4, none⟩ a4) := h4.put 4 a4
 have h6 : Env w (⟨g, t, #[a0, a1, a2, a3, a4, a5, u6, u7, u8, u9, u10, u11, u12]⟩ :: bs) old new ((((((W.setCell ⟨g, 0, none⟩ a0).setCell ⟨g, 1, none⟩ a1).setCell ⟨g, 2, none⟩ a2).setCell ⟨g, 3, none⟩ a3).setCell ⟨g, 4, none⟩ a4).setCell ⟨g, 5, none⟩ a5) := h5.put 5 a5
 have h7 : Env w (⟨g, t, #[a0, a1, a2, a3, a4, a5, a6, u7, u8, u9, u10, u11, u12]⟩ :: bs) old new (((((((W.setCell ⟨g, 0, none⟩ a0).setCell ⟨g, 1, none⟩ a1).setCell ⟨g, 2, none⟩ a2).setCell ⟨g, 3, none⟩ a3).setCell ⟨g, 4, none⟩ a4).setCell ⟨g, 5, none⟩ a5).setCell ⟨g, 6, none⟩ a6) := h6.put 6 a6
 have h8 : Env w (⟨g, t, #[a0, a1, a2, a3, a4, a5, a6, a7, u8, u9, u10, u11, u12]⟩ :: bs) old new ((((((((W.setCell ⟨g, 0, none⟩ a0).setCell ⟨g, 1, none⟩ a1).setCell ⟨g, 2, none⟩ a2).setCell ⟨g, 3, none⟩ a3).setCell ⟨g, 4, none⟩ a4).setCell ⟨g, 5, none⟩ a5).setCell ⟨g, 6, none⟩ a6).setCell ⟨g, 7, none⟩ a7) := h7.put 7 a7
 have h9 : Env w (⟨g, t, #[a0, a1, a2, a3, a4, a5, a6, a7, a8, u9, u10, u11, u12]⟩ :: bs) old new (((((((((W.setCell ⟨g, 0, none⟩ a0).setCell ⟨g, 1, none⟩ a1).setCell ⟨g, 2, none⟩ a2).setCell ⟨g, 3, none⟩ a3).setCell ⟨g, 4, none⟩ a4).setCell ⟨g, 5, none⟩ a5).setCell ⟨g, 6, none⟩ a6).setCell ⟨g, 7, none⟩ a7).setCell ⟨g, 8, none⟩ a8) := h8.put 8 a8
 have h10 : Env w (⟨g, t, #[a0, a1, a2, a3, a4, a5, a6, a7, a8, a9, u10, u11, u12]⟩ :: bs) old new ((((((((((W.setCell ⟨g, 0, none⟩ a0).setCell ⟨g, 1, none⟩ a1).setCell ⟨g, 2, none⟩ a2).setCell ⟨g, 3, none⟩ a3).setCell ⟨g, 4, none⟩ a4).setCell ⟨g, 5, none⟩ a5).setCell ⟨g, 6, none⟩ a6).setCell ⟨g, 7, none⟩ a7).setCell ⟨g, 8, none⟩ a8).setCell ⟨g, 9, none⟩ a9) := h9.put 9 a9
 have h11 : Env w (⟨g, t, #[a0, a1, a2, a3, a4, a5, a6, a7, a8, a9, a10, u11, u12]⟩ :: bs) old new (((((((((((W.setCell ⟨g, 0, none⟩ a0).setCell ⟨g, 1, none⟩ a1).setCell ⟨g, 2, none⟩ a2).setCell ⟨g, 3, none⟩ a3).setCell ⟨g, 4, none⟩ a4).setCell ⟨g, 5, none⟩ a5).setCell ⟨g, 6, none⟩ a6).setCell ⟨g, 7, none⟩ a7).setCell ⟨g, 8, none⟩ a8).setCell ⟨g, 9, none⟩ a9).setCell ⟨g, 10, none⟩ a10) := h10.put 10 a10
 have h12 : Env w (⟨g, t, #[a0, a1, a2, a3, a4, a5, a6, a7, a8, a9, a10, a11, u12]⟩ :: bs) old new ((((((((((((W.setCell ⟨g, 0, none⟩ a0).setCell ⟨g, 1, none⟩ a1).setCell ⟨g, 2, none⟩ a2).setCell ⟨g, 3, none⟩ a3).setCell ⟨g, 4, none⟩ a4).setCell ⟨g, 5, none⟩ a5).setCell ⟨g, 6, none⟩ a6).setCell ⟨g, 7, none⟩ a7).setCell ⟨g, 8, none⟩ a8).setCell ⟨g, 9, none⟩ a9).setCell ⟨g, 10, none⟩ a10).setCell ⟨g, 11, none⟩ a11) := h11.put 11 a11
 have h13 : Env w (⟨g, t, #[a0, a1, a2, a3, a4, a5, a6, a7, a8, a9, a10, a11, a12]⟩ :: bs) old new (((((((((((((W.setCell ⟨g, 0, none⟩ a0).setCell ⟨g, 1, none⟩ a1).setCell ⟨g, 2, none⟩ a2).setCell ⟨g, 3, none⟩ a3).setCell ⟨g, 4, none⟩ a4).setCell ⟨g, 5, none⟩ a5).setCell ⟨g, 6, none⟩ a6).setCell ⟨g, 7, none⟩ a7).setCell ⟨g, 8, none⟩ a8).setCell ⟨g, 9, none⟩ a9).setCell ⟨g, 10, none⟩ a10).setCell ⟨g, 11, none⟩ a11).setCell ⟨g, 12, none⟩ a12) := h12.put 12 a12
 exact h13
theorem Env.puts1 {b0 : Bo} {g : Nat} {t : TypeId} {cs : Array Value} (h : Env w (b0 :: ⟨g, t, cs⟩ :: bs) old new W) (i : Nat) (v : Value) : ∃ W', W.setCell ⟨g, i, none⟩ v = W' ∧ Hid (Env w (b0 :: ⟨g, t, cs.setIfInBounds i v⟩ :: bs) old new W') :=
 ⟨_, rfl, zmZ (((h.perm (List.Perm.swap ..)).put i v).perm (List.Perm.swap ..))⟩
end
def CapG (l : LaV) : Prop := ∀ g ∈ l.grs, g.l.length ≤ g.c
def LaC (l : LaV) (W : World) : Prop := CapG l ∧ LaN l W
def zgh (q : LQ) (w : World) (e : Ending) (w' : World) : Prop := ∃ y : LaV, e = .returned (.agg #[.int .u8 y.kind, .slice y.Ar y.rows.length y.cr, .slice y.Ab y.bias.length y.cb, .int .i64 y.ch, .int .i64 y.high, .int .i64 y.wide, .int .i64 y.out, .int .i64 y.kh, .int .i64 y.kw, .int .i64 y.st, .int .i64 y.pad, .slice y.Ak y.kern.length y.ck, .slice y.Ag y.grs.length y.cg]) ∧ y.q = q ∧ Rests w' (w.heap.size ≤ ·) (LaC y) ∧ Below w.heap.size w w'
def zcp (l : LaV) : LQ := ⟨l.kind, l.rows.map fun v => (v.ts.map plq).filter nzP, l.bias.map Prod.snd, [l.ch, l.high, l.wide, l.out, l.kh, l.kw, l.st, l.pad], l.kern.map Prod.snd, l.grs.map GrV.l⟩
set_option maxRecDepth 100000 in
theorem zjh (w : World) (n : Nat) (hn : n ≤ 100000) (h1n : 1 ≤ n) (l : LaV) (h : LaD n l w) (hs : LaS l) (hr : ∀ v ∈ l.rows, Rise v.ts) (hT : Tz w) (nr nb nk ng : Nat) (HL : Hid (Lens l nr nb nk ng)) : Calls Tryz.prog 30 #[lA l nr nb nk ng] w (zgh (zcp l) w) := by
 have Hs := zmZ hs
 have Hr := zmZ (show ∀ v ∈ l.rows, v.ts.length ≤ 1000 ∧ Rise v.ts from fun v hv => ⟨hs.row v hv, hr v hv⟩)
 have HE := zmZ (zkL l nr nb nk ng (((LaD.old l w h)).and (hT.old)))
 have c := Env.c2 HE.out
 have dd := Env.d2 HE.out
 clear h hs hT hr
 unfold lA
 go_enter Tryz.func30, Tryz.ntmps30
 go_wp2_with fail
 refine (zm5 _ n hn h1n l.Ar l.cr l.rows HE.out.o.1.rows Hs.out.rows HE.out.o.2 Hr.out nr HL.out.r).mono ?_
 rintro e w1 ⟨A1, c1, os1, rfl, hc, hm, hk, hb⟩
 have HM1 := zmZ hm
 replace HE := zmZ (Env.ret HE.out hk hb)
 replace c := Env.c2 HE.out
 clear hc hm hk hb
 go_upto_region 2 with fail
 obtain ⟨W1, hW1, HE2⟩ := Env.puts1 HE.out 1 (.slice A1 os1.length c1)
 rw [hW1]
 clear hW1
 replace HE : Hid (Env w [⟨w.heap.size + 1, 36, #[.int .u8 0, .slice none 0 0, .slice none 0 0, .int .i64 0, .int .i64 0, .int .i64 0, .int .i64 0, .int .i64 0, .int .i64 0, .int .i64 0, .int .i64 0, .slice none 0 0, .slice none 0 0]⟩, ⟨w.heap.size, 36, #[.int .u8 l.kind, .slice A1 os1.length c1, .slice l.Ab nb l.cb, .int .i64 l.ch, .int .i64 l.high, .int .i64 l.wide, .int .i64 l.out, .int .i64 l.kh, .int .i64 l.kw, .int .i64 l.st, .int .i64 l.pad, .slice l.Ak nk l.ck, .slice l.Ag ng l.cg]⟩] _ _ W1) := HE2
 clear HE2
 replace c := Env.c2 HE.out
 go_wp2_with fail
 refine (zdd _ n (by omega) h1n l.Ab l.cb l.bias HE.out.o.1.bias Hs.out.bias HE.out.o.2 nb HL.out.b).mono ?_
 rintro e w2 ⟨A2, c2, os2, rfl, hc, hm, hk, hb⟩
 have HM2 := zmZ hm
 replace HE := zmZ (Env.ret HE.out hk hb)
 replace c := Env.c2 HE.out
 clear hc hm hk hb
 go_upto_region 3 with fail
 obtain ⟨W2, hW2, HE2⟩ := Env.puts1 HE.out 2 (.slice A2 os2.length c2)
 rw [hW2]
 clear hW2
 replace HE : Hid (Env w [⟨w.heap.size + 1, 36, #[.int .u8 0, .slice none 0 0, .slice none 0 0, .int .i64 0, .int .i64 0, .int .i64 0, .int .i64 0, .int .i64 0, .int .i64 0, .int .i64 0, .int .i64 0, .slice none 0 0, .slice none 0 0]⟩, ⟨w.heap.size, 36, #[.int .u8 l.kind, .slice A1 os1.length c1, .slice A2 os2.length c2, .int .i64 l.ch, .int .i64 l.high, .int .i64 l.wide, .int .i64 l.out, .int .i64 l.kh, .int .i64 l.kw, .int .i64 l.st, .int .i64 l.pad, .slice l.Ak nk l.ck, .slice l.Ag ng l.cg]⟩] _ _ W2) := HE2
 clear HE2
 replace c := Env.c2 HE.out
 go_wp2_with fail
 refine (zdd _ n (by omega) h1n l.Ak l.ck l.kern HE.out.o.1.kern Hs.out.kern HE.out.o.2 nk HL.out.k).mono ?_
 rintro e w3 ⟨A3, c3, os3, rfl, hc, hm, hk, hb⟩
 have HM3 := zmZ hm
 replace HE := zmZ (Env.ret HE.out hk hb)
 replace c := Env.c2 HE.out
 clear hc hm hk hb
 go_upto_region 4 with fail
 obtain ⟨W3, hW3, HE2⟩ := Env.puts1 HE.out 11 (.slice A3 os3.length c3)
 rw [hW3]
 clear hW3
 replace HE : Hid (Env w [⟨w.heap.size + 1, 36, #[.int .u8 0, .slice none 0 0, .slice none 0 0, .int .i64 0, .int .i64 0, .int .i64 0, .int .i64 0, .int .i64 0, .int .i64 0, .int .i64 0, .int .i64 0, .slice none 0 0, .slice none 0 0]⟩, ⟨w.heap.size, 36, #[.int .u8 l.kind, .slice A1 os1.length c1, .slice A2 os2.length c2, .int .i64 l.ch, .int .i64 l.high, .int .i64 l.wide, .int .i64 l.out, .int .i64 l.kh, .int .i64 l.kw, .int .i64 l.st, .int .i64 l.pad, .slice A3 os3.length c3, .slice l.Ag ng l.cg]⟩] _ _ W3) := HE2
 clear HE2
 replace c := Env.c2 HE.out
 go_wp2_with fail
 refine (zmI _ l.Ag l.cg l.grs HE.out.o.1.grs Hs.out.grs (fun g hg => by have := Hs.out.gr g hg; omega) ng HL.out.g).mono ?_
 rintro e w4 ⟨A4, c4, os4, rfl, hc, hm, hk, hb⟩
 have HM4 := zmZ hm
 replace HE := zmZ (Env.ret HE.out hk hb)
 replace c := Env.c2 HE.out
 clear hc hm hk hb
 go_upto_region 5 with fail
 obtain ⟨W4, hW4, HE2⟩ := Env.puts1 HE.out 12 (.slice A4 os4.length c4)
 rw [hW4]
 clear hW4
 replace HE : Hid (Env w [⟨w.heap.size + 1, 36, #[.int .u8 0, .slice none 0 0, .slice none 0 0, .int .i64 0, .int .i64 0, .int .i64 0, .int .i64 0, .int .i64 0, .int .i64 0, .int .i64 0, .int .i64 0, .slice none 0 0, .slice none 0 0]⟩, ⟨w.heap.size, 36, #[.int .u8 l.kind, .slice A1 os1.length c1, .slice A2 os2.length c2, .int .i64 l.ch, .int .i64 l.high, .int .i64 l.wide, .int .i64 l.out, .int .i64 l.kh, .int .i64 l.kw, .int .i64 l.st, .int .i64 l.pad, .slice A3 os3.length c3, .slice A4 os4.length c4]⟩] _ _ W4) := HE2
 clear HE2
 replace c := Env.c2 HE.out
 go_wp2_with fail
 have hE := HE.out.put13 (.int .u8 l.kind) (.slice A1 os1.length c1) (.slice A2 os2.length c2) (.int .i64 l.ch) (.int .i64 l.high) (.int .i64 l.wide) (.int .i64 l.out) (.int .i64 l.kh) (.int .i64 l.kw) (.int .i64 l.st) (.int .i64 l.pad) (.slice A3 os3.length c3) (.slice A4 os4.length c4)
 replace c := Env.c2 hE
 exact bodyPost_ret (v := .agg #[.int .u8 l.kind, .slice A1 os1.length c1, .slice A2 os2.length c2, .int .i64 l.ch, .int .i64 l.high, .int .i64 l.wide, .int .i64 l.out, .int .i64 l.kh, .int .i64 l.kw, .int .i64 l.st, .int .i64 l.pad, .slice A3 os3.length c3, .slice A4 os4.length c4]) (by simp [results, Tryz.results30, go_sem, c]) rfl ⟨⟨l.kind, A1, c1, os1, A2, c2, os2, l.ch, l.high, l.wide, l.out, l.kh, l.kw, l.st, l.pad, A3, c3, os3, A4, c4, os4⟩, rfl, by unfold LaG.q zcp; rw [HM1.out, HM2.out, HM3.out, HM4.out], (hE.rsn.imp fun _ h => ⟨fun g hg => (h.1.ok g hg).1, h.2.2.2.1, h.2.2.1, h.2.1, h.1.el, fun g hg => (h.1.ok g hg).2⟩).mono fun _ h => h.1, hE.bel⟩

theorem lex2 {W a a' c c' : Int} (hc : 0 ≤ c) (hc' : 0 ≤ c') (h : c < W) (_ : c' < W) (hl : a < a' ∨ (a = a' ∧ c < c')) : a * W + c < a' * W + c' := by
 rcases hl with hl | ⟨rfl, hl⟩
 ·have hW : 0 ≤ W := by omega
  have h1 : (a + 1) * W ≤ a' * W := Int.mul_le_mul_of_nonneg_right (by omega) hW
  rw [Int.add_mul, Int.one_mul] at h1
  omega
 ·omega
theorem lexN {kw a b : Nat} (h : a < b) : a / kw < b / kw ∨ (a / kw = b / kw ∧ a % kw < b % kw) := by
 rcases Nat.lt_or_ge (a / kw) (b / kw) with h1 | h1
 ·exact .inl h1
 ·have h2 : a / kw ≤ b / kw := Nat.div_le_div_right (Nat.le_of_lt h)
  have h3 : a / kw = b / kw := by omega
  refine .inr ⟨h3, ?_⟩
  have e1 := Nat.div_add_mod a kw
  have e2 := Nat.div_add_mod b kw
  rw [h3] at e1
  omega
def plK (kh kw : Nat) (high wide row col : Int) (k : Nat) : Option Int :=
 if 0 ≤ row + (k / kw % kh : Nat) ∧ row + (k / kw % kh : Nat) < high ∧ 0 ≤ col + (k % kw : Nat) ∧ col + (k % kw : Nat) < wide then
  some ((((k / kw / kh : Nat) : Int) * high + (row + (k / kw % kh : Nat))) * wide + (col + (k % kw : Nat))) else none
theorem zjQ {kh kw : Nat} {high wide row col : Int} {k k' : Nat} {a a' : Int} (h : k < k') (e : plK kh kw high wide row col k = some a) (e' : plK kh kw high wide row col k' = some a') : a < a' := by
 unfold plK at e e'
 split at e
 ·rename_i hb
  split at e'
  ·rename_i hb'
   injection e with e
   injection e' with e'
   subst e e'
   refine lex2 hb.2.2.1 hb'.2.2.1 hb.2.2.2 hb'.2.2.2 ?_
   rcases lexN (kw := kw) h with h1 | ⟨h1, h2⟩
   ·left
    refine lex2 hb.1 hb'.1 hb.2.1 hb'.2.1 ?_
    rcases lexN (kw := kh) h1 with h2 | ⟨h2, h3⟩
    ·left; omega
    ·right; omega
   ·right
    rw [h1]
    exact ⟨rfl, by omega⟩
  ·cases e'
 ·cases e
theorem zfD {ch kh kw : Nat} {high wide row col : Int} {k : Nat} {a : Int} (hk : k < ch * kh * kw) (e : plK kh kw high wide row col k = some a) : 0 ≤ a ∧ a < (ch : Int) * high * wide := by
 unfold plK at e
 split at e
 ·rename_i hb
  injection e with e
  subst e
  have hkw : 0 < kw := by
   rcases Nat.eq_zero_or_pos kw with h | h
   ·subst h; simp at hk
   ·exact h
  have hkh : 0 < kh := by
   rcases Nat.eq_zero_or_pos kh with h | h
   ·subst h; simp at hk
   ·exact h
  have hp : k / kw / kh < ch := by
   rw [Nat.div_div_eq_div_mul, Nat.div_lt_iff_lt_mul (Nat.mul_pos hkw hkh)]
   rw [show ch * (kw * kh) = ch * kh * kw from by rw [Nat.mul_comm kw kh, Nat.mul_assoc]]
   exact hk
  generalize hP : (k / kw / kh) = P at hp
  generalize hR : row + ((k / kw % kh : Nat) : Int) = R at hb
  generalize hC : col + ((k % kw : Nat) : Int) = C at hb
  obtain ⟨h1, h2, h3, h4⟩ := hb
  have g0 : 0 ≤ (P : Int) * high := Int.mul_nonneg (by omega) (by omega)
  have g1 : 0 ≤ ((P : Int) * high + R) * wide := Int.mul_nonneg (by omega) (by omega)
  have g2 : ((P : Int) + 1) * high ≤ (ch : Int) * high := Int.mul_le_mul_of_nonneg_right (by omega) (by omega)
  rw [Int.add_mul, Int.one_mul] at g2
  have g3 : ((P : Int) * high + R + 1) * wide ≤ (ch : Int) * high * wide := Int.mul_le_mul_of_nonneg_right (by omega) (by omega)
  rw [Int.add_mul, Int.one_mul] at g3
  constructor <;> omega
 ·cases e
theorem nest {kh kw p i j : Nat} (hi : i < kh) (hj : j < kw) : ((p * kh + i) * kw + j) % kw = j ∧ ((p * kh + i) * kw + j) / kw % kh = i ∧ ((p * kh + i) * kw + j) / kw / kh = p := by
 have e1 : ((p * kh + i) * kw + j) / kw = p * kh + i := by
  rw [Nat.add_comm, Nat.add_mul_div_right _ _ (by omega), Nat.div_eq_of_lt hj, Nat.zero_add]
 refine ⟨by rw [Nat.add_comm, Nat.add_mul_mod_self_right, Nat.mod_eq_of_lt hj], ?_, ?_⟩
 ·rw [e1, Nat.add_comm, Nat.add_mul_mod_self_right, Nat.mod_eq_of_lt hi]
 ·rw [e1, Nat.add_comm, Nat.add_mul_div_right _ _ (by omega), Nat.div_eq_of_lt hi, Nat.zero_add]
def zcP (pl : Nat → Option Int) (K : Nat → Rat) (n : Nat) : List (Int × Rat) := (List.range n).filterMap fun k => (pl k).map fun a => (a, K k)
theorem zca (pl : Nat → Option Int) (K : Nat → Rat) (n : Nat) : zcP pl K (n + 1) = zcP pl K n ++ (match pl n with | some a => [(a, K n)] | none => []) := by
 unfold zcP
 rw [List.range_succ, List.filterMap_append]
 congr 1
 cases h : pl n <;> simp [h]
theorem zdC {pl : Nat → Option Int} {K : Nat → Rat} {n : Nat} {x : Int × Rat} (h : x ∈ zcP pl K n) : ∃ k, k < n ∧ pl k = some x.1 ∧ x.2 = K k := by
 obtain ⟨k, hk, e⟩ := List.mem_filterMap.1 h
 rw [List.mem_range] at hk
 cases hp : pl k with
 | none => rw [hp] at e; cases e
 | some a =>
  rw [hp] at e
  simp only [Option.map_some, Option.some.injEq] at e
  subst e
  exact ⟨k, hk, hp, rfl⟩
theorem zcS {pl : Nat → Option Int} (hl : ∀ k k' a a', k < k' → pl k = some a → pl k' = some a' → a < a') (K : Nat → Rat) : ∀ n, (zcP pl K n).Pairwise fun x y => x.1 < y.1
 | 0 => List.Pairwise.nil
 | n + 1 => by
  rw [zca]
  refine List.pairwise_append.2 ⟨zcS hl K n, ?_, fun x hx y hy => ?_⟩
  ·cases pl n
   ·exact List.Pairwise.nil
   ·exact List.pairwise_singleton _ _
  ·obtain ⟨k, hk, e, -⟩ := zdC hx
   cases hp : pl n with
   | none => rw [hp] at hy; simp at hy
   | some a =>
    rw [hp] at hy
    rw [List.mem_singleton.1 hy]
    exact hl k n _ _ hk e hp
def sumK (pl : Nat → Option Int) (K : Nat → Rat) (x : Int → Rat) : Nat → Rat
 | 0 => 0
 | k + 1 => sumK pl K x k + (match pl k with | some a => K k * x a | none => 0)
theorem zoD (pl : Nat → Option Int) (K : Nat → Rat) {x : Int → Rat} (hx : ∀ a, x a = 0) : ∀ n, sumK pl K x n = 0
 | 0 => rfl
 | n + 1 => by
  rw [sumK, zoD pl K hx n]
  cases pl n with
  | none => exact Rat.add_zero 0
  | some a =>
   show (0 : Rat) + K n * x a = 0
   rw [hx, Rat.mul_zero]
   exact Rat.add_zero 0
theorem zoz (pl : Nat → Option Int) (K : Nat → Rat) {x : Int → Rat} {c : Int} (hx : ∀ a, x a = if a = c then 1 else 0) : ∀ n, sumK pl K x n = getQ (zcP pl K n) c
 | 0 => rfl
 | n + 1 => by
  rw [sumK, zoz pl K hx n, zca, zd5]
  congr 1
  cases pl n with
  | none => rfl
  | some a =>
   simp only [hx]
   rw [zfP]
   by_cases e : a = c
   ·rw [if_pos e, if_pos e, Rat.mul_one]
   ·rw [if_neg e, if_neg e, Rat.mul_zero]
theorem zoe (g : Nat → Rat) : ∀ n, ((List.range n).map fun k : Nat => ((k : Int), g k)).Pairwise fun x y => x.1 < y.1
 | 0 => List.Pairwise.nil
 | n + 1 => by
  rw [List.range_succ, List.map_append]
  refine List.pairwise_append.2 ⟨zoe g n, List.pairwise_singleton _ _, fun x hx y hy => ?_⟩
  obtain ⟨k, hk, rfl⟩ := List.mem_map.1 hx
  rw [List.mem_range] at hk
  rw [List.mem_singleton.1 hy]
  show (k : Int) < (n : Int)
  omega
theorem zds (g : Nat → Rat) : ∀ n (a : Int), getQ ((List.range n).map fun k : Nat => ((k : Int), g k)) a = if 0 ≤ a ∧ a < (n : Int) then g a.toNat else 0
 | 0, a => by rw [if_neg (by omega)]; rfl
 | n + 1, a => by
  rw [List.range_succ, List.map_append, zd5, zds g n a, List.map_singleton, zfP]
  show _ + (if (n : Int) = a then g n else 0) = _
  by_cases e : (n : Int) = a
  ·subst e
   rw [if_neg (by omega), if_pos rfl, if_pos (by omega), Rat.zero_add, Int.toNat_natCast]
  ·rw [if_neg e, Rat.add_zero]
   by_cases h : 0 ≤ a ∧ a < (n : Int)
   ·rw [if_pos h, if_pos (by omega)]
   ·rw [if_neg h, if_neg (by omega)]
theorem zqy {Z : List (Int × Rat)} (hr : Z.Pairwise fun x y => x.1 < y.1) {n : Nat} (hz : ∀ x ∈ Z, 0 ≤ x.1 ∧ x.1 < (n : Int)) : ((List.range n).map fun k : Nat => ((k : Int), getQ Z (k : Int))).filter nzP = Z.filter nzP := by
 refine zo0 ((zoe _ n).filter _) (hr.filter _) (fun x hx => (List.mem_filter.1 hx).2) (fun x hx => (List.mem_filter.1 hx).2) fun a => ?_
 rw [zde, zde, zds]
 split
 ·rename_i h
  rw [Int.toNat_of_nonneg h.1]
 ·rename_i h
  exact (zc7 fun x hx e => h (by have := hz x hx; omega)).symm

structure Dims (l : LaV) (C H W O KH KW ST PD : Nat) : Prop where
 ch : l.ch = C
 high : l.high = H
 wide : l.wide = W
 out : l.out = O
 kh : l.kh = KH
 kw : l.kw = KW
 st : l.st = ST
 pad : l.pad = PD
theorem wmul {a b m : Nat} (h : m = a * b) (hb : m ≤ 1152921504606846976) : IntKind.i64.wrap ((a : Int) * (b : Int)) = (m : Int) := by
 rw [zad (by rw [← Int.natCast_mul, ← h]; omega), ← Int.natCast_mul, ← h]
theorem wadd {a b m : Nat} (h : m = a + b) (hb : m ≤ 1152921504606846976) : IntKind.i64.wrap ((a : Int) + (b : Int)) = (m : Int) := by
 rw [zad (by omega)]; omega
def kq (ks : List Rat) (E o k : Nat) : Rat := (ks[o * E + k]?).getD 0
structure SpI (l : LaV) (pl : Nat → Option Int) (K : Nat → Rat) (k : Nat) (os : List TeV) : Prop where
 q : os.map plq = zcP pl K k
 le : os.length ≤ k
 mem : ∀ t ∈ os, (t.r, t.q) ∈ l.kern
theorem SpI.start (l : LaV) (pl : Nat → Option Int) (K : Nat → Rat) : SpI l pl K 0 [] := ⟨rfl, Nat.le_refl _, by simp⟩
theorem SpI.skip {l : LaV} {pl : Nat → Option Int} {K : Nat → Rat} {k : Nat} {os : List TeV} (h : SpI l pl K k os) (hp : pl k = none) : SpI l pl K (k + 1) os :=
 ⟨by rw [h.q, zca, hp]; simp, by have := h.le; omega, h.mem⟩
theorem SpI.next {l : LaV} {pl : Nat → Option Int} {K : Nat → Rat} {k : Nat} {os : List TeV} (h : SpI l pl K k os) {a : Int} {p : RV × Rat} (hp : pl k = some a) (hK : K k = p.2) (hm : p ∈ l.kern) : SpI l pl K (k + 1) (os ++ [⟨a, p.1, p.2⟩]) := by
 refine ⟨by rw [List.map_append, h.q, zca, hp, hK]; rfl, by have := h.le; simp; omega, fun t ht => ?_⟩
 rcases List.mem_append.1 ht with ht | ht
 ·exact h.mem t ht
 ·rw [List.mem_singleton.1 ht]; exact hm
theorem zjW {KH KW : Nat} {high wide row col : Int} {p i j : Nat} (hi : i < KH) (hj : j < KW) : plK KH KW high wide row col ((p * KH + i) * KW + j) = if 0 ≤ row + i ∧ row + i < high ∧ 0 ≤ col + j ∧ col + j < wide then some (((p : Int) * high + (row + i)) * wide + (col + j)) else none := by
 obtain ⟨h1, h2, h3⟩ := nest (p := p) hi hj
 unfold plK
 rw [h1, h2, h3]
set_option maxRecDepth 100000 in
theorem ziJ (w : World) (n : Nat) (hn : n ≤ 100000) (h1n : 1 ≤ n) (l : LaV) (h : LaD n l w) (hT : Tz w) (nr nb nk ng : Nat) (hk : nk = l.kern.length) (C H W O KH KW ST PD : Nat) (hd : C ≤ 256 ∧ H ≤ 256 ∧ W ≤ 256 ∧ KH ≤ 256 ∧ KW ≤ 256) (o : Nat) (ho : o ≤ 256) (ho2 : (o + 1) * (C * KH * KW) ≤ nk) (he : C * KH * KW ≤ 1000) (row col : Int) (hr : -1000 ≤ row ∧ row ≤ 1000) (hc : -1000 ≤ col ∧ col ≤ 1000) : Calls Tryz.prog 45 #[dA l nr nb C H W O KH KW ST PD nk ng, .int .i64 (o : Int), .int .i64 row, .int .i64 col] w (RetVec ((zcP (plK KH KW (H : Int) (W : Int) row col) (kq (l.kern.map Prod.snd) (C * KH * KW) o) (C * KH * KW)).filter nzP) w) := by
 have sl1 := h.kern.sl
 rw [← hk] at sl1
 have hszr := zak
 have hadd := za3
 have Hk := zmZ hk
 have Ho2 := zmZ ho2
 have He := zmZ he
 have HE := zmZ (layD l nr nb C H W O KH KW ST PD nk ng (((LaD.old l w h)).and (hT.old)))
 have c := Env.c1 HE.out
 clear h hT hk ho2 he
 unfold dA
 go_enter Tryz.func45, Tryz.ntmps45
 go_upto_region 3 with fail
 have HG := zmZ ((GL.start HE.out).new_ 45 5)
 clear HE c
 go_loopw [9, 18] (fun ov iv wr => ∃ (Ao : Option Addr) (co x : Nat) (os : List TeV), ov = .slice Ao os.length co ∧ iv = .int .i64 (x : Int) ∧ x ≤ C ∧ Hid (SpI l (plK KH KW (H : Int) (W : Int) row col) (kq (l.kern.map Prod.snd) (C * KH * KW) o) (x * KH * KW) os) ∧ Hid (GL w [⟨45, 5, .slice Ao os.length co, os.map tecells⟩] (fun V => oD w l nr nb C H W O KH KW ST PD nk ng V ∧ LaD n l V ∧ Tz V) (fun _ => True) wr)) (fun _ iv _ => C - (intOf iv).toNat)
 case atStart => exact ⟨none, 0, 0, [], rfl, rfl, Nat.zero_le _, zmZ (by rw [Nat.zero_mul, Nat.zero_mul]; exact SpI.start _ _ _), zmZ (HG.out.imp (fun _ h => h) (fun _ _ => trivial))⟩
 case round =>
  clear HG
  obtain ⟨Ao, co, p, os, rfl, rfl, hp, HI, HG⟩ := hrel
  by_cases hlp : p < C
  ·have cb := Blk.cb (HG.out.o.1 _ (List.mem_singleton_self _))
   go_upto_region 6 with fail
   clear cb
   go_loopw [9, 23] (fun ov iv wr => ∃ (Ao : Option Addr) (co x : Nat) (os : List TeV), ov = .slice Ao os.length co ∧ iv = .int .i64 (x : Int) ∧ x ≤ KH ∧ Hid (SpI l (plK KH KW (H : Int) (W : Int) row col) (kq (l.kern.map Prod.snd) (C * KH * KW) o) ((p * KH + x) * KW) os) ∧ Hid (GL w [⟨45, 5, .slice Ao os.length co, os.map tecells⟩] (fun V => oD w l nr nb C H W O KH KW ST PD nk ng V ∧ LaD n l V ∧ Tz V) (fun _ => True) wr)) (fun _ iv _ => KH - (intOf iv).toNat)
   case atStart => exact ⟨Ao, co, 0, os, rfl, rfl, Nat.zero_le _, zmZ (by rw [Nat.add_zero]; exact HI.out), HG⟩
   case round =>
    clear HG HI
    obtain ⟨Ao, co, i, os, rfl, rfl, hi, HI, HG⟩ := hrel
    by_cases hli : i < KH
    ·have cb := Blk.cb (HG.out.o.1 _ (List.mem_singleton_self _))
     go_upto_region 9 with fail
     clear cb
     go_loopw [9, 28] (fun ov iv wr => ∃ (Ao : Option Addr) (co x : Nat) (os : List TeV), ov = .slice Ao os.length co ∧ iv = .int .i64 (x : Int) ∧ x ≤ KW ∧ Hid (SpI l (plK KH KW (H : Int) (W : Int) row col) (kq (l.kern.map Prod.snd) (C * KH * KW) o) ((p * KH + i) * KW + x) os) ∧ Hid (GL w [⟨45, 5, .slice Ao os.length co, os.map tecells⟩] (fun V => oD w l nr nb C H W O KH KW ST PD nk ng V ∧ LaD n l V ∧ Tz V) (fun _ => True) wr)) (fun _ iv _ => KW - (intOf iv).toNat)
     case atStart => exact ⟨Ao, co, 0, os, rfl, rfl, Nat.zero_le _, zmZ (by rw [Nat.add_zero]; exact HI.out), HG⟩
     case round =>
      clear HG HI
      obtain ⟨Ao, co, j, os, rfl, rfl, hj, HI, HG⟩ := hrel
      by_cases hlj : j < KW
      ·have cb := Blk.cb (HG.out.o.1 _ (List.mem_singleton_self _))
       obtain ⟨R, hR⟩ : ∃ R : Int, R = row + (i : Int) := ⟨_, rfl⟩
       obtain ⟨Q, hQ⟩ : ∃ Q : Int, Q = col + (j : Int) := ⟨_, rfl⟩
       have w1 : IntKind.i64.wrap (row + (i : Int)) = R := by rw [hR]; exact zaH (by omega)
       have w2 : IntKind.i64.wrap (col + (j : Int)) = Q := by rw [hQ]; exact zaH (by omega)
       have HPL := zmZ (zjW (high := (H : Int)) (wide := (W : Int)) (row := row) (col := col) (p := p) hli hlj)
       rw [← hR, ← hQ] at HPL
       clear hR hQ
       go_upto_region 12 with fail
       clear w1 w2
       by_cases q0 : R < 0
       ·have HI2 := zmZ (HI.out.skip (HPL.out.trans (if_neg (fun h => by omega))))
        go_wp2_with fail
        go_roundw
        case rel => exact ⟨Ao, co, j + 1, os, rfl, by go_num, by omega, HI2, HG⟩
        case measure => (simp [intOf] <;> omega)
       ·have hsk := trivial
        clear hsk
        by_cases q1 : R ≥ (H : Int)
        ·have HI2 := zmZ (HI.out.skip (HPL.out.trans (if_neg (fun h => by omega))))
         go_wp2_with fail
         go_roundw
         case rel => exact ⟨Ao, co, j + 1, os, rfl, by go_num, by omega, HI2, HG⟩
         case measure => (simp [intOf] <;> omega)
        ·have hsk := trivial
         clear hsk
         by_cases q2 : Q < 0
         ·have HI2 := zmZ (HI.out.skip (HPL.out.trans (if_neg (fun h => by omega))))
          go_wp2_with fail
          go_roundw
          case rel => exact ⟨Ao, co, j + 1, os, rfl, by go_num, by omega, HI2, HG⟩
          case measure => (simp [intOf] <;> omega)
         ·have hsk := trivial
          clear hsk
          by_cases q3 : Q ≥ (W : Int)
          ·have HI2 := zmZ (HI.out.skip (HPL.out.trans (if_neg (fun h => by omega))))
           go_wp2_with fail
           go_roundw
           case rel => exact ⟨Ao, co, j + 1, os, rfl, by go_num, by omega, HI2, HG⟩
           case measure => (simp [intOf] <;> omega)
          ·have hsk := trivial
           clear hsk
           obtain ⟨rn, rfl⟩ : ∃ rn : Nat, R = rn := ⟨R.toNat, by omega⟩
           obtain ⟨cn, rfl⟩ : ∃ cn : Nat, Q = cn := ⟨Q.toNat, by omega⟩
           have HP2 := zmZ (HPL.out.trans (if_pos (by omega)))
           have hk0 : o * (C * KH * KW) + ((p * KH + i) * KW + j) < nk := by
            have h1 := Ho2.out
            rw [Nat.add_mul, Nat.one_mul] at h1
            have h2 : (p * KH + i) * KW + j < C * KH * KW := by
             have a1 : (p + 1) * KH ≤ C * KH := Nat.mul_le_mul_right _ hlp
             rw [Nat.add_mul, Nat.one_mul] at a1
             have a2 : (p * KH + i + 1) * KW ≤ C * KH * KW := Nat.mul_le_mul_right _ (by omega)
             rw [Nat.add_mul, Nat.one_mul] at a2
             omega
            omega
           obtain ⟨a1, ha1⟩ : ∃ a, a = o * C := ⟨_, rfl⟩
           obtain ⟨a2, ha2⟩ : ∃ a, a = a1 + p := ⟨_, rfl⟩
           obtain ⟨a3, ha3⟩ : ∃ a, a = a2 * KH := ⟨_, rfl⟩
           obtain ⟨a4, ha4⟩ : ∃ a, a = a3 + i := ⟨_, rfl⟩
           obtain ⟨a5, ha5⟩ : ∃ a, a = a4 * KW := ⟨_, rfl⟩
           obtain ⟨a6, ha6⟩ : ∃ a, a = a5 + j := ⟨_, rfl⟩
           have b1 : a1 ≤ 256 * 256 := by rw [ha1]; exact Nat.mul_le_mul ho hd.1
           have b3 : a3 ≤ 65792 * 256 := by rw [ha3]; exact Nat.mul_le_mul (by omega) hd.2.2.2.1
           have b5 : a5 ≤ 16843008 * 256 := by rw [ha5]; exact Nat.mul_le_mul (by omega) hd.2.2.2.2
           have e1 := wmul ha1 (by omega)
           have e2 := wadd ha2 (by omega)
           have e3 := wmul ha3 (by omega)
           have e4 := wadd ha4 (by omega)
           have e5 := wmul ha5 (by omega)
           have e6 := wadd ha6 (by omega)
           obtain ⟨d1, hd1⟩ : ∃ a, a = p * H := ⟨_, rfl⟩
           obtain ⟨d2, hd2⟩ : ∃ a, a = d1 + rn := ⟨_, rfl⟩
           obtain ⟨d3, hd3⟩ : ∃ a, a = d2 * W := ⟨_, rfl⟩
           obtain ⟨d4, hd4⟩ : ∃ a, a = d3 + cn := ⟨_, rfl⟩
           have f1 : d1 ≤ 256 * 256 := by rw [hd1]; exact Nat.mul_le_mul (by omega) hd.2.1
           have f3 : d3 ≤ 65792 * 256 := by rw [hd3]; exact Nat.mul_le_mul (by omega) hd.2.2.1
           have g1 := wmul hd1 (by omega)
           have g2 := wadd hd2 (by omega)
           have g3 := wmul hd3 (by omega)
           have g4 := wadd hd4 (by omega)
           have hpl : ((p : Int) * (H : Int) + (rn : Int)) * (W : Int) + (cn : Int) = (d4 : Int) := by rw [hd4, hd3, hd2, hd1]; simp only [Int.natCast_add, Int.natCast_mul]
           have HP3 := zmZ (HP2.out.trans (congrArg some hpl))
           have hidx : a6 = o * (C * KH * KW) + ((p * KH + i) * KW + j) := by rw [ha6, ha5, ha4, ha3, ha2, ha1]; simp only [Nat.add_mul, Nat.mul_assoc, Nat.add_assoc]
           have hia : a6 < l.kern.length := by rw [← Hk.out, hidx]; exact hk0
           have hin : a6 < nk := by rw [Hk.out]; exact hia
           have HK := zmZ (show kq (l.kern.map Prod.snd) (C * KH * KW) o ((p * KH + i) * KW + j) = (l.kern[a6]'hia).2 from by
            unfold kq
            rw [← hidx, List.getElem?_map, List.getElem?_eq_getElem hia]
            rfl)
           have HE := zmZ HG.out.env
           have cr0 := HE.out.o.1.2.1.kern.rc a6 hia
           have Hmem := zmZ (List.getElem_mem hia)
           obtain ⟨z, hz⟩ : ∃ z, z = l.kern[a6] := ⟨_, rfl⟩
           rw [← hz] at cr0 HK Hmem
           have HI2 := zmZ (HI.out.next HP3.out HK.out Hmem.out)
           have hosl : os.length ≤ 1000000 := by
            have h1 := HI2.out.le
            have h3 := Ho2.out
            rw [Nat.add_mul, Nat.one_mul] at h3
            have h4 := He.out
            have h5 : (p * KH + i) * KW + j < C * KH * KW := by
             have a1 : (p + 1) * KH ≤ C * KH := Nat.mul_le_mul_right _ hlp
             rw [Nat.add_mul, Nat.one_mul] at a1
             have a2 : (p * KH + i + 1) * KW ≤ C * KH * KW := Nat.mul_le_mul_right _ (by omega)
             rw [Nat.add_mul, Nat.one_mul] at a2
             omega
            have h6 := HI.out.le
            omega
           clear hz ha1 ha2 ha3 ha4 ha5 ha6 hd1 hd2 hd3 hd4 b1 b3 b5 f1 f3 hpl hidx hk0 hia HPL HP2 HP3 HK Hmem HI
           go_upto_region 14 with fail
           obtain ⟨W2, gv, hW2, hgv, HE⟩ := Env.al HE.out 41 #[.bool z.1.num.neg, .slice z.1.num.A z.1.num.k z.1.num.c, .bool z.1.den.neg, .slice z.1.den.A z.1.den.k z.1.den.c]
           rw [hW2, hgv]
           clear hW2 hgv cr0
           have cv := Env.c1 HE.out
           replace cb := Blk.cb (HE.out.o.1.1 _ (List.mem_singleton_self _))
           obtain ⟨A', c', w8, hrun, hG⟩ := GL.appX (cells := tecells) zaK zbz rfl (by decide) (by decide) HG.out HE.out ⟨(d4 : Int), z.1, z.2⟩ rfl (zcr _) hosl
           have Hrun := zmZ hrun
           have HG2 := zmZ hG
           clear hrun hG hosl
           go_wp2_with (at_builtin; refine za1 rfl (.tmp 75) (.tmp 89) 42 _ _ _ rfl rfl rfl Hrun.out ?_)
           clear Hrun cb cv
           go_wp2_with fail
           go_roundw
           case rel => exact ⟨A', c', j + 1, os ++ [⟨(d4 : Int), z.1, z.2⟩], by simp, by go_num, by omega, HI2, zmZ (HG2.out.imp (fun _ h => h) (fun _ _ => trivial))⟩
           case measure => (simp [intOf] <;> omega)
      ·obtain rfl : j = KW := by omega
       have cb := Blk.cb (HG.out.o.1 _ (List.mem_singleton_self _))
       have HI2 := zmZ (show SpI l (plK KH j (H : Int) (W : Int) row col) (kq (l.kern.map Prod.snd) (C * KH * j) o) ((p * KH + (i + 1)) * j) os by have h9 := HI.out; rwa [← Nat.add_assoc, Nat.add_mul (p * KH + i) 1, Nat.one_mul])
       go_wp2_with fail
       go_roundw
       case rel => exact ⟨Ao, co, i + 1, os, rfl, by go_num, by omega, HI2, HG⟩
       case measure => (simp [intOf] <;> omega)
    ·obtain rfl : i = KH := by omega
     have cb := Blk.cb (HG.out.o.1 _ (List.mem_singleton_self _))
     have HI2 := zmZ (show SpI l (plK i KW (H : Int) (W : Int) row col) (kq (l.kern.map Prod.snd) (C * i * KW) o) ((p + 1) * i * KW) os by have h9 := HI.out; rwa [Nat.add_mul p 1, Nat.one_mul])
     go_wp2_with fail
     go_roundw
     case rel => exact ⟨Ao, co, p + 1, os, rfl, by go_num, by omega, HI2, HG⟩
     case measure => (simp [intOf] <;> omega)
  ·obtain rfl : p = C := by omega
   have hris : Rise os := zj7 HI.out.q (zcS (fun k k' a a' h e e' => zjQ h e e') _ _)
   have hlen : os.length ≤ 1000 := by have := HI.out.le; have := He.out; omega
   have HL := zmZ (show LsR 5 tecells (teD n) Ao os wr from ⟨(show OwnE wr w.heap.size 45 5 (.slice Ao os.length co) (os.map tecells) from HG.out.own _ (List.mem_cons_self ..)).el.1, fun t ht => HG.out.o.2.1.kern.ok _ (HI.out.mem t ht)⟩)
   have Hris := zmZ hris
   have Hlen := zmZ hlen
   clear hris hlen
   have cb := Blk.cb (HG.out.o.1 _ (List.mem_singleton_self _))
   go_wp2_with fail
   refine (zcN wr n hn h1n Ao co os HL.out Hlen.out Hris.out HG.out.o.2.2).mono ?_
   intro e w9 hret
   have HR := zmZ (hret.up HG.out.bel)
   rw [HI.out.q] at HR
   obtain ⟨A9, c9, ts9, rfl, -⟩ := hret
   go_wp2_with fail
   go_ret
   exact HR.out

section
variable {w W : World} {ls : List Ow} {old new : World → Prop}
theorem GL.appG {β : Type} {t e : TypeId} {k sz bytes g : Nat} {z : Value} {cells : β → Array Value} (ht : Tryz.prog.underlying t = some (.slice e)) (hinfo : (Tryz.prog.info? e).map (fun i => (i.zero, i.size, i.bytes)) = some (some z, sz, bytes)) (hz : z.cells.size = sz) (hsz : 0 < sz) (hby : bytes ≤ 1000)
 {A : Option Addr} {c : Nat} {l : List β} (h : GL w ls old new W) (hk : ls[k]? = some ⟨e, sz, .slice A l.length c, l.map cells⟩) (x : β) (hx : (cells x).size = sz) (h1 : ∀ u ∈ (cells x).toList, u.oneCell' = true) (hd : Blk W g e (cells x)) (hl : l.length ≤ 1000000) :
 ∃ A' c' w', (Builtin.append_ #[t, t] t #[.slice A l.length c, .slice (some ⟨g, 0, none⟩) 1 1]).run Tryz.prog W = .ok (.slice A' (l ++ [x]).length c') w' ∧ GL w (ls.set k ⟨e, sz, .slice A' (l ++ [x]).length c', (l ++ [x]).map cells⟩) old new w' := by
 have hel : El W sz (some ⟨g, 0, none⟩) [cells x] := by
  refine ⟨Sl.some_ _ _ _, fun i hi => ?_, fun i hi j hj => ?_⟩
  ·have : i = 0 := by simpa using hi
   subst this; exact hx
  ·have : i = 0 := by simpa using hi
   subst this
   rw [za4, Nat.zero_mul, Nat.zero_add, Nat.zero_add]
   exact hd.cell j
 have hm : (l.length + 1) * bytes ≤ 1000001 * 1000 := Nat.mul_le_mul (by omega) hby
 obtain ⟨v', w', hrun, hG, -, A', n', c', hv⟩ := GL.appAt (P := Tryz.prog) (c := 1) ht hinfo hz hsz h hk hel h1 (by simp; omega) (by simp [maxLen]; omega)
 obtain ⟨A2, c2, hv2, -⟩ := (hG.own _ (List.mem_of_getElem? (zaQ _ _ _ _ hk))).form
 have hv' : v' = .slice A2 (l ++ [x]).length c2 := by rw [show v' = _ from hv2]; simp
 subst hv'
 refine ⟨A2, c2, w', hrun, ?_⟩
 have e : (l ++ [x]).map cells = l.map cells ++ [cells x] := by simp
 rw [e]; exact hG
theorem GL.putc {k g i sz : Nat} {e : TypeId} {c0 : Array Value} (h : GL w ls old new W) (hk : ls[k]? = some (bow g e sz c0)) (hi : i < sz) (u : Value) : GL w (ls.set k (bow g e sz (c0.setIfInBounds i u))) old new (W.setCell ⟨g, i, none⟩ u) := by
 have h0 := h.setg (i := 0) (j := i) hk (by simp) hi u
 simp only [Nat.zero_mul, Nat.zero_add, List.getElem_cons_zero, List.set_cons_zero] at h0
 exact h0
theorem GL.put13 {k g : Nat} {e : TypeId} {u0 u1 u2 u3 u4 u5 u6 u7 u8 u9 u10 u11 u12 : Value} (h : GL w ls old new W) (hk : ls[k]? = some (bow g e 13 #[u0, u1, u2, u3, u4, u5, u6, u7, u8, u9, u10, u11, u12])) (a0 a1 a2 a3 a4 a5 a6 a7 a8 a9 a10 a11 a12 : Value) : GL w (ls.set k (bow g e 13 #[a0, a1, a2, a3, a4, a5, a6, a7, a8, a9, a10, a11, a12])) old new (((((((((((((W.setCell ⟨g, 0, none⟩ a0).setCell ⟨g, 1, none⟩ a1).setCell ⟨g, 2, none⟩ a2).setCell ⟨g, 3, none⟩ a3).setCell ⟨g, 4, none⟩ a4).setCell ⟨g, 5, none⟩ a5).setCell ⟨g, 6, none⟩ a6).setCell ⟨g, 7, none⟩ a7).setCell ⟨g, 8, none⟩ a8).setCell ⟨g, 9, none⟩ a9).setCell ⟨g, 10, none⟩ a10).setCell ⟨g, 11, none⟩ a11).setCell ⟨g, 12, none⟩ a12) := by
 have h1 : GL w (ls.set k (bow g e 13 #[a0, u1, u2, u3, u4, u5, u6, u7, u8, u9, u10, u11, u12])) old new (W.setCell ⟨g, 0, none⟩ a0) := by
  have h0 := h.putc (k := k) (i := 0) hk (by decide) a0
  exact h0
 have h2 : GL w (ls.set k (bow g e 13 #[a0, a1, u2, u3, u4, u5, u6, u7, u8, u9, u10, u11, u12])) old new ((W.setCell ⟨g, 0, none⟩ a0).setCell ⟨g, 1, none⟩ a1) := by
  have h0 := h1.putc (k := k) (i := 1) (zaQ _ _ _ _ hk) (by decide) a1
  rw [List.set_set] at h0
  exact h0
 have h3 : GL w (ls.set k (bow g e 13 #[a0, a1, a2, u3, u4, u5, u6, u7, u8, u9, u10, u11, u12])) old new (((W.setCell ⟨g, 0, none⟩ a0).setCell ⟨g, 1, none⟩ a1).setCell ⟨g, 2, none⟩ a2) := by
  have h0 := h2.putc (k := k) (i := 2) (zaQ _ _ _ _ hk) (by decide) a2
  rw [List.set_set] at h0
  exact h0
 have h4 : GL w (ls.set k (bow g e 13 #[a0, a1, a2, a3, u4, u5, u6, u7, u8, u9, u10, u11, u12])) old new ((((W.setCell ⟨g, 0, none⟩ a0).setCell ⟨g, 1, none⟩ a1).setCell ⟨g, 2, none⟩ a2).setCell ⟨g, 3, none⟩ a3) := by
  have h0 := h3.putc (k := k) (i := 3) (zaQ _ _ _ _ hk) (by decide) a3
  rw [List.set_set] at h0
  exact h0
 have h5 : GL w (ls.set k (bow g e 13 #[a0, a1, a2, a3, a4, u5, u6, u7, u8, u9, u10, u11, u12])) old new (((((W.setCell ⟨g, 0, none⟩ a0).setCell ⟨g, 1, none⟩ a1).setCell ⟨g, 2, none⟩ a2).setCell ⟨g, 3, none⟩ a3).setCell ⟨g, 4, none⟩ a4) := by
  have h0 := h4.putc (k := k) (i := 4) (zaQ _ _ _ _ hk) (by decide) a4
  rw [List.set_set] at h0
  exact h0
 have h6 : GL w (ls.set k (bow g e 13 #[a0, a1, a2, a3, a4, a5, u6, u7, u8, u9, u10, u11, u12])) old new ((((((W.setCell ⟨g, 0, none⟩ a0).setCell ⟨g, 1, none⟩ a1).setCell ⟨g, 2, none⟩ a2).setCell ⟨g, 3, none⟩ a3).setCell ⟨g, 4, none⟩ a4).setCell ⟨g, 5, none⟩ a5) := by
  have h0 := h5.putc (k := k) (i := 5) (zaQ _ _ _ _ hk) (by decide) a5
  rw [List.set_set] at h0
  exact h0
 have h7 : GL w (ls.set k (bow g e 13 #[a0, a1, a2, a3, a4, a5, a6, u7, u8, u9, u10, u11, u12])) old new (((((((W.setCell ⟨g, 0, none⟩ a0).setCell ⟨g, 1, none⟩ a1).setCell ⟨g, 2, none⟩ a2).setCell ⟨g, 3, none⟩ a3).setCell ⟨g, 4, none⟩ a4).setCell ⟨g, 5, none⟩ a5).setCell ⟨g, 6, none⟩ a6) := by
  have h0 := h6.putc (k := k) (i := 6) (zaQ _ _ _ _ hk) (by decide) a6
  rw [List.set_set] at h0
  exact h0
 have h8 : GL w (ls.set k (bow g e 13 #[a0, a1, a2, a3, a4, a5, a6, a7, u8, u9, u10, u11, u12])) old new ((((((((W.setCell ⟨g, 0, none⟩ a0).setCell ⟨g, 1, none⟩ a1).setCell ⟨g, 2, none⟩ a2).setCell ⟨g, 3, none⟩ a3).setCell ⟨g, 4, none⟩ a4).setCell ⟨g, 5, none⟩ a5).setCell ⟨g, 6, none⟩ a6).setCell ⟨g, 7, none⟩ a7) := by
  have h0 := h7.putc (k := k) (i := 7) (zaQ _ _ _ _ hk) (by decide) a7
  rw [List.set_set] at h0
  exact h0
 have h9 : GL w (ls.set k (bow g e 13 #[a0, a1, a2, a3, a4, a5, a6, a7, a8, u9, u10, u11, u12])) old new (((((((((W.setCell ⟨g, 0, none⟩ a0).setCell ⟨g, 1, none⟩ a1).setCell ⟨g, 2, none⟩ a2).setCell ⟨g, 3, none⟩ a3).setCell ⟨g, 4, none⟩ a4).setCell ⟨g, 5, none⟩ a5).setCell ⟨g, 6, none⟩ a6).setCell ⟨g, 7, none⟩ a7).setCell ⟨g, 8, none⟩ a8) := by
  have h0 := h8.putc (k := k) (i := 8) (zaQ _ _ _ _ hk) (by decide) a8
  rw [List.set_set] at h0
  exact h0
 have h10 : GL w (ls.set k (bow g e 13 #[a0, a1, a2, a3, a4, a5, a6, a7, a8, a9, u10, u11, u12])) old new ((((((((((W.setCell ⟨g, 0, none⟩ a0).setCell ⟨g, 1, none⟩ a1).setCell ⟨g, 2, none⟩ a2).setCell ⟨g, 3, none⟩ a3).setCell ⟨g, 4, none⟩ a4).setCell ⟨g, 5, none⟩ a5).setCell ⟨g, 6, none⟩ a6).setCell ⟨g, 7, none⟩ a7).setCell ⟨g, 8, none⟩ a8).setCell ⟨g, 9, none⟩ a9) := by
  have h0 := h9.putc (k := k) (i := 9) (zaQ _ _ _ _ hk) (by decide) a9
  rw [List.set_set] at h0
  exact h0
 have h11 : GL w (ls.set k (bow g e 13 #[a0, a1, a2, a3, a4, a5, a6, a7, a8, a9, a10, u11, u12])) old new (((((((((((W.setCell ⟨g, 0, none⟩ a0).setCell ⟨g, 1, none⟩ a1).setCell ⟨g, 2, none⟩ a2).setCell ⟨g, 3, none⟩ a3).setCell ⟨g, 4, none⟩ a4).setCell ⟨g, 5, none⟩ a5).setCell ⟨g, 6, none⟩ a6).setCell ⟨g, 7, none⟩ a7).setCell ⟨g, 8, none⟩ a8).setCell ⟨g, 9, none⟩ a9).setCell ⟨g, 10, none⟩ a10) := by
  have h0 := h10.putc (k := k) (i := 10) (zaQ _ _ _ _ hk) (by decide) a10
  rw [List.set_set] at h0
  exact h0
 have h12 : GL w (ls.set k (bow g e 13 #[a0, a1, a2, a3, a4, a5, a6, a7, a8, a9, a10, a11, u12])) old new ((((((((((((W.setCell ⟨g, 0, none⟩ a0).setCell ⟨g, 1, none⟩ a1).setCell ⟨g, 2, none⟩ a2).setCell ⟨g, 3, none⟩ a3).setCell ⟨g, 4, none⟩ a4).setCell ⟨g, 5, none⟩ a5).setCell ⟨g, 6, none⟩ a6).setCell ⟨g, 7, none⟩ a7).setCell ⟨g, 8, none⟩ a8).setCell ⟨g, 9, none⟩ a9).setCell ⟨g, 10, none⟩ a10).setCell ⟨g, 11, none⟩ a11) := by
  have h0 := h11.putc (k := k) (i := 11) (zaQ _ _ _ _ hk) (by decide) a11
  rw [List.set_set] at h0
  exact h0
 have h13 : GL w (ls.set k (bow g e 13 #[a0, a1, a2, a3, a4, a5, a6, a7, a8, a9, a10, a11, a12])) old new (((((((((((((W.setCell ⟨g, 0, none⟩ a0).setCell ⟨g, 1, none⟩ a1).setCell ⟨g, 2, none⟩ a2).setCell ⟨g, 3, none⟩ a3).setCell ⟨g, 4, none⟩ a4).setCell ⟨g, 5, none⟩ a5).setCell ⟨g, 6, none⟩ a6).setCell ⟨g, 7, none⟩ a7).setCell ⟨g, 8, none⟩ a8).setCell ⟨g, 9, none⟩ a9).setCell ⟨g, 10, none⟩ a10).setCell ⟨g, 11, none⟩ a11).setCell ⟨g, 12, none⟩ a12) := by
  have h0 := h12.putc (k := k) (i := 12) (zaQ _ _ _ _ hk) (by decide) a12
  rw [List.set_set] at h0
  exact h0
 exact h13
theorem GL.els9 {k : Nat} {e : TypeId} {sz n cap : Nat} {A : Option Addr} {cs : List (Array Value)} (h : GL w ls old new W) (hk : ls[k]? = some ⟨e, sz, .slice A n cap, cs⟩) : Rests W (w.heap.size ≤ ·) (fun V => El V sz A cs) := by
 have ho : OwnE W w.heap.size e sz (.slice A n cap) cs := h.own _ (List.mem_of_getElem? hk)
 obtain ⟨A', c', hv, -, hr⟩ := ho.reads
 obtain ⟨rfl, -, -⟩ : A = A' ∧ n = cs.length ∧ cap = c' := by simpa using hv
 exact hr
end
def rowF (KH KW H W ST PD R Q E : Nat) (ks : List Rat) (k : Nat) : List (Int × Rat) := (zcP (plK KH KW (H : Int) (W : Int) (((k / Q % R * ST : Nat) : Int) - (PD : Int)) (((k % Q * ST : Nat) : Int) - (PD : Int))) (kq ks E (k / Q / R)) E).filter nzP
def zd3 (R Q : Nat) (bs : List Rat) (k : Nat) : Rat := (bs[k / Q / R]?).getD 0
def zjx (C H W O KH KW ST PD R Q : Nat) (ks bs : List Rat) : LQ := ⟨1, (List.range (O * R * Q)).map (rowF KH KW H W ST PD R Q (C * KH * KW) ks), (List.range (O * R * Q)).map (zd3 R Q bs), [0, 0, 0, 0, 0, 0, 0, 0], [], []⟩
structure SmI (F : Nat → List (Int × Rat)) (B : Nat → Rat) (k m : Nat) (rs : List VeV) (bs : List (RV × Rat)) : Prop where
 r : rs.map (fun v => v.ts.map plq) = (List.range k).map F
 b : bs.map Prod.snd = (List.range m).map B
theorem SmI.lr {F : Nat → List (Int × Rat)} {B : Nat → Rat} {k m : Nat} {rs : List VeV} {bs : List (RV × Rat)} (h : SmI F B k m rs bs) : rs.length = k ∧ bs.length = m := by
 have h1 := congrArg List.length h.r
 have h2 := congrArg List.length h.b
 simp at h1 h2
 exact ⟨h1, h2⟩
theorem SmI.row {F : Nat → List (Int × Rat)} {B : Nat → Rat} {k m : Nat} {rs : List VeV} {bs : List (RV × Rat)} (h : SmI F B k m rs bs) {v : VeV} (hv : v.ts.map plq = F k) : SmI F B (k + 1) m (rs ++ [v]) bs :=
 ⟨by rw [List.map_append, h.r, List.range_succ, List.map_append]; simp [hv], h.b⟩
theorem SmI.num {F : Nat → List (Int × Rat)} {B : Nat → Rat} {k m : Nat} {rs : List VeV} {bs : List (RV × Rat)} (h : SmI F B k m rs bs) {p : RV × Rat} (hp : p.2 = B m) : SmI F B k (m + 1) rs (bs ++ [p]) :=
 ⟨h.r, by rw [List.map_append, h.b, List.range_succ, List.map_append]; simp [hp]⟩
set_option maxRecDepth 100000 in
theorem zjH (w : World) (n : Nat) (hn : n ≤ 100000) (h1n : 1 ≤ n) (l : LaV) (h : LaD n l w) (hT : Tz w) (nr nb nk ng : Nat) (hk : nk = l.kern.length) (hb : nb = l.bias.length) (C H W O KH KW ST PD R Q : Nat) (hd : C ≤ 256 ∧ H ≤ 256 ∧ W ≤ 256 ∧ KH ≤ 256 ∧ KW ≤ 256) (hd2 : O ≤ 256 ∧ ST ≤ 256 ∧ 1 ≤ ST ∧ PD < KH ∧ PD < KW) (hh : KH ≤ H + 2 * PD) (hw : KW ≤ W + 2 * PD) (hR : R = (H + 2 * PD - KH) / ST + 1) (hQ : Q = (W + 2 * PD - KW) / ST + 1) (hkl : O * (C * KH * KW) = nk) (hbl : nb = O) (he : C * KH * KW ≤ 1000) (hu : O * R * Q ≤ 100000) : Calls Tryz.prog 29 #[dA l nr nb C H W O KH KW ST PD nk ng] w (zgh (zjx C H W O KH KW ST PD R Q (l.kern.map Prod.snd) (l.bias.map Prod.snd)) w) := by
 have sl1 := h.kern.sl
 have sl2 := h.bias.sl
 rw [← hk] at sl1
 rw [← hb] at sl2
 have hszr := zak
 have hadd := za3
 have Hk := zmZ hk
 have Hb := zmZ hb
 have Hkl := zmZ hkl
 have Hbl := zmZ hbl
 have He := zmZ he
 have Hu := zmZ hu
 have HR := zmZ hR
 have HQ := zmZ hQ
 obtain ⟨x1, hx1⟩ : ∃ a, a = 2 * PD := ⟨_, rfl⟩
 have xe1 : IntKind.i64.wrap (2 * (PD : Int)) = (x1 : Int) := by rw [zad (by omega)]; omega
 obtain ⟨x2, hx2⟩ : ∃ a, a = H + x1 := ⟨_, rfl⟩
 obtain ⟨x3, hx3⟩ : ∃ a, a = x2 - KH := ⟨_, rfl⟩
 obtain ⟨x4, hx4⟩ : ∃ a, a = x3 / ST := ⟨_, rfl⟩
 have xb : x4 ≤ x3 := by rw [hx4]; exact Nat.div_le_self _ _
 have xe2 := wadd hx2 (by omega)
 have xe3 : IntKind.i64.wrap ((x2 : Int) - (KH : Int)) = (x3 : Int) := by rw [zad (by omega)]; omega
 have xe4 : (x3 : Int).tdiv (ST : Int) = (x4 : Int) := by rw [Int.tdiv_eq_ediv_of_nonneg (by omega), hx4]; rfl
 have xe5 : IntKind.i64.wrap (x4 : Int) = (x4 : Int) := zad (by omega)
 have hR4 : R = x4 + 1 := by rw [hR, hx4, hx3, hx2, hx1]
 have xe6 : IntKind.i64.wrap ((x4 : Int) + 1) = (R : Int) := by rw [zad (by omega)]; omega
 obtain ⟨y2, hy2⟩ : ∃ a, a = W + x1 := ⟨_, rfl⟩
 obtain ⟨y3, hy3⟩ : ∃ a, a = y2 - KW := ⟨_, rfl⟩
 obtain ⟨y4, hy4⟩ : ∃ a, a = y3 / ST := ⟨_, rfl⟩
 have yb : y4 ≤ y3 := by rw [hy4]; exact Nat.div_le_self _ _
 have ye2 := wadd hy2 (by omega)
 have ye3 : IntKind.i64.wrap ((y2 : Int) - (KW : Int)) = (y3 : Int) := by rw [zad (by omega)]; omega
 have ye4 : (y3 : Int).tdiv (ST : Int) = (y4 : Int) := by rw [Int.tdiv_eq_ediv_of_nonneg (by omega), hy4]; rfl
 have ye5 : IntKind.i64.wrap (y4 : Int) = (y4 : Int) := zad (by omega)
 have hQ4 : Q = y4 + 1 := by rw [hQ, hy4, hy3, hy2, hx1]
 have ye6 : IntKind.i64.wrap ((y4 : Int) + 1) = (Q : Int) := by rw [zad (by omega)]; omega
 have hst0 : ¬ ST = 0 := by omega
 have hst1 : ¬ (ST : Int) = 0 := by omega
 have hst2 : ((ST : Int) == 0) = false := by simp; omega
 have hRb : R ≤ 1000 := by omega
 have hQb : Q ≤ 1000 := by omega
 have hRs : ∀ r, r < R → r * ST ≤ 1000 := fun r hr => by
  have h9 := Nat.div_mul_le_self x3 ST
  rw [← hx4] at h9
  have h8 : r * ST ≤ x4 * ST := Nat.mul_le_mul_right _ (by omega)
  omega
 have hQs : ∀ r, r < Q → r * ST ≤ 1000 := fun r hr => by
  have h9 := Nat.div_mul_le_self y3 ST
  rw [← hy4] at h9
  have h8 : r * ST ≤ y4 * ST := Nat.mul_le_mul_right _ (by omega)
  omega
 have HRs := zmZ hRs
 have HQs := zmZ hQs
 clear hR hQ hkl hbl he hu hx1 hx2 hx3 hx4 hy2 hy3 hy4 xb yb hR4 hQ4 hRs hQs hh hw
 have HE := zmZ (zmV l nr nb C H W O KH KW ST PD nk ng (((LaD.old l w h)).and (hT.old)))
 have c := Env.c2 HE.out
 have dd := Env.d2 HE.out
 clear h hT hk hb
 unfold dA
 go_enter Tryz.func29, Tryz.ntmps29
 go_upto_region 3 with fail
 clear xe1 xe2 xe3 xe4 xe5 xe6 ye2 ye3 ye4 ye5 ye6 hst0 hst1 hst2
 go_upto_region 5 with fail
 have HE5 := zmZ (HE.out.new_ (g := w.heap.size + 1 + 1) (by simp) 36 #[.int .u8 1, .slice none 0 0, .slice none 0 0, .int .i64 0, .int .i64 0, .int .i64 0, .int .i64 0, .int .i64 0, .int .i64 0, .int .i64 0, .int .i64 0, .slice none 0 0, .slice none 0 0])
 have HG := zmZ (((((GL.ofEnv (bs1 := [⟨w.heap.size + 1 + 1, 36, #[.int .u8 1, .slice none 0 0, .slice none 0 0, .int .i64 0, .int .i64 0, .int .i64 0, .int .i64 0, .int .i64 0, .int .i64 0, .int .i64 0, .int .i64 0, .slice none 0 0, .slice none 0 0]⟩, ⟨w.heap.size + 1, 36, #[.int .u8 0, .slice none 0 0, .slice none 0 0, .int .i64 0, .int .i64 0, .int .i64 0, .int .i64 0, .int .i64 0, .int .i64 0, .int .i64 0, .int .i64 0, .slice none 0 0, .slice none 0 0]⟩]) (bs2 := [⟨w.heap.size, 36, #[.int .u8 l.kind, .slice l.Ar nr l.cr, .slice l.Ab nb l.cb, .int .i64 (C : Int), .int .i64 (H : Int), .int .i64 (W : Int), .int .i64 (O : Int), .int .i64 (KH : Int), .int .i64 (KW : Int), .int .i64 (ST : Int), .int .i64 (PD : Int), .slice l.Ak nk l.ck, .slice l.Ag ng l.cg]⟩]) HE5.out).new_ 41 4).new_ 43 1)).imp (φ := fun V => oD w l nr nb C H W O KH KW ST PD nk ng V ∧ LaD n l V ∧ Tz V) (ψ := fun V => (∀ zv ∈ ([] : List VeV), veF teN zv V) ∧ (∀ zp ∈ ([] : List (RV × Rat)), roN zp V)) (fun _ h => h) (fun _ _ => ⟨by simp, by simp⟩))
 clear HE HE5 c dd
 go_loopw [38] (fun iv wr => ∃ (x : Nat) (Ar Ab : Option Addr) (cr cb : Nat) (rs : List VeV) (bs : List (RV × Rat)), iv = .int .i64 (x : Int) ∧ x ≤ O ∧ Hid (SmI (rowF KH KW H W ST PD R Q (C * KH * KW) (l.kern.map Prod.snd)) (zd3 R Q (l.bias.map Prod.snd)) (x * R * Q) (x * R * Q) rs bs) ∧ Hid (GL w [⟨43, 1, .slice Ar (List.length rs) cr, List.map vecells rs⟩, ⟨41, 4, .slice Ab (List.length bs) cb, List.map rtcells bs⟩, bow (w.heap.size + 1 + 1) 36 13 #[.int .u8 1, .slice Ar (List.length rs) cr, .slice Ab (List.length bs) cb, .int .i64 0, .int .i64 0, .int .i64 0, .int .i64 0, .int .i64 0, .int .i64 0, .int .i64 0, .int .i64 0, .slice none 0 0, .slice none 0 0], bow (w.heap.size + 1) 36 13 #[.int .u8 0, .slice none 0 0, .slice none 0 0, .int .i64 0, .int .i64 0, .int .i64 0, .int .i64 0, .int .i64 0, .int .i64 0, .int .i64 0, .int .i64 0, .slice none 0 0, .slice none 0 0]] (fun V => oD w l nr nb C H W O KH KW ST PD nk ng V ∧ LaD n l V ∧ Tz V) (fun V => (∀ zv ∈ rs, veF teN zv V) ∧ (∀ zp ∈ bs, roN zp V)) wr)) (fun iv _ => O - (intOf iv).toNat)
 case atStart => exact ⟨0, none, none, 0, 0, [], [], rfl, Nat.zero_le _, zmZ ⟨by simp, by simp⟩, HG⟩
 case round =>
  clear HG
  obtain ⟨o, Ar, Ab, cr, cb, rs, bs, rfl, ho, HI, HG⟩ := hrel
  by_cases hlo : o < O
  ·go_upto_region 8 with fail
   go_loopw [42] (fun iv wr => ∃ (x : Nat) (Ar Ab : Option Addr) (cr cb : Nat) (rs : List VeV) (bs : List (RV × Rat)), iv = .int .i64 (x : Int) ∧ x ≤ R ∧ Hid (SmI (rowF KH KW H W ST PD R Q (C * KH * KW) (l.kern.map Prod.snd)) (zd3 R Q (l.bias.map Prod.snd)) ((o * R + x) * Q) ((o * R + x) * Q) rs bs) ∧ Hid (GL w [⟨43, 1, .slice Ar (List.length rs) cr, List.map vecells rs⟩, ⟨41, 4, .slice Ab (List.length bs) cb, List.map rtcells bs⟩, bow (w.heap.size + 1 + 1) 36 13 #[.int .u8 1, .slice Ar (List.length rs) cr, .slice Ab (List.length bs) cb, .int .i64 0, .int .i64 0, .int .i64 0, .int .i64 0, .int .i64 0, .int .i64 0, .int .i64 0, .int .i64 0, .slice none 0 0, .slice none 0 0], bow (w.heap.size + 1) 36 13 #[.int .u8 0, .slice none 0 0, .slice none 0 0, .int .i64 0, .int .i64 0, .int .i64 0, .int .i64 0, .int .i64 0, .int .i64 0, .int .i64 0, .int .i64 0, .slice none 0 0, .slice none 0 0]] (fun V => oD w l nr nb C H W O KH KW ST PD nk ng V ∧ LaD n l V ∧ Tz V) (fun V => (∀ zv ∈ rs, veF teN zv V) ∧ (∀ zp ∈ bs, roN zp V)) wr)) (fun iv _ => R - (intOf iv).toNat)
   case atStart => exact ⟨0, Ar, Ab, cr, cb, rs, bs, rfl, Nat.zero_le _, zmZ (by rw [Nat.add_zero]; exact HI.out), HG⟩
   case round =>
    clear HG HI
    obtain ⟨r, Ar, Ab, cr, cb, rs, bs, rfl, hr, HI, HG⟩ := hrel
    by_cases hlr : r < R
    ·go_upto_region 11 with fail
     go_loopw [46] (fun iv wr => ∃ (x : Nat) (Ar Ab : Option Addr) (cr cb : Nat) (rs : List VeV) (bs : List (RV × Rat)), iv = .int .i64 (x : Int) ∧ x ≤ Q ∧ Hid (SmI (rowF KH KW H W ST PD R Q (C * KH * KW) (l.kern.map Prod.snd)) (zd3 R Q (l.bias.map Prod.snd)) ((o * R + r) * Q + x) ((o * R + r) * Q + x) rs bs) ∧ Hid (GL w [⟨43, 1, .slice Ar (List.length rs) cr, List.map vecells rs⟩, ⟨41, 4, .slice Ab (List.length bs) cb, List.map rtcells bs⟩, bow (w.heap.size + 1 + 1) 36 13 #[.int .u8 1, .slice Ar (List.length rs) cr, .slice Ab (List.length bs) cb, .int .i64 0, .int .i64 0, .int .i64 0, .int .i64 0, .int .i64 0, .int .i64 0, .int .i64 0, .int .i64 0, .slice none 0 0, .slice none 0 0], bow (w.heap.size + 1) 36 13 #[.int .u8 0, .slice none 0 0, .slice none 0 0, .int .i64 0, .int .i64 0, .int .i64 0, .int .i64 0, .int .i64 0, .int .i64 0, .int .i64 0, .int .i64 0, .slice none 0 0, .slice none 0 0]] (fun V => oD w l nr nb C H W O KH KW ST PD nk ng V ∧ LaD n l V ∧ Tz V) (fun V => (∀ zv ∈ rs, veF teN zv V) ∧ (∀ zp ∈ bs, roN zp V)) wr)) (fun iv _ => Q - (intOf iv).toNat)
     case atStart => exact ⟨0, Ar, Ab, cr, cb, rs, bs, rfl, Nat.zero_le _, zmZ (by rw [Nat.add_zero]; exact HI.out), HG⟩
     case round =>
      clear HG HI
      obtain ⟨q, Ar, Ab, cr, cb, rs, bs, rfl, hq, HI, HG⟩ := hrel
      by_cases hlq : q < Q
      ·obtain ⟨t1, ht1⟩ : ∃ a, a = r * ST := ⟨_, rfl⟩
       obtain ⟨t2, ht2⟩ : ∃ a, a = q * ST := ⟨_, rfl⟩
       have hb1 : t1 ≤ 1000 := by rw [ht1]; exact HRs.out r hlr
       have hb2 : t2 ≤ 1000 := by rw [ht2]; exact HQs.out q hlq
       have e1 := wmul ht1 (by omega)
       have e2 := wmul ht2 (by omega)
       obtain ⟨row, hrow⟩ : ∃ a : Int, a = (t1 : Int) - (PD : Int) := ⟨_, rfl⟩
       obtain ⟨col, hcol⟩ : ∃ a : Int, a = (t2 : Int) - (PD : Int) := ⟨_, rfl⟩
       have e3 : IntKind.i64.wrap ((t1 : Int) - (PD : Int)) = row := by rw [hrow]; exact zaH (by omega)
       have e4 : IntKind.i64.wrap ((t2 : Int) - (PD : Int)) = col := by rw [hcol]; exact zaH (by omega)
       have hk9 : (o * R + r) * Q + q < O * R * Q := by
        have a1 : (o + 1) * R ≤ O * R := Nat.mul_le_mul_right _ hlo
        rw [Nat.add_mul, Nat.one_mul] at a1
        have a2 : (o * R + r + 1) * Q ≤ O * R * Q := Nat.mul_le_mul_right _ (by omega)
        rw [Nat.add_mul, Nat.one_mul] at a2
        omega
       have hk8 : (o * R + r) * Q + q ≤ 100000 := by have := Hu.out; omega
       have Hlr := zmZ HI.out.lr
       have HF1 := zmZ (show (zcP (plK KH KW (H : Int) (W : Int) row col) (kq (l.kern.map Prod.snd) (C * KH * KW) o) (C * KH * KW)).filter nzP = (rowF KH KW H W ST PD R Q (C * KH * KW) (l.kern.map Prod.snd)) ((o * R + r) * Q + q) from by
        obtain ⟨n1, n2, n3⟩ := nest (p := o) hlr hlq
        unfold rowF
        rw [n1, n2, n3, hrow, hcol, ht1, ht2])
       have hob : o < l.bias.length := by rw [← Hb.out, Hbl.out]; exact hlo
       have hon : o < nb := by rw [Hbl.out]; exact hlo
       have HB1 := zmZ (show (l.bias[o]'hob).2 = (zd3 R Q (l.bias.map Prod.snd)) ((o * R + r) * Q + q) from by
        obtain ⟨-, -, n3⟩ := nest (p := o) hlr hlq
        unfold zd3
        rw [n3, List.getElem?_map, List.getElem?_eq_getElem hob]
        rfl)
       have Ho2 := zmZ (show (o + 1) * (C * KH * KW) ≤ nk by rw [← Hkl.out]; exact Nat.mul_le_mul_right _ hlo)
       have hrow2 : -1000 ≤ row ∧ row ≤ 1000 := by omega
       have hcol2 : -1000 ≤ col ∧ col ≤ 1000 := by omega
       have ho256 : o ≤ 256 := by omega
       have Hrc := zmZ (And.intro hrow2 (And.intro hcol2 (And.intro ho256 hk8)))
       clear hrow hcol ht1 ht2 hb1 hb2 hk9 hk8 hrow2 hcol2 ho256
       go_upto_region 13 with fail
       refine wp_region_noPanic ?_
       refine zaX 22 (fun V => CB (w.heap.size + 1 + 1) #[.int .u8 1, .slice Ar (List.length rs) cr, .slice Ab (List.length bs) cb, .int .i64 0, .int .i64 0, .int .i64 0, .int .i64 0, .int .i64 0, .int .i64 0, .int .i64 0, .int .i64 0, .slice none 0 0, .slice none 0 0] V ∧ CB (w.heap.size) #[.int .u8 l.kind, .slice l.Ar nr l.cr, .slice l.Ab nb l.cb, .int .i64 (C : Int), .int .i64 (H : Int), .int .i64 (W : Int), .int .i64 (O : Int), .int .i64 (KH : Int), .int .i64 (KW : Int), .int .i64 (ST : Int), .int .i64 (PD : Int), .slice l.Ak nk l.ck, .slice l.Ag ng l.cg] V) (by kernel_rfl) (by with_reducible first | exact ⟨HG.out.cb (k := 2) rfl, Blk.cb (HG.out.o.1 _ (List.mem_singleton_self _))⟩ | exact ⟨HG.out.drew.cb (k := 2) rfl, Blk.cb (HG.out.drew.o.1 _ (List.mem_singleton_self _))⟩) (fun hHeld => ?_)
       replace HG := zmZ HG.out.drew
       refine gTa 0 49 hHeld ?_
       refine gTa 1 50 hHeld ?_
       refine gTa 2 51 hHeld ?_
       refine gTa 3 52 hHeld ?_
       refine gTa 4 53 hHeld ?_
       refine gTa 5 54 hHeld ?_
       refine gTa 6 55 hHeld ?_
       refine gTa 7 56 hHeld ?_
       refine gTa 8 57 hHeld ?_
       refine gTa 9 58 hHeld ?_
       refine gTa 10 59 hHeld ?_
       refine gTa 11 60 hHeld ?_
       refine gTa 12 61 hHeld ?_
       refine gTa 13 62 hHeld ?_
       refine gTa 14 63 hHeld ?_
       refine gTa 15 64 hHeld ?_
       refine gTa 16 65 hHeld ?_
       refine gTa 17 66 hHeld ?_
       refine gC 18 rfl (by kernel_rfl) (by rfl) (fun K hK => ?_)
       clear hHeld
       simp only [q1, q2, q3]
       go_simp
       refine (ziJ _ n hn h1n l HG.out.o.2.1 HG.out.o.2.2 nr nb nk ng Hk.out C H W O KH KW ST PD hd o Hrc.out.2.2.1 Ho2.out He.out row col Hrc.out.1 Hrc.out.2.1).mono ?_
       rintro e wq ⟨A9, c9, ts9, rfl, -, hm9, hk9, hb9⟩
       have Hm9 := zmZ (hm9.trans HF1.out)
       replace HG := zmZ (HG.out.call hk9 hb9)
       clear hm9 hk9 hb9
       (try (go_wp2_with fail))
       refine hK.out _ _ (by with_reducible first | exact ⟨HG.out.cb (k := 2) rfl, Blk.cb (HG.out.o.1 _ (List.mem_singleton_self _))⟩ | exact ⟨HG.out.drew.cb (k := 2) rfl, Blk.cb (HG.out.drew.o.1 _ (List.mem_singleton_self _))⟩) (fun hHeld => ?_)
       clear hK K
       try simp only [p1, p2, p3, p4]
       refine gC 19 rfl (by kernel_rfl) (by rfl) (fun K hK => ?_)
       clear hHeld
       simp only [q1, q2, q3]
       go_simp
       (try (go_wp2_with fail))
       obtain ⟨W4, gb, hW4, hgb, HG⟩ := HG.out.al 43 #[.slice A9 (List.length ts9) c9]
       rw [hW4, hgb]
       clear hW4 hgb
       (try (go_wp2_with fail))
       refine hK.out _ _ (by with_reducible first | exact ⟨HG.out.cb (k := 2) rfl, Blk.cb (HG.out.o.1 _ (List.mem_singleton_self _))⟩ | exact ⟨HG.out.drew.cb (k := 2) rfl, Blk.cb (HG.out.drew.o.1 _ (List.mem_singleton_self _))⟩) (fun hHeld => ?_)
       clear hK K
       try simp only [p1, p2, p3, p4]
       obtain ⟨A2, c2, W5, hrun, HG2⟩ := GL.appG (k := 0) (cells := vecells) zce zd6 rfl (by decide) (by decide) HG.out rfl (⟨A9, c9, ts9⟩ : VeV) rfl (zdl _) HG.out.n.1 (by have := Hlr.out; have := Hrc.out; omega)
       refine gC 20 rfl (by kernel_rfl) (by rfl) (fun K hK => ?_)
       clear hHeld
       simp only [q1, q2, q3]
       refine zeC (.tmp 50) (.tmp 68) 32 _ _ _ rfl rfl rfl hrun ?_
       clear hrun
       replace HG := zmZ HG2
       clear HG2
       refine hK.out _ _ (by with_reducible first | exact ⟨HG.out.cb (k := 2) rfl, Blk.cb (HG.out.o.1 _ (List.mem_singleton_self _))⟩ | exact ⟨HG.out.drew.cb (k := 2) rfl, Blk.cb (HG.out.drew.o.1 _ (List.mem_singleton_self _))⟩) (fun hHeld => ?_)
       clear hK K
       try simp only [p1, p2, p3, p4]
       refine gTa 21 70 hHeld ?_
       have cc := HG.out.cb (k := 2) rfl
       refine gL rfl (by kernel_rfl) (by kernel_rfl) (by rfl) (fun K hK => ?_)
       clear hHeld
       simp only [q1, q2, q3]
       go_simp
       (try (go_wp2_with fail))
       refine hK.out _ _ ?_
       clear hK K
       try simp only [p1, p2, p3, p4]
       refine NoPanic.normal ?_
       clear cc
       have HG3 := HG.out.putc (k := 2) (i := 1) rfl (by decide) (.slice A2 (List.length (rs ++ [⟨A9, c9, ts9⟩])) c2)
       replace HG := zmZ (show GL w [⟨43, 1, .slice A2 (List.length (rs ++ [⟨A9, c9, ts9⟩])) c2, List.map vecells (rs ++ [⟨A9, c9, ts9⟩])⟩, ⟨41, 4, .slice Ab (List.length bs) cb, List.map rtcells bs⟩, bow (w.heap.size + 1 + 1) 36 13 #[.int .u8 1, .slice A2 (List.length (rs ++ [⟨A9, c9, ts9⟩])) c2, .slice Ab (List.length bs) cb, .int .i64 0, .int .i64 0, .int .i64 0, .int .i64 0, .int .i64 0, .int .i64 0, .int .i64 0, .int .i64 0, .slice none 0 0, .slice none 0 0], bow (w.heap.size + 1) 36 13 #[.int .u8 0, .slice none 0 0, .slice none 0 0, .int .i64 0, .int .i64 0, .int .i64 0, .int .i64 0, .int .i64 0, .int .i64 0, .int .i64 0, .int .i64 0, .slice none 0 0, .slice none 0 0]] (fun V => oD w l nr nb C H W O KH KW ST PD nk ng V ∧ LaD n l V ∧ Tz V) (fun V => (∀ zv ∈ (rs ++ [⟨A9, c9, ts9⟩]), veF teN zv V) ∧ (∀ zp ∈ bs, roN zp V)) _ from HG3.imp (fun _ h => h) (fun V h => ⟨fun v hv => (List.mem_append.1 hv).elim (fun hv => h.2.2.1 v hv) (fun hv => by rw [List.mem_singleton.1 hv]; exact h.2.1), h.2.2.2⟩))
       clear HG3
       have HI1 := zmZ (HI.out.row (v := ⟨A9, c9, ts9⟩) Hm9.out)
       clear HI Hm9 HF1
       obtain ⟨rs1, hrs1⟩ : ∃ x, x = (rs ++ [⟨A9, c9, ts9⟩]) := ⟨_, rfl⟩
       have hlen1 : List.length rs + 1 = List.length rs1 := by rw [hrs1]; simp
       rw [← hrs1] at HG HI1
       rw [hlen1]
       have Hlr1 := zmZ HI1.out.lr
       clear hrs1 hlen1
       have HBE := zmZ (show ∀ V, LaD n l V → RC l.Ab o (l.bias[o]'hob) V from fun V h => h.bias.rc o hob)
       have HBD := zmZ (show ∀ V, LaD n l V → RatD (l.bias[o]'hob).1 (l.bias[o]'hob).2 n V from fun V h => h.bias.ok _ (List.getElem_mem hob))
       obtain ⟨p, hp⟩ : ∃ p, p = l.bias[o] := ⟨_, rfl⟩
       rw [← hp] at HBE HBD HB1
       clear hp
       go_upto_region 14 with fail
       refine wp_region_noPanic ?_
       refine zaX 11 (fun V => CB (w.heap.size + 1 + 1) #[.int .u8 1, .slice A2 (List.length rs1) c2, .slice Ab (List.length bs) cb, .int .i64 0, .int .i64 0, .int .i64 0, .int .i64 0, .int .i64 0, .int .i64 0, .int .i64 0, .int .i64 0, .slice none 0 0, .slice none 0 0] V ∧ CB (w.heap.size) #[.int .u8 l.kind, .slice l.Ar nr l.cr, .slice l.Ab nb l.cb, .int .i64 (C : Int), .int .i64 (H : Int), .int .i64 (W : Int), .int .i64 (O : Int), .int .i64 (KH : Int), .int .i64 (KW : Int), .int .i64 (ST : Int), .int .i64 (PD : Int), .slice l.Ak nk l.ck, .slice l.Ag ng l.cg] V ∧ RC l.Ab o p V) (by kernel_rfl) (by with_reducible first | exact ⟨HG.out.cb (k := 2) rfl, Blk.cb (HG.out.o.1 _ (List.mem_singleton_self _)), HBE.out _ HG.out.o.2.1⟩ | exact ⟨HG.out.drew.cb (k := 2) rfl, Blk.cb (HG.out.drew.o.1 _ (List.mem_singleton_self _)), HBE.out _ HG.out.drew.o.2.1⟩) (fun hHeld => ?_)
       replace HG := zmZ HG.out.drew
       refine gTa 0 71 hHeld ?_
       refine gTa 1 72 hHeld ?_
       refine gTa 2 73 hHeld ?_
       refine gTa 3 74 hHeld ?_
       refine gTa 4 75 hHeld ?_
       refine gTa 5 76 hHeld ?_
       refine gTa 6 77 hHeld ?_
       refine gC 7 rfl (by kernel_rfl) (by rfl) (fun K hK => ?_)
       clear hHeld
       simp only [q1, q2, q3]
       go_simp
       refine (zaG _ p.1 p.2 n (by omega) h1n (HBD.out _ HG.out.o.2.1) HG.out.o.2.2).mono ?_
       rintro e wq ⟨k9, rfl, hk9, hb9⟩
       replace HG := zmZ (HG.out.call hk9 hb9)
       clear hk9 hb9
       (try (go_wp2_with fail))
       refine hK.out _ _ (by with_reducible first | exact ⟨HG.out.cb (k := 2) rfl, Blk.cb (HG.out.o.1 _ (List.mem_singleton_self _)), HBE.out _ HG.out.o.2.1⟩ | exact ⟨HG.out.drew.cb (k := 2) rfl, Blk.cb (HG.out.drew.o.1 _ (List.mem_singleton_self _)), HBE.out _ HG.out.drew.o.2.1⟩) (fun hHeld => ?_)
       clear hK K
       try simp only [p1, p2, p3, p4]
       refine gC 8 rfl (by kernel_rfl) (by rfl) (fun K hK => ?_)
       clear hHeld
       simp only [q1, q2, q3]
       go_simp
       (try (go_wp2_with fail))
       obtain ⟨W4, gb, hW4, hgb, HG⟩ := HG.out.al 41 #[.bool k9.num.neg, .slice k9.num.A k9.num.k k9.num.c, .bool k9.den.neg, .slice k9.den.A k9.den.k k9.den.c]
       rw [hW4, hgb]
       clear hW4 hgb
       (try (go_wp2_with fail))
       refine hK.out _ _ (by with_reducible first | exact ⟨HG.out.cb (k := 2) rfl, Blk.cb (HG.out.o.1 _ (List.mem_singleton_self _)), HBE.out _ HG.out.o.2.1⟩ | exact ⟨HG.out.drew.cb (k := 2) rfl, Blk.cb (HG.out.drew.o.1 _ (List.mem_singleton_self _)), HBE.out _ HG.out.drew.o.2.1⟩) (fun hHeld => ?_)
       clear hK K
       try simp only [p1, p2, p3, p4]
       obtain ⟨A3, c3, W5, hrun, HG2⟩ := GL.appG (k := 1) (cells := rtcells) zb0 zbO rfl (by decide) (by decide) HG.out rfl ((k9, p.2) : RV × Rat) rfl (zbQ _) HG.out.n.1 (by have := Hlr1.out; have := Hrc.out; omega)
       refine gC 9 rfl (by kernel_rfl) (by rfl) (fun K hK => ?_)
       clear hHeld
       simp only [q1, q2, q3]
       refine zeC (.tmp 72) (.tmp 79) 33 _ _ _ rfl rfl rfl hrun ?_
       clear hrun
       replace HG := zmZ HG2
       clear HG2
       refine hK.out _ _ (by with_reducible first | exact ⟨HG.out.cb (k := 2) rfl, Blk.cb (HG.out.o.1 _ (List.mem_singleton_self _)), HBE.out _ HG.out.o.2.1⟩ | exact ⟨HG.out.drew.cb (k := 2) rfl, Blk.cb (HG.out.drew.o.1 _ (List.mem_singleton_self _)), HBE.out _ HG.out.drew.o.2.1⟩) (fun hHeld => ?_)
       clear hK K
       try simp only [p1, p2, p3, p4]
       refine gTa 10 81 hHeld ?_
       have cc := HG.out.cb (k := 2) rfl
       refine gL rfl (by kernel_rfl) (by kernel_rfl) (by rfl) (fun K hK => ?_)
       clear hHeld
       simp only [q1, q2, q3]
       go_simp
       (try (go_wp2_with fail))
       refine hK.out _ _ ?_
       clear hK K
       try simp only [p1, p2, p3, p4]
       refine NoPanic.normal ?_
       clear cc
       have HG3 := HG.out.putc (k := 2) (i := 2) rfl (by decide) (.slice A3 (List.length (bs ++ [(k9, p.2)])) c3)
       replace HG := zmZ (show GL w [⟨43, 1, .slice A2 (List.length rs1) c2, List.map vecells rs1⟩, ⟨41, 4, .slice A3 (List.length (bs ++ [(k9, p.2)])) c3, List.map rtcells (bs ++ [(k9, p.2)])⟩, bow (w.heap.size + 1 + 1) 36 13 #[.int .u8 1, .slice A2 (List.length rs1) c2, .slice A3 (List.length (bs ++ [(k9, p.2)])) c3, .int .i64 0, .int .i64 0, .int .i64 0, .int .i64 0, .int .i64 0, .int .i64 0, .int .i64 0, .int .i64 0, .slice none 0 0, .slice none 0 0], bow (w.heap.size + 1) 36 13 #[.int .u8 0, .slice none 0 0, .slice none 0 0, .int .i64 0, .int .i64 0, .int .i64 0, .int .i64 0, .int .i64 0, .int .i64 0, .int .i64 0, .int .i64 0, .slice none 0 0, .slice none 0 0]] (fun V => oD w l nr nb C H W O KH KW ST PD nk ng V ∧ LaD n l V ∧ Tz V) (fun V => (∀ zv ∈ rs1, veF teN zv V) ∧ (∀ zp ∈ (bs ++ [(k9, p.2)]), roN zp V)) _ from HG3.imp (fun _ h => h) (fun V h => ⟨h.2.2.1, fun v hv => (List.mem_append.1 hv).elim (fun hv => h.2.2.2 v hv) (fun hv => by rw [List.mem_singleton.1 hv]; exact h.2.1)⟩))
       clear HG3
       have HI2 := zmZ (HI1.out.num (p := (k9, p.2)) HB1.out)
       obtain ⟨bs1, hbs1⟩ : ∃ x, x = (bs ++ [(k9, p.2)]) := ⟨_, rfl⟩
       have hlen2 : List.length bs + 1 = List.length bs1 := by rw [hbs1]; simp
       rw [← hbs1] at HG HI2
       rw [hlen2]
       clear hbs1 hlen2
       go_wp2_with fail
       go_roundw
       case rel => exact ⟨q + 1, A2, A3, c2, c3, rs1, bs1, by go_num, by omega, HI2, HG⟩
       case measure => (simp [intOf] <;> omega)
      ·obtain rfl : q = Q := by omega
       have HI2 := zmZ (show SmI (rowF KH KW H W ST PD R q (C * KH * KW) (l.kern.map Prod.snd)) (zd3 R q (l.bias.map Prod.snd)) ((o * R + (r + 1)) * q) ((o * R + (r + 1)) * q) rs bs by have h9 := HI.out; rwa [← Nat.add_assoc, Nat.add_mul (o * R + r) 1, Nat.one_mul])
       go_wp2_with fail
       go_roundw
       case rel => exact ⟨r + 1, Ar, Ab, cr, cb, rs, bs, by go_num, by omega, HI2, HG⟩
       case measure => (simp [intOf] <;> omega)
    ·obtain rfl : r = R := by omega
     have HI2 := zmZ (show SmI (rowF KH KW H W ST PD r Q (C * KH * KW) (l.kern.map Prod.snd)) (zd3 r Q (l.bias.map Prod.snd)) ((o + 1) * r * Q) ((o + 1) * r * Q) rs bs by have h9 := HI.out; rwa [Nat.add_mul o 1, Nat.one_mul])
     go_wp2_with fail
     go_roundw
     case rel => exact ⟨o + 1, Ar, Ab, cr, cb, rs, bs, by go_num, by omega, HI2, HG⟩
     case measure => (simp [intOf] <;> omega)
  ·obtain rfl : o = O := by omega
   have c5 := HG.out.cb (k := 2) rfl
   have c2 := HG.out.cb (k := 3) rfl
   go_wp2_with fail
   have hG := HG.out.put13 (k := 3) rfl (.int .u8 1) (.slice Ar (List.length rs) cr) (.slice Ab (List.length bs) cb) (.int .i64 0) (.int .i64 0) (.int .i64 0) (.int .i64 0) (.int .i64 0) (.int .i64 0) (.int .i64 0) (.int .i64 0) (.slice none 0 0) (.slice none 0 0)
   replace c2 := hG.cb (k := 3) rfl
   exact bodyPost_ret (v := .agg #[.int .u8 1, .slice Ar (List.length rs) cr, .slice Ab (List.length bs) cb, .int .i64 0, .int .i64 0, .int .i64 0, .int .i64 0, .int .i64 0, .int .i64 0, .int .i64 0, .int .i64 0, .slice none 0 0, .slice none 0 0]) (by simp [results, Tryz.results29, go_sem, c2]) rfl ⟨⟨1, Ar, cr, rs, Ab, cb, bs, 0, 0, 0, 0, 0, 0, 0, 0, none, 0, [], none, 0, []⟩, rfl, by unfold LaG.q zjx; dsimp only; rw [HI.out.r, HI.out.b]; rfl, (((hG.els9 (k := 0) rfl).and (hG.els9 (k := 1) rfl)).and (hG.rsn.mono fun _ h => h.1)).imp fun V h => ⟨fun _ hg => (List.not_mem_nil hg).elim, ⟨h.1.1, h.2.1⟩, ⟨h.1.2, h.2.2⟩, LsR.nil_ _, LsR.nil_ _⟩, hG.bel⟩
end Go.Proofs.YtikmgoefjbhcjaaGreatDoor
