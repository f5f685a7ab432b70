/-
 tripwireref01: cmp, sub, twice, over digits of 8 bits. tripwireref01: Cmp, Sub, Bits. tripwireref01: DivMod.
-/
import Derived.Test.YtikmgoefjbhcjaaGreatDoorRefE
import Derived.Test.YtikmgoefjbhcjaaGreatDoorLimE
import Derived.Test.YtikmgoefjbhcjaaGreatDoorVal
namespace Go.Proofs.YtikmgoefjbhcjaaGreatDoor
set_option maxHeartbeats 4000000
open Go.RowKit

set_option maxRecDepth 100000 in
theorem zo3 (w : World) (A B : Option Addr) (c d : Nat) (l m : List Nat) (hl : l.length ≤ 16777216) (_hm : m.length ≤ 16777216) (ha : Rd w .i64 A l) (hb : Rd w .i64 B m)
 (hx : ∀ x ∈ l, x < 256) (hy : ∀ x ∈ m, x < 256) (tl : Tidy l) (tm : Tidy m) :
 Calls Tryz.prog 224 #[.slice A l.length c, .slice B m.length d] w fun e w' => e = .returned (.int .i64 (cmpN (val 256 l) (val 256 m))) ∧ ∃ n, w' = w.drewN n := by
 have hsa := ha.sl; have hsb := hb.sl
 have h1 := zng
 by_cases hne : l.length = m.length
 ·have hq : ((l.length : Int) != (m.length : Int)) = false := by simp [hne]
  have Ha := zmZ ha; have Hb := zmZ hb; have Hx := zmZ hx; have Hy := zmZ hy
  have Hvl := zmZ (zaw 256 l)
  have Hvm := zmZ (zaw 256 m)
  rw [← hne] at Hvm
  have Hn := zmZ hne
  clear ha hb hx hy tl tm
  generalize hn : l.length = n at *
  generalize hn' : m.length = n' at *
  have Hnl := zmZ hn; have Hnm := zmZ hn'
  clear hn hn' hne
  go_enter Tryz.func224, Tryz.ntmps224
  go_wp2_with fail
  go_loopw [5] (fun i wr => ∃ k : Nat, k ≤ n ∧ i = .int .i64 ((k : Int) - 1) ∧ Hid (∀ j, k ≤ j → j < n → nth l j = nth m j) ∧ ∃ q, wr = w.drewN q) (fun i _ => (intOf i + 1).toNat)
  case atStart => exact ⟨n, Nat.le_refl _, rfl, (show ∀ j, n ≤ j → j < n → nth l j = nth m j from fun j h1 h2 => by omega), 0, rfl⟩
  case round =>
   obtain ⟨k, hk, rfl, hs, q, rfl⟩ := hrel
   rcases k with _ | k
   ·have Hr := zmZ (show cmpN (val 256 l) (val 256 m) = 0 by rw [← Hvl.out, ← Hvm.out, zb3 256 l m n (fun j hj => hs.out j (by omega) hj), zcA])
    go_wp2_with fail
    go_ret
    exact ⟨zbN Hr.out.symm, _, rfl⟩
   ·have hca := Ha.out.cell k (by rw [Hnl.out]; omega)
    have hcb := Hb.out.cell k (by rw [Hnm.out, ← Hn.out]; omega)
    have e1 : ((k + 1 : Nat) : Int) - 1 = (k : Int) := by omega
    have i2 : (k : Int) < n := by omega
    have i3 : (k : Int) < n' := by rw [← Hn.out]; omega
    rw [e1]
    rcases Nat.lt_trichotomy (nth l k) (nth m k) with hxy | hxy | hxy
    ·have Hr : Hid (cmpN (val 256 l) (val 256 m) = -1) := zmZ (by
      rw [← zco hxy, ← Hvl.out, ← Hvm.out]
      exact (zlH (by decide) Hx.out Hy.out n k (by omega) (fun j h1 h2 => hs.out j (by omega) h2) (by omega)).symm)
     have t1 : (nth l k : Int) < (nth m k : Int) := by omega
     clear hxy hs
     generalize nth l k = x at *
     generalize nth m k = y at *
     go_wp2_with fail
     go_quiet (fail)
     go_wp2_with fail
     go_ret
     exact ⟨zbN Hr.out.symm, zdB ⟨_, rfl⟩ ⟨_, rfl⟩⟩
    ·have hs' : Hid (∀ j, k ≤ j → j < n → nth l j = nth m j) := (show ∀ j, k ≤ j → j < n → nth l j = nth m j from fun j h1 h2 => by
      by_cases e : j = k
      ·rw [e]; exact hxy
      ·exact hs.out j (by omega) h2)
     rw [← hxy] at hcb
     clear hxy hs
     generalize nth l k = x at *
     go_wp2_with fail
     go_quiet (fail)
     go_wp2_with fail
     go_quiet (fail)
     go_wp2_with fail
     go_roundw
     case rel => exact ⟨k, by omega, rfl, hs', _, rfl⟩
     case measure => simp [intOf]
    ·have Hr : Hid (cmpN (val 256 l) (val 256 m) = 1) := zmZ (by
      rw [← zcu hxy, ← Hvl.out, ← Hvm.out]
      exact (zlH (by decide) Hx.out Hy.out n k (by omega) (fun j h1 h2 => hs.out j (by omega) h2) (by omega)).symm)
     have t1 : ¬ (nth l k : Int) < (nth m k : Int) := by omega
     have t2 : (nth m k : Int) < (nth l k : Int) := by omega
     clear hxy hs
     generalize nth l k = x at *
     generalize nth m k = y at *
     go_wp2_with fail
     go_quiet (fail)
     go_wp2_with fail
     go_quiet (fail)
     go_wp2_with fail
     go_ret
     exact ⟨zbN Hr.out.symm, zdB (zdB ⟨_, rfl⟩ ⟨_, rfl⟩) ⟨_, rfl⟩⟩
 ·have hq : ((l.length : Int) != (m.length : Int)) = true := by simp; omega
  rcases Nat.lt_or_gt_of_ne hne with h | h
  ·have Hr := zmZ (zco (zaA (b := 256) (by decide) hx tm h))
   have t1 : (l.length : Int) < (m.length : Int) := by omega
   clear ha hb hx hy tl tm hne h
   go_enter Tryz.func224, Tryz.ntmps224
   go_wp2_with fail
   go_ret
   exact ⟨zbN Hr.out.symm, 0, rfl⟩
  ·have Hr := zmZ (zcu (zaA (b := 256) (by decide) hy tl h))
   have t1 : ¬ (l.length : Int) < (m.length : Int) := by omega
   clear ha hb hx hy tl tm hne h
   go_enter Tryz.func224, Tryz.ntmps224
   go_wp2_with fail
   go_ret
   exact ⟨zbN Hr.out.symm, 0, rfl⟩

structure RsInv (w wr : World) (pv : Value) (xs ys o : List Nat) (i br : Nat) : Prop where
 own : Own wr w.heap.size 3 .i64 pv o
 below : Below w.heap.size w wr
 len : o.length = i
 lt : ∀ x ∈ o, x < 256
 br1 : br ≤ 1
 eq : valT 256 o i + valT 256 ys i = valT 256 xs i + 256 ^ i * br
def difD (a b br : Nat) : Nat := if a < b + br then a + 256 - b - br else a - b - br
def difB (a b br : Nat) : Nat := if a < b + br then 1 else 0
theorem RsInv.next {w wr w' : World} {pv v' : Value} {xs ys o : List Nat} {i br : Nat} (h : RsInv w wr pv xs ys o i br) (hx : ∀ x ∈ xs, x < 256) (hy : ∀ x ∈ ys, x < 256)
 (ho : Own w' w.heap.size 3 .i64 v' (o ++ [difD (nth xs i) (nth ys i) br])) (hb : Below w.heap.size w w') :
 RsInv w w' v' xs ys (o ++ [difD (nth xs i) (nth ys i) br]) (i + 1) (difB (nth xs i) (nth ys i) br) := by
 have b1 := zab (b := 256) (by decide) hx i
 have b2 := zab (b := 256) (by decide) hy i
 have hc := h.br1
 have hd : difD (nth xs i) (nth ys i) br < 256 := by unfold difD; split <;> omega
 have he : difD (nth xs i) (nth ys i) br + nth ys i + br = nth xs i + 256 * difB (nth xs i) (nth ys i) br := by unfold difD difB; split <;> omega
 refine ⟨ho, hb, by simp [h.len], ?_, by unfold difB; split <;> omega, ?_⟩
 ·intro x hx
  rcases List.mem_append.1 hx with hx | hx
  ·exact h.lt x hx
  ·simp at hx; omega
 ·have e := h.eq
  have s1 := zo1 256 o (difD (nth xs i) (nth ys i) br)
  rw [h.len] at s1
  rw [s1, valT, valT, Nat.pow_succ]
  generalize difD (nth xs i) (nth ys i) br = q at *
  generalize difB (nth xs i) (nth ys i) br = r at *
  generalize nth xs i = a at *
  generalize nth ys i = b at *
  generalize 256 ^ i = p at *
  clear h hx hy ho hb hd b1 b2 hc
  have e2 : p * q + p * b + p * br = p * a + p * 256 * r := by
   have := congrArg (p * ·) he
   simp only [Nat.mul_add] at this
   rw [Nat.mul_assoc]
   omega
  omega
theorem RsInv.done {w wr : World} {pv : Value} {xs ys o : List Nat} {br : Nat} (h : RsInv w wr pv xs ys o xs.length br) (hle : val 256 ys ≤ val 256 xs) (hl : ys.length ≤ xs.length) : val 256 o = val 256 xs - val 256 ys := by
 have e := h.eq
 have h1 := zaw 256 xs
 have h2 : valT 256 ys xs.length = val 256 ys := zaV 256 ys _ (Nat.le_trans (zar _) hl)
 have h3 : valT 256 o xs.length = val 256 o := by rw [← h.len]; exact zaw 256 o
 have h4 := zd0 h.lt
 rw [h.len] at h4
 rw [h1, h2, h3] at e
 have h5 := h.br1
 have h6 : br = 0 := by
  refine Decidable.byContradiction fun hne => ?_
  have : br = 1 := by omega
  rw [this, Nat.mul_one] at e
  omega
 rw [h6, Nat.mul_zero] at e
 omega

set_option maxRecDepth 100000 in
theorem zoA (w : World) (A B : Option Addr) (c d : Nat) (xs ys : List Nat) (hlx2 : xs.length ≤ 16777216) (hly : ys.length ≤ xs.length) (ha : Rd w .i64 A xs) (hb : Rd w .i64 B ys)
 (hx : ∀ x ∈ xs, x < 256) (hy : ∀ x ∈ ys, x < 256) (hle : val 256 ys ≤ val 256 xs) :
 Calls Tryz.prog 225 #[.slice A xs.length c, .slice B ys.length d] w (RetL .i64 (digs 256 (val 256 xs - val 256 ys)) w) := by
 have hsa := ha.sl; have hsb := hb.sl
 have h1 := zng
 have Ha := zmZ ha; have Hb := zmZ hb; have Hx := zmZ hx; have Hy := zmZ hy; have Hle := zmZ hle
 clear ha hb hx hy hle
 go_enter Tryz.func225, Tryz.ntmps225
 go_wp2_with fail
 go_loopw [5, 6, 7] (fun pv bv iv wr => ∃ (i br : Nat) (o : List Nat), i ≤ xs.length ∧ iv = .int .i64 i ∧ bv = .int .i64 br ∧ RsInv w wr pv xs ys o i br) (fun _ _ iv _ => xs.length - (intOf iv).toNat)
 case atStart => exact ⟨0, 0, [], Nat.zero_le _, rfl, rfl, Own.nil_ _ _ _ _, Below.refl _ _, rfl, by simp, by omega, rfl⟩
 case round =>
  obtain ⟨i, br, o, hi, rfl, rfl, hI⟩ := hrel
  by_cases hlt : i < xs.length
  ·have hc1 := hI.br1
   have hcx := (Ha.out.below hI.below (Nat.le_refl _)).cell i hlt
   have hbx := zab (b := 256) (by decide) Hx.out i
   have hby := zab (b := 256) (by decide) Hy.out i
   obtain ⟨v', w', hrun, ho', hb', -, -⟩ := hI.own.app (P := Tryz.prog) (t := 46) Tryz.underlying46 znk rfl (difD (nth xs i) (nth ys i) br) (by rw [hI.len]; omega) (by rw [hI.len]; simp only [maxLen]; omega) hI.below.size
   have Hrun := zmZ hrun
   have HN := zmZ (hI.next Hx.out Hy.out ho' (hI.below.trans hb'))
   clear hrun ho' hb'
   by_cases h1y : i < ys.length
   ·have hcy := (Hb.out.below hI.below (Nat.le_refl _)).cell i h1y
    have ty : (i : Int) < (ys.length : Int) := by omega
    clear hI
    by_cases hn : nth xs i < nth ys i + br
    ·have r1 : (nth xs i : Int) - (br : Int) - (nth ys i : Int) < 0 := by omega
     have r2 : (nth xs i : Int) - (br : Int) - (nth ys i : Int) + 256 = ((difD (nth xs i) (nth ys i) br : Nat) : Int) := by unfold difD; rw [if_pos hn]; omega
     have r3 : difB (nth xs i) (nth ys i) br = 1 := by unfold difB; rw [if_pos hn]
     rw [r3] at HN
     clear hn r3
     generalize difD (nth xs i) (nth ys i) br = dd at *
     generalize nth xs i = xx at *
     generalize nth ys i = yy at *
     go_wp2_with (at_builtin; refine za1 rfl (.tmp 35) (.tmp 37) 46 _ _ _ rfl rfl rfl Hrun.out ?_)
     go_roundw
     case rel => exact ⟨i + 1, 1, _, by omega, by go_num, rfl, HN.out⟩
     case measure => simp [intOf]; omega
    ·have r1 : ¬ (nth xs i : Int) - (br : Int) - (nth ys i : Int) < 0 := by omega
     have r2 : (nth xs i : Int) - (br : Int) - (nth ys i : Int) = ((difD (nth xs i) (nth ys i) br : Nat) : Int) := by unfold difD; rw [if_neg hn]; omega
     have r3 : difB (nth xs i) (nth ys i) br = 0 := by unfold difB; rw [if_neg hn]
     rw [r3] at HN
     clear hn r3
     generalize difD (nth xs i) (nth ys i) br = dd at *
     generalize nth xs i = xx at *
     generalize nth ys i = yy at *
     go_wp2_with (at_builtin; refine za1 rfl (.tmp 35) (.tmp 37) 46 _ _ _ rfl rfl rfl Hrun.out ?_)
     go_roundw
     case rel => exact ⟨i + 1, 0, _, by omega, by go_num, rfl, HN.out⟩
     case measure => simp [intOf]; omega
   ·have ty : ¬ (i : Int) < (ys.length : Int) := by omega
    have hy0 : nth ys i = 0 := by simp [nth, List.getD, show ys.length ≤ i by omega]
    rw [hy0] at HN Hrun
    clear hI
    by_cases hn : nth xs i < 0 + br
    ·have r1 : (nth xs i : Int) - (br : Int) < 0 := by omega
     have r2 : (nth xs i : Int) - (br : Int) + 256 = ((difD (nth xs i) 0 br : Nat) : Int) := by unfold difD; rw [if_pos hn]; omega
     have r3 : difB (nth xs i) 0 br = 1 := by unfold difB; rw [if_pos hn]
     rw [r3] at HN
     clear hn r3
     generalize difD (nth xs i) 0 br = dd at *
     generalize nth xs i = xx at *
     go_wp2_with (at_builtin; refine za1 rfl (.tmp 35) (.tmp 37) 46 _ _ _ rfl rfl rfl Hrun.out ?_)
     go_roundw
     case rel => exact ⟨i + 1, 1, _, by omega, by go_num, rfl, HN.out⟩
     case measure => simp [intOf]; omega
    ·have r1 : ¬ (nth xs i : Int) - (br : Int) < 0 := by omega
     have r2 : (nth xs i : Int) - (br : Int) = ((difD (nth xs i) 0 br : Nat) : Int) := by unfold difD; rw [if_neg hn]; omega
     have r3 : difB (nth xs i) 0 br = 0 := by unfold difB; rw [if_neg hn]
     rw [r3] at HN
     clear hn r3
     generalize difD (nth xs i) 0 br = dd at *
     generalize nth xs i = xx at *
     go_wp2_with (at_builtin; refine za1 rfl (.tmp 35) (.tmp 37) 46 _ _ _ rfl rfl rfl Hrun.out ?_)
     go_roundw
     case rel => exact ⟨i + 1, 0, _, by omega, by go_num, rfl, HN.out⟩
     case measure => simp [intOf]; omega
  ·obtain rfl : i = xs.length := by omega
   have hv := hI.done Hle.out hly
   obtain ⟨A3, c3, rfl, hc3, -, hr3, hf3⟩ := hI.own.form
   have ht := zaL (b := 256) (by decide) hI.lt
   rw [hv] at ht
   have Htr := zmZ (znL wr A3 c3 o (by rw [hI.len]; omega) hc3 hr3)
   rw [ht] at Htr
   have Hr : Hid (Rd wr .i64 A3 (digs 256 (val 256 xs - val 256 ys))) := zmZ (by rw [← ht]; exact hr3.take _)
   have hlt2 : (digs 256 (val 256 xs - val 256 ys)).length ≤ o.length := by rw [← ht, za2]; exact zar _
   have Hfr : Hid (Fr w.heap.size A3 (digs 256 (val 256 xs - val 256 ys))) := zmZ (fun j hj => hf3 j (by omega))
   have Hbl := zmZ hI.below
   have Hc := zmZ (show (digs 256 (val 256 xs - val 256 ys)).length ≤ c3 by omega)
   clear hI hr3 hf3 hc3 ht hv hlt2
   generalize digs 256 (val 256 xs - val 256 ys) = R at *
   go_wp2_with fail
   refine Htr.out.mono ?_
   rintro e w4 ⟨rfl, rfl⟩
   go_wp2_with fail
   go_ret
   exact ⟨A3, c3, rfl, Hc.out, Hr.out, Hbl.out, Hfr.out⟩

structure RtInv (w wr : World) (pv : Value) (xs o : List Nat) (i bt b0 : Nat) : Prop where
 own : Own wr w.heap.size 3 .i64 pv o
 below : Below w.heap.size w wr
 len : o.length = i
 lt : ∀ x ∈ o, x < 256
 bt1 : bt ≤ 1
 eq : valT 256 o i + 256 ^ i * bt = 2 * valT 256 xs i + b0
theorem RtInv.next {w wr w' : World} {pv v' : Value} {xs o : List Nat} {i bt b0 : Nat} (h : RtInv w wr pv xs o i bt b0) (hx : ∀ x ∈ xs, x < 256)
 (ho : Own w' w.heap.size 3 .i64 v' (o ++ [(2 * nth xs i + bt) % 256])) (hb : Below w.heap.size w w') :
 RtInv w w' v' xs (o ++ [(2 * nth xs i + bt) % 256]) (i + 1) ((2 * nth xs i + bt) / 256) b0 := by
 have b1 := zab (b := 256) (by decide) hx i
 have hc := h.bt1
 refine ⟨ho, hb, by simp [h.len], ?_, by omega, ?_⟩
 ·intro x hx
  rcases List.mem_append.1 hx with hx | hx
  ·exact h.lt x hx
  ·simp at hx; omega
 ·have e := h.eq
  have s1 := zo1 256 o ((2 * nth xs i + bt) % 256)
  rw [h.len] at s1
  rw [s1, valT, Nat.pow_succ]
  have d := Nat.div_add_mod (2 * nth xs i + bt) 256
  generalize (2 * nth xs i + bt) / 256 = q at *
  generalize (2 * nth xs i + bt) % 256 = r at *
  generalize nth xs i = a at *
  generalize 256 ^ i = p at *
  clear h hx ho hb
  grind

set_option maxRecDepth 100000 in
theorem znO (w : World) (A : Option Addr) (c b0 : Nat) (xs : List Nat) (hl : xs.length ≤ 16777216) (ha : Rd w .i64 A xs) (hx : ∀ x ∈ xs, x < 256) (hb0 : b0 ≤ 1) :
 Calls Tryz.prog 229 #[.slice A xs.length c, .int .i64 b0] w (RetL .i64 (digs 256 (2 * val 256 xs + b0)) w) := by
 have hsa := ha.sl
 have h1 := zng
 have Ha := zmZ ha; have Hx := zmZ hx
 clear ha hx
 go_enter Tryz.func229, Tryz.ntmps229
 go_wp2_with fail
 go_loopw [1, 5, 6] (fun bv pv iv wr => ∃ (i bt : Nat) (o : List Nat), i ≤ xs.length ∧ iv = .int .i64 i ∧ bv = .int .i64 bt ∧ RtInv w wr pv xs o i bt b0) (fun _ _ iv _ => xs.length - (intOf iv).toNat)
 case atStart => exact ⟨0, b0, [], Nat.zero_le _, rfl, rfl, Own.nil_ _ _ _ _, Below.refl _ _, rfl, by simp, hb0, by simp [valT]⟩
 case round =>
  obtain ⟨i, bt, o, hi, rfl, rfl, hI⟩ := hrel
  have hc1 := hI.bt1
  by_cases hlt : i < xs.length
  ·have hcx := (Ha.out.below hI.below (Nat.le_refl _)).cell i hlt
   have hbx := zab (b := 256) (by decide) Hx.out i
   obtain ⟨v', w', hrun, ho', hb', -, -⟩ := hI.own.app (P := Tryz.prog) (t := 46) Tryz.underlying46 znk rfl ((2 * nth xs i + bt) % 256) (by rw [hI.len]; omega) (by rw [hI.len]; simp only [maxLen]; omega) hI.below.size
   have Hrun := zmZ hrun
   have HN := zmZ (hI.next Hx.out ho' (hI.below.trans hb'))
   have r1 : (2 * (nth xs i : Int) + (bt : Int)) % 256 = (((2 * nth xs i + bt) % 256 : Nat) : Int) := by omega
   have r2 : (2 * (nth xs i : Int) + (bt : Int)) / 256 = (((2 * nth xs i + bt) / 256 : Nat) : Int) := by omega
   clear hrun ho' hb' hI
   generalize (2 * nth xs i + bt) % 256 = rr at *
   generalize (2 * nth xs i + bt) / 256 = qq at *
   generalize nth xs i = xx at *
   go_wp2_with (at_builtin; refine za1 rfl (.tmp 21) (.tmp 24) 46 _ _ _ rfl rfl rfl Hrun.out ?_)
   go_roundw
   case rel => exact ⟨i + 1, qq, _, by omega, by go_num, by first | rfl | rw [r2], HN.out⟩
   case measure => simp [intOf]; omega
  ·obtain rfl : i = xs.length := by omega
   obtain ⟨v', w', hrun, ho', hb', -, -⟩ := hI.own.app (P := Tryz.prog) (t := 46) Tryz.underlying46 znk rfl bt (by rw [hI.len]; omega) (by rw [hI.len]; simp only [maxLen]; omega) hI.below.size
   have hlt3 : ∀ x ∈ o ++ [bt], x < 256 := by
    intro x hx
    rcases List.mem_append.1 hx with hx | hx
    ·exact hI.lt x hx
    ·simp at hx; omega
   have hv : val 256 (o ++ [bt]) = 2 * val 256 xs + b0 := by
    have e := hI.eq
    rw [zaw] at e
    rw [zbg, hI.len, ← e]
    have : valT 256 o xs.length = val 256 o := by rw [← hI.len]; exact zaw 256 o
    rw [this]
    simp [val]
   obtain ⟨A3, c3, rfl, hc3, -, hr3, hf3⟩ := ho'.form
   have ht := zaL (b := 256) (by decide) hlt3
   rw [hv] at ht
   have hol : (o ++ [bt]).length = xs.length + 1 := by simp [hI.len]
   have Htr := zmZ (znL w' A3 c3 (o ++ [bt]) (by omega) hc3 hr3)
   rw [ht] at Htr
   have Hr : Hid (Rd w' .i64 A3 (digs 256 (2 * val 256 xs + b0))) := zmZ (by rw [← ht]; exact hr3.take _)
   have hlt2 : (digs 256 (2 * val 256 xs + b0)).length ≤ (o ++ [bt]).length := by rw [← ht, za2]; exact zar _
   have Hfr : Hid (Fr w.heap.size A3 (digs 256 (2 * val 256 xs + b0))) := zmZ (fun j hj => hf3 j (by omega))
   have Hbl := zmZ (hI.below.trans hb')
   have Hc := zmZ (show (digs 256 (2 * val 256 xs + b0)).length ≤ c3 by omega)
   have Hrun := zmZ hrun
   clear hI hr3 hf3 hc3 ht hv hlt2 hlt3 ho' hb' hrun hol
   generalize (o ++ [bt]).length = nn at *
   generalize digs 256 (2 * val 256 xs + b0) = R at *
   go_wp2_with (at_builtin; refine za1 rfl (.tmp 28) (.tmp 30) 46 _ _ _ rfl rfl rfl Hrun.out ?_)
   refine Htr.out.mono ?_
   rintro e w4 ⟨rfl, rfl⟩
   go_wp2_with fail
   go_ret
   exact ⟨A3, c3, rfl, Hc.out, Hr.out, Hbl.out, Hfr.out⟩

set_option maxRecDepth 100000 in
theorem znQ (w : World) (A B : Option Addr) (c d : Nat) (l m : List Nat) (hl : l.length ≤ 1000000) (hm : m.length ≤ 1000000) (ha : Rd w .u64 A l) (hb : Rd w .u64 B m)
 (hx : ∀ x ∈ l, x < B64) (hy : ∀ x ∈ m, x < B64) :
 Calls Tryz.prog 198 #[.slice A l.length c, .slice B m.length d] w fun e w' => e = .returned (.int .i64 (cmpN (val B64 l) (val B64 m))) ∧ Below w.heap.size w w' := by
 have hlx := zn2 hx; have hly := zn2 hy
 have Hs1 := zmZ (zn3 w A c l (by omega) ha hx)
 have Hb := zmZ hb; have Hy := zmZ hy
 clear ha hx hb hy
 go_enter Tryz.func198, Tryz.ntmps198
 go_wp2_with fail
 refine Hs1.out.mono ?_
 rintro e w1 ⟨A1, c1, rfl, -, hr1, hb1, -⟩
 have Hb1 := zmZ hb1; have Hr1 := zmZ hr1
 have Hs2 := zmZ (zn3 w1 B d m (by omega) (Hb.out.below hb1 (Nat.le_refl _)) Hy.out)
 clear hb1 hr1 Hs1
 go_wp2_with fail
 refine Hs2.out.mono ?_
 rintro e w2 ⟨A2, c2, rfl, -, hr2, hb2, -⟩
 have hc := zo3 w2 A1 A2 c1 c2 (digs 256 (val B64 l)) (digs 256 (val B64 m)) (by omega) (by omega) (Hr1.out.below hb2 (Nat.le_refl _)) hr2 (zaS (by decide) _) (zaS (by decide) _) (digs_tidy (by decide) _) (digs_tidy (by decide) _)
 rw [zag (by decide), zag (by decide)] at hc
 have Hc := zmZ hc
 have Hb2 := zmZ (Hb1.out.trans (hb2.mono Hb1.out.size))
 clear hr2 hb2 hc Hs2 hlx hly Hr1 Hb1
 generalize digs 256 (val B64 l) = xs at *
 generalize digs 256 (val B64 m) = ys at *
 go_wp2_with fail
 refine Hc.out.mono ?_
 rintro e w3 ⟨rfl, q, rfl⟩
 go_wp2_with fail
 go_ret
 exact ⟨rfl, Below.drewN Hb2.out q⟩

set_option maxRecDepth 100000 in
theorem znP (w : World) (A B : Option Addr) (c d : Nat) (l m : List Nat) (hl : l.length ≤ 1000000) (hm : m.length ≤ 1000000) (ha : Rd w .u64 A l) (hb : Rd w .u64 B m)
 (hx : ∀ x ∈ l, x < B64) (hy : ∀ x ∈ m, x < B64) :
 Calls Tryz.prog 199 #[.slice A l.length c, .slice B m.length d] w (RetL .u64 (digs B64 (val B64 l - val B64 m)) w) := by
 have hlx := zn2 hx; have hly := zn2 hy
 have Hs1 := zmZ (zn3 w A c l (by omega) ha hx)
 have Hb := zmZ hb; have Hy := zmZ hy
 clear ha hx hb hy
 go_enter Tryz.func199, Tryz.ntmps199
 go_wp2_with fail
 refine Hs1.out.mono ?_
 rintro e w1 ⟨A1, c1, rfl, -, hr1, hb1, -⟩
 have Hb1 := zmZ hb1; have Hr1 := zmZ hr1
 have Hs2 := zmZ (zn3 w1 B d m (by omega) (Hb.out.below hb1 (Nat.le_refl _)) Hy.out)
 clear hb1 hr1 Hs1
 go_wp2_with fail
 refine Hs2.out.mono ?_
 rintro e w2 ⟨A2, c2, rfl, -, hr2, hb2, -⟩
 have hrx := Hr1.out.below hb2 (Nat.le_refl _)
 have hc := zo3 w2 A1 A2 c1 c2 (digs 256 (val B64 l)) (digs 256 (val B64 m)) (by omega) (by omega) hrx hr2 (zaS (by decide) _) (zaS (by decide) _) (digs_tidy (by decide) _) (digs_tidy (by decide) _)
 rw [zag (by decide), zag (by decide)] at hc
 have Hc := zmZ hc
 have Hb2 := zmZ (Hb1.out.trans (hb2.mono Hb1.out.size))
 have Hrx := zmZ hrx; have Hry := zmZ hr2
 have hlx2 : (digs 256 (val B64 l)).length ≤ 8000000 := by omega
 clear hr2 hb2 hc Hs2 hlx hly Hr1 Hb1 hrx
 by_cases hlt : val B64 l < val B64 m
 ·have Hz := zmZ (show digs B64 (val B64 l - val B64 m) = [] by rw [show val B64 l - val B64 m = 0 from by omega]; rfl)
  rw [zco hlt] at Hc
  clear hlt hlx2 Hrx Hry
  generalize digs 256 (val B64 l) = xs at *
  generalize digs 256 (val B64 m) = ys at *
  go_wp2_with fail
  refine Hc.out.mono ?_
  rintro e w3 ⟨rfl, q, rfl⟩
  go_wp2_with fail
  go_ret
  rw [Hz.out]
  exact ⟨none, 0, rfl, Nat.le_refl _, Rd.nil_ _ _, Below.drewN Hb2.out q, Fr.none_ _ _⟩
 ·have hle : val B64 m ≤ val B64 l := by omega
  have hll : (digs 256 (val B64 m)).length ≤ (digs 256 (val B64 l)).length := by
   refine zcs (by decide) (Nat.lt_of_le_of_lt hle ?_)
   have := zd0 (zaS (b := 256) (by decide) (val B64 l))
   rwa [zag (by decide)] at this
  have tz : ¬ cmpN (val B64 l) (val B64 m) < 0 := by unfold cmpN; split; omega; split <;> decide
  have Hsb := zmZ (fun q => zoA (w2.drewN q) A1 A2 c1 c2 (digs 256 (val B64 l)) (digs 256 (val B64 m)) (by omega) hll (Hrx.out.drewN q) (Hry.out.drewN q) (zaS (by decide) _) (zaS (by decide) _) (by rw [zag (by decide), zag (by decide)]; exact hle))
  rw [zag (by decide), zag (by decide)] at Hsb
  have hdl : (digs 256 (val B64 l - val B64 m)).length ≤ 16777216 := by
   refine Nat.le_trans (zcs (by decide) (Nat.lt_of_le_of_lt (Nat.sub_le _ _) ?_)) (Nat.le_trans hlx2 (by decide))
   have := zd0 (zaS (b := 256) (by decide) (val B64 l))
   rwa [zag (by decide)] at this
  have Hlg := zmZ (fun (W : World) (A' : Option Addr) (c' : Nat) (hc' : (digs 256 (val B64 l - val B64 m)).length ≤ c') (hr : Rd W .i64 A' (digs 256 (val B64 l - val B64 m))) => zn6 W A' c' (digs 256 (val B64 l - val B64 m)) hdl hc' hr (zaS (by decide) _))
  rw [zag (by decide)] at Hlg
  clear hlt hle hll hlx2 Hrx Hry hdl
  generalize digs 256 (val B64 l - val B64 m) = rs at *
  generalize digs 256 (val B64 l) = xs at *
  generalize digs 256 (val B64 m) = ys at *
  generalize cmpN (val B64 l) (val B64 m) = z at *
  go_wp2_with fail
  refine Hc.out.mono ?_
  rintro e w3 ⟨rfl, q, rfl⟩
  go_wp2_with fail
  refine (Hsb.out q).mono ?_
  rintro e w4 ⟨A4, c4, rfl, hc4, hr4, hb4, -⟩
  have hb5 := (Below.drewN Hb2.out q).trans (hb4.mono (Below.drewN Hb2.out q).size)
  have Hb5 := zmZ hb5
  have Hl2 := zmZ (Hlg.out w4 A4 c4 hc4 hr4)
  clear hc4 hr4 hb4 hb5 Hsb Hlg
  go_wp2_with fail
  refine Hl2.out.mono ?_
  rintro e w5 ⟨A5, c5, rfl, hc5, hr5, hb5, hf5⟩
  have HC := zmZ hc5; have HR := zmZ hr5; have HB := zmZ hb5; have HF := zmZ hf5
  clear hc5 hr5 hb5 hf5
  go_wp2_with fail
  go_ret
  exact ⟨A5, c5, rfl, HC.out, HR.out, Hb5.out.trans (HB.out.mono Hb5.out.size), fun j hj => Nat.le_trans Hb5.out.size (HF.out j hj)⟩

set_option maxRecDepth 100000 in
theorem zoW (w : World) (A : Option Addr) (c : Nat) (l : List Nat) (hl : l.length ≤ 1000000) (ha : Rd w .u64 A l) (hx : ∀ x ∈ l, x < B64) :
 Calls Tryz.prog 201 #[.slice A l.length c] w fun e w' => ∃ n : Nat, e = .returned (.int .i64 n) ∧ (n = 0 ↔ val B64 l = 0) ∧ Below w.heap.size w w' := by
 have hlx := zn2 hx
 have h1 := zng
 have Hs1 := zmZ (zn3 w A c l (by omega) ha hx)
 clear ha hx
 go_enter Tryz.func201, Tryz.ntmps201
 go_wp2_with fail
 refine Hs1.out.mono ?_
 rintro e w1 ⟨A1, c1, rfl, -, hr1, hb1, -⟩
 have Hb1 := zmZ hb1; have Hr1 := zmZ hr1
 have hsl := hr1.sl
 clear hb1 hr1 Hs1
 by_cases h0 : val B64 l = 0
 ·have hd : digs 256 (val B64 l) = [] := by rw [h0]; rfl
  have H0 := zmZ h0
  rw [hd] at hsl ⊢
  clear h0 hd Hr1
  go_wp2_with fail
  go_ret
  exact ⟨0, rfl, ⟨fun _ => H0.out, fun _ => rfl⟩, Hb1.out⟩
 ·have hne : digs 256 (val B64 l) ≠ [] := fun e => h0 ((zaD (by decide)).1 e)
  have hpos := List.length_pos_iff.2 hne
  have htd := digs_tidy (b := 256) (by decide) (val B64 l)
  have hlt := zaS (b := 256) (by decide) (val B64 l)
  have hcell := Hr1.out.cell ((digs 256 (val B64 l)).length - 1) (by omega)
  have hx1 := zab (b := 256) (by decide) hlt ((digs 256 (val B64 l)).length - 1)
  have hx0 : 0 < nth (digs 256 (val B64 l)) ((digs 256 (val B64 l)).length - 1) := by
   rcases htd with h | ⟨x, hx, hx0⟩
   ·exact absurd h hne
   ·have e : nth (digs 256 (val B64 l)) ((digs 256 (val B64 l)).length - 1) = x := by
     rw [List.getLast?_eq_getElem?] at hx
     simp [nth, List.getD, hx]
    rw [e]; omega
  have H0 := zmZ h0
  clear h0 hne htd hlt
  generalize nth (digs 256 (val B64 l)) ((digs 256 (val B64 l)).length - 1) = x at *
  generalize hL : (digs 256 (val B64 l)).length = L at *
  obtain ⟨L, rfl⟩ : ∃ k, L = k + 1 := ⟨L - 1, by omega⟩
  have i1 : ((L + 1 : Nat) : Int) - 1 = (L : Int) := by omega
  have i2 : L + 1 - 1 = L := by omega
  rw [i2] at hcell
  clear hL hpos Hr1 i2
  go_wp2_with fail
  go_loopw [4, 5] (fun nv dv wr => ∃ n d : Nat, nv = .int .i64 n ∧ dv = .int .i64 d ∧ n + d ≤ 8 * L + 256 ∧ (0 < d ∨ 0 < n) ∧ wr = w1) (fun _ dv _ => (intOf dv).toNat)
  case atStart => exact ⟨8 * L, x, by first | rfl | (congr 1; omega), rfl, by omega, .inl hx0, rfl⟩
  case round =>
   obtain ⟨n, d, rfl, rfl, hnd, hor, rfl⟩ := hrel
   by_cases hd : 0 < d
   ·have t1 : (0 : Int) < (d : Int) := by omega
    have t2 : (d : Int) / 2 = ((d / 2 : Nat) : Int) := by omega
    have hn2 : n + 1 + d / 2 ≤ 8 * L + 256 := by omega
    have hm : d / 2 < d := by omega
    generalize d / 2 = d2 at *
    clear hor
    go_wp2_with fail
    go_roundw
    case rel => exact ⟨n + 1, d2, by go_num, by first | rfl | rw [t2], hn2, .inr (Nat.succ_pos _), by first | rfl | trivial⟩
    case measure => simp [intOf]; omega
   ·have t1 : ¬ (0 : Int) < (d : Int) := by omega
    have hn0 : 0 < n := by omega
    clear hor
    go_wp2_with fail
    go_ret
    exact ⟨n, rfl, ⟨fun e => by omega, fun e => absurd e H0.out⟩, Hb1.out⟩

def bitOf (x p : Nat) : Nat := x / 2 ^ p % 2
structure DvI (X Y p R : Nat) (q : List Nat) (n : Nat) : Prop where
 len : q.length = n
 lt : ∀ x ∈ q, x < 256
 quo : val 256 q = X / 2 ^ p / Y * 2 ^ p
 rem : R = X / 2 ^ p % Y
theorem DvI.start {X Y n : Nat} (h : X < 256 ^ n) : DvI X Y (8 * n) 0 (List.replicate n 0) n := by
 have e : X / 2 ^ (8 * n) = 0 := by
  refine Nat.div_eq_of_lt ?_
  rwa [Nat.pow_mul]
 refine ⟨by simp, fun x hx => by rw [List.eq_of_mem_replicate hx]; decide, ?_, by rw [e]; simp⟩
 rw [e, Nat.zero_div, Nat.zero_mul]
 induction n with
 | zero => rfl
 | succ n ih => rw [List.replicate_succ, val, show val 256 (List.replicate n 0) = 0 from ?_]
                clear ih h e
                induction n with
                | zero => rfl
                | succ n ih => rw [List.replicate_succ, val, ih]
theorem zqt (X p : Nat) : X / 2 ^ p = 2 * (X / 2 ^ (p + 1)) + bitOf X p := by
 unfold bitOf
 rw [Nat.pow_succ, ← Nat.div_div_eq_div_mul]
 omega
theorem zoB {xs : List Nat} (hx : ∀ x ∈ xs, x < 256) (i : Nat) (hi : i ≤ xs.length) : val 256 xs / 256 ^ i = val 256 (xs.drop i) := by
 have h1 : val 256 xs = val 256 (xs.take i) + 256 ^ i * val 256 (xs.drop i) := by
  conv => lhs; rw [← List.take_append_drop i xs, zbg]
  rw [List.length_take, Nat.min_eq_left hi]
 have h2 := zd0 (b := 256) (xs := xs.take i) (fun x hx' => hx x (List.mem_of_mem_take hx'))
 rw [List.length_take, Nat.min_eq_left hi] at h2
 rw [h1, Nat.add_mul_div_left _ _ (Nat.pow_pos (by decide)), Nat.div_eq_of_lt h2, Nat.zero_add]
theorem znN {xs : List Nat} (hx : ∀ x ∈ xs, x < 256) (i : Nat) (hi : i < xs.length) : ∃ m, val 256 xs / 256 ^ i = nth xs i + 256 * m := by
 rw [zoB hx i (Nat.le_of_lt hi), List.drop_eq_getElem_cons hi]
 exact ⟨val 256 (xs.drop (i + 1)), by simp [val, nth, List.getD, hi]⟩
theorem lt8 {b : Nat} (h : b < 8) : b = 0 ∨ b = 1 ∨ b = 2 ∨ b = 3 ∨ b = 4 ∨ b = 5 ∨ b = 6 ∨ b = 7 := by omega
theorem zpB {xs : List Nat} (hx : ∀ x ∈ xs, x < 256) (i b : Nat) (hi : i < xs.length) (hb : b < 8) : bitOf (val 256 xs) (8 * i + b) = nth xs i / 2 ^ b % 2 := by
 obtain ⟨m, hm⟩ := znN hx i hi
 unfold bitOf
 rw [Nat.pow_add, Nat.pow_mul, ← Nat.div_div_eq_div_mul, hm]
 generalize nth xs i = x
 rcases lt8 hb with rfl | rfl | rfl | rfl | rfl | rfl | rfl | rfl <;> simp <;> omega
theorem zp3 {X Y p R : Nat} (hY : 0 < Y) (hR : R = X / 2 ^ (p + 1) % Y) :
 (2 * R + bitOf X p < Y → X / 2 ^ p / Y = 2 * (X / 2 ^ (p + 1) / Y) ∧ X / 2 ^ p % Y = 2 * R + bitOf X p) ∧
 (¬ 2 * R + bitOf X p < Y → X / 2 ^ p / Y = 2 * (X / 2 ^ (p + 1) / Y) + 1 ∧ X / 2 ^ p % Y = 2 * R + bitOf X p - Y) := by
 have h1 := zqt X p
 have hb : bitOf X p < 2 := Nat.mod_lt _ (by decide)
 generalize X / 2 ^ (p + 1) = T at *
 generalize bitOf X p = b at *
 have h2 := Nat.div_add_mod T Y
 have h3 := Nat.mod_lt T hY
 rw [h1]
 rw [← hR] at h2 h3
 generalize T / Y = k at *
 have e : 2 * T + b = (2 * R + b) + Y * (2 * k) := by rw [← h2, Nat.mul_add, Nat.mul_left_comm]; omega
 rw [e]
 refine ⟨fun h => ⟨?_, ?_⟩, fun h => ⟨?_, ?_⟩⟩
 ·rw [Nat.add_mul_div_left _ _ hY, Nat.div_eq_of_lt h, Nat.zero_add]
 ·rw [Nat.add_mul_mod_self_left, Nat.mod_eq_of_lt h]
 ·rw [Nat.add_mul_div_left _ _ hY]
  have : (2 * R + b) / Y = 1 := by
   rw [show 2 * R + b = (2 * R + b - Y) + Y * 1 from by omega, Nat.add_mul_div_left _ _ hY, Nat.div_eq_of_lt (by omega)]
  omega
 ·rw [Nat.add_mul_mod_self_left, Nat.mod_eq_sub_mod (by omega), Nat.mod_eq_of_lt (by omega)]
theorem DvI.no {X Y R i b n : Nat} {q : List Nat} (h : DvI X Y (8 * i + b + 1) R q n) (hY : 0 < Y) (hlt : 2 * R + bitOf X (8 * i + b) < Y) : DvI X Y (8 * i + b) (2 * R + bitOf X (8 * i + b)) q n := by
 obtain ⟨e1, e2⟩ := (zp3 hY h.rem).1 hlt
 refine ⟨h.len, h.lt, ?_, e2.symm⟩
 rw [h.quo, e1, Nat.pow_succ]
 generalize 2 ^ (8 * i + b) = t
 generalize X / (t * 2) / Y = k
 rw [Nat.mul_comm t 2, ← Nat.mul_assoc, Nat.mul_comm k 2]
theorem DvI.room {X Y R i b n : Nat} {q : List Nat} (h : DvI X Y (8 * i + b + 1) R q n) (hi : i < n) (hb : b < 8) : nth q i + 2 ^ b < 256 := by
 have hi' : i < q.length := by rw [h.len]; exact hi
 obtain ⟨m, hm⟩ := znN h.lt i hi'
 have hq := h.quo
 have hx := zab (b := 256) (by decide) h.lt i
 rw [show 8 * i + b + 1 = (b + 1) + 8 * i from by omega, Nat.pow_add, Nat.pow_mul 2 8 i, ← Nat.mul_assoc] at hq
 rw [hq, show (2 : Nat) ^ 8 = 256 from rfl, Nat.mul_div_cancel _ (Nat.pow_pos (by decide))] at hm
 generalize X / (2 ^ (b + 1) * 256 ^ i) / Y = k at *
 have hx' : nth q i < 256 := hx
 generalize nth q i = x at *
 clear hq hx h
 rcases lt8 hb with rfl | rfl | rfl | rfl | rfl | rfl | rfl | rfl <;> simp at hm ⊢ <;> omega
theorem DvI.yes {X Y R i b n : Nat} {q : List Nat} (h : DvI X Y (8 * i + b + 1) R q n) (hY : 0 < Y) (hi : i < n) (hb : b < 8) (hlt : ¬ 2 * R + bitOf X (8 * i + b) < Y) :
 DvI X Y (8 * i + b) (2 * R + bitOf X (8 * i + b) - Y) (q.set i (nth q i + 2 ^ b)) n := by
 obtain ⟨e1, e2⟩ := (zp3 hY h.rem).2 hlt
 have hr := h.room hi hb
 have hi' : i < q.length := by rw [h.len]; exact hi
 refine ⟨by simp [h.len], fun x hx => ?_, ?_, e2.symm⟩
 ·rcases List.mem_or_eq_of_mem_set hx with hx | rfl
  ·exact h.lt x hx
  ·exact hr
 ·have hv := zpH (b := 256) (l := q) (p := i) (x := nth q i + 2 ^ b) hi'
  rw [h.quo, Nat.mul_add] at hv
  have e3 : 256 ^ i * 2 ^ b = 2 ^ (8 * i + b) := by rw [Nat.pow_add, Nat.pow_mul]
  rw [e3] at hv
  rw [e1, Nat.add_mul, Nat.one_mul, Nat.pow_succ]
  rw [Nat.pow_succ] at hv
  generalize 2 ^ (8 * i + b) = t at *
  generalize X / (t * 2) / Y = k at *
  have e4 : k * (t * 2) = 2 * k * t := by rw [Nat.mul_comm t 2, ← Nat.mul_assoc, Nat.mul_comm k 2]
  rw [e4] at hv
  omega
theorem DvI.done {X Y R n : Nat} {q : List Nat} (h : DvI X Y 0 R q n) : val 256 q = X / Y ∧ R = X % Y := by
 have h1 := h.quo; have h2 := h.rem
 simp at h1 h2
 exact ⟨h1, h2⟩

theorem zrJ {x y : Int} (h : ¬ x = y) : (x == y) = false := by simpa using h
theorem zqO (x b : Nat) (hx : x < 256) : bits .and .i64 ((x : Int) / 2 ^ b) 1 = ((x / 2 ^ b % 2 : Nat) : Int) := by
 have h : ∀ v : Fin 256, bits .and .i64 (v.val : Int) 1 = ((v.val % 2 : Nat) : Int) := by decide +kernel
 have e : (x : Int) / 2 ^ b = ((x / 2 ^ b : Nat) : Int) := by simp
 rw [e]
 exact h ⟨x / 2 ^ b, Nat.lt_of_le_of_lt (Nat.div_le_self _ _) hx⟩
theorem DvI.remlt {X Y p R n : Nat} {q : List Nat} (h : DvI X Y p R q n) (hY : 0 < Y) : R < Y := by rw [h.rem]; exact Nat.mod_lt _ hY
theorem zqv (x b : Nat) (hb : b < 8) (h : x + 2 ^ b < 256) : wrap64 ((x : Int) + wrap64 (2 ^ b)) = ((x + 2 ^ b : Nat) : Int) := by
 rcases lt8 hb with rfl | rfl | rfl | rfl | rfl | rfl | rfl | rfl <;> simp [wrap64] at h ⊢ <;> omega
theorem zrv {W : World} {A : Option Addr} {l : List Nat} {k : IntKind} (h : Rd W k A l) {a : Addr} (hf : Fr (a.block + 1) A l) (v : Value) : Rd (W.setCell a v) k A l :=
 ⟨h.sl, fun i hi => by
  rw [World.cell?_setCell_other _ _ _ _ (fun e => by have := hf i hi; rw [← e] at this; omega)]
  exact h.cell i hi⟩
def zrC (p q : List Nat) (w : World) (e : Ending) (w' : World) : Prop :=
 ∃ A c A' c', e = .returned (.tuple #[.slice A p.length c, .slice A' q.length c']) ∧ p.length ≤ c ∧ q.length ≤ c' ∧ Rd w' .u64 A p ∧ Rd w' .u64 A' q ∧ Below w.heap.size w w' ∧ Fr w.heap.size A p ∧ Fr w.heap.size A' q
structure DvW (w wr : World) (X Y p R g n : Nat) (q : List Nat) (A : Option Addr) : Prop where
 inv : DvI X Y p R q n
 blk : Blk wr g 3 (ints .i64 q)
 rd : Rd wr .i64 A (digs 256 R)
 below : Below g w wr
set_option maxRecDepth 100000 in
theorem zps (w : World) (A B : Option Addr) (c d : Nat) (l m : List Nat) (hl : l.length ≤ 1000000) (hm : m.length ≤ 1000000) (ha : Rd w .u64 A l) (hb : Rd w .u64 B m)
 (hx : ∀ x ∈ l, x < B64) (hy : ∀ x ∈ m, x < B64) (hY : val B64 m ≠ 0) :
 Calls Tryz.prog 206 #[.slice A l.length c, .slice B m.length d] w (zrC (digs B64 (val B64 l / val B64 m)) (digs B64 (val B64 l % val B64 m)) w) := by
 have hlx := zn2 hx; have hly := zn2 hy
 have h1 := zng
 have Hs1 := zmZ (zn3 w A c l (by omega) ha hx)
 have Hb := zmZ hb; have Hy := zmZ hy
 clear ha hx hb hy
 go_enter Tryz.func206, Tryz.ntmps206
 go_wp2_with fail
 refine Hs1.out.mono ?_
 rintro e w1 ⟨A1, c1, rfl, -, hr1, hb1, -⟩
 have Hb1 := zmZ hb1; have Hr1 := zmZ hr1
 have Hs2 := zmZ (zn3 w1 B d m (by omega) (Hb.out.below hb1 (Nat.le_refl _)) Hy.out)
 clear hb1 hr1 Hs1
 go_wp2_with fail
 refine Hs2.out.mono ?_
 rintro e w2 ⟨A2, c2, rfl, -, hr2, hb2, -⟩
 have Hrx := zmZ (Hr1.out.below hb2 (Nat.le_refl _))
 have Hry := zmZ hr2
 have Hb2 := zmZ (Hb1.out.trans (hb2.mono Hb1.out.size))
 have hyne : 0 < (digs 256 (val B64 m)).length := List.length_pos_iff.2 (fun e => hY ((zaD (by decide)).1 e))
 have ty : (((digs 256 (val B64 m)).length : Int) == 0) = false := zrJ (by omega)
 clear hr2 hb2 Hs2 Hr1 Hb1
 have Hvx := zmZ (zag (b := 256) (by decide) (val B64 l)); have Hvy := zmZ (zag (b := 256) (by decide) (val B64 m))
 have Hxl := zmZ (zaS (b := 256) (by decide) (val B64 l)); have Hyl := zmZ (zaS (b := 256) (by decide) (val B64 m)); have Hyt := zmZ (digs_tidy (b := 256) (by decide) (val B64 m))
 have Hst := zmZ (DvI.start (Y := val B64 m) (n := (digs 256 (val B64 l)).length) (by have := zd0 Hxl.out; rwa [Hvx.out] at this : val B64 l < 256 ^ (digs 256 (val B64 l)).length))
 have hYp : 0 < val B64 m := Nat.pos_of_ne_zero hY
 have hlx2 : (digs 256 (val B64 l)).length ≤ 8000000 := by omega
 have hly2 : (digs 256 (val B64 m)).length ≤ 8000000 := by omega
 have Hrn := zmZ (fun (R : Nat) (h : R < val B64 m) => (by
  have h2 := zd0 (zaS (b := 256) (by decide) (val B64 m))
  rw [Hvy.out] at h2
  exact zcs (by decide) (Nat.lt_trans h h2) : (digs 256 R).length ≤ (digs 256 (val B64 m)).length))
 clear hlx hly hyne
 generalize digs 256 (val B64 l) = xs at *
 generalize digs 256 (val B64 m) = ys at *
 have hsx := Hrx.out.sl
 have hmk := fun W => run_make_row' (P := Tryz.prog) 46 3 (.int .i64 0) 8 Tryz.underlying46 znk rfl .i64 .i64 xs.length (by omega) (by omega) W
 have HO0 := zmZ (show DvW w2 (w2.alloc (.cells (madeCells #[.int .i64 0] xs.length) 3)) (val B64 l) (val B64 m) (8 * xs.length) 0 w2.heap.size xs.length (List.replicate xs.length 0) none from
  ⟨Hst.out, by rw [← zbh]; exact Blk.new _ _ _, Rd.nil_ _ _, Below.of_alloc _ _⟩)
 go_wp2_with fail
 go_loopw [9, 10] (fun rv iv wr => ∃ (k R c' : Nat) (A' : Option Addr) (q : List Nat), k ≤ xs.length ∧ iv = .int .i64 ((k : Int) - 1) ∧ rv = .slice A' (digs 256 R).length c' ∧ (digs 256 R).length ≤ c' ∧ Hid (DvW w2 wr (val B64 l) (val B64 m) (8 * k) R w2.heap.size xs.length q A')) (fun _ iv _ => (intOf iv + 1).toNat)
 case atStart => exact ⟨xs.length, 0, 0, none, _, Nat.le_refl _, rfl, rfl, Nat.le_refl _, HO0⟩
 case round =>
  clear HO0 Hst hmk
  obtain ⟨k, R, c', A', q, hk, rfl, rfl, hc', HO⟩ := hrel
  obtain ⟨wo, rfl⟩ : ∃ wo : World, wo = wr := ⟨_, rfl⟩
  rcases k with _ | i
  ·obtain ⟨hq, hR⟩ := HO.out.inv.done
   have Hlq := zmZ (zn6 wo (some ⟨w2.heap.size, 0, none⟩) xs.length q (by rw [HO.out.inv.len]; omega) (by rw [HO.out.inv.len]; exact Nat.le_refl _) (Rd.of_blk HO.out.blk) HO.out.inv.lt)
   rw [hq, HO.out.inv.len] at Hlq
   have hRl := Hrn.out R (HO.out.inv.remlt hYp)
   have Hlr := zmZ (fun W (hW : Below wo.heap.size wo W) => zn6 W A' c' (digs 256 R) (by omega) hc' (HO.out.rd.below hW (Nat.le_refl _)) (zaS (by decide) _))
   rw [zag (by decide), hR] at Hlr
   have Hbl := zmZ (Hb2.out.trans (HO.out.below.mono Hb2.out.size))
   rw [← hR] at Hlr
   have HRe := zmZ hR
   clear hq hR hRl HO
   go_wp2_with fail
   refine Hlq.out.mono ?_
   rintro e w4 ⟨A4, c4, rfl, hc4, hr4, hb4, hf4⟩
   have Hl2 := zmZ (Hlr.out w4 hb4)
   have HC4 := zmZ hc4; have HR4 := zmZ hr4; have HB4 := zmZ hb4; have HF4 := zmZ hf4
   clear hc4 hr4 hb4 hf4 Hlq Hlr
   go_wp2_with fail
   refine Hl2.out.mono ?_
   rintro e w5 ⟨A5, c5, rfl, hc5, hr5, hb5, hf5⟩
   have HC5 := zmZ hc5; have HR5 := zmZ hr5; have HB5 := zmZ hb5; have HF5 := zmZ hf5
   clear hc5 hr5 hb5 hf5
   go_wp2_with fail
   go_ret2
   rw [← HRe.out]
   have hb6 := Hbl.out.trans (HB4.out.mono Hbl.out.size)
   exact ⟨A4, c4, A5, c5, rfl, HC4.out, HC5.out, HR4.out.below HB5.out (Nat.le_refl _), HR5.out, hb6.trans (HB5.out.mono hb6.size), fun j hj => Nat.le_trans Hbl.out.size (HF4.out j hj), fun j hj => Nat.le_trans hb6.size (HF5.out j hj)⟩
  ·have e1 : ((i + 1 : Nat) : Int) - 1 = (i : Int) := by omega
   rw [e1]
   go_wp2_with fail
   go_loopw [9, 11] (fun rv bv wr => ∃ (b R c' : Nat) (A' : Option Addr) (q : List Nat), b ≤ 8 ∧ bv = .int .i64 ((b : Int) - 1) ∧ rv = .slice A' (digs 256 R).length c' ∧ (digs 256 R).length ≤ c' ∧ Hid (DvW w2 wr (val B64 l) (val B64 m) (8 * i + b) R w2.heap.size xs.length q A')) (fun _ bv _ => (intOf bv + 1).toNat)
   case atStart => exact ⟨8, R, c', A', q, Nat.le_refl _, rfl, rfl, hc', HO⟩
   case round =>
    clear HO hc'
    obtain ⟨b, R, c', A', q, hb8, rfl, rfl, hc', HO⟩ := hrel
    rcases b with _ | b
    ·go_wp2_with fail
     go_roundw
     case rel => exact ⟨i, R, c', A', q, by omega, rfl, rfl, hc', HO⟩
     case measure => simp [intOf]
    ·have e2 : ((b + 1 : Nat) : Int) - 1 = (b : Int) := by omega
     rw [e2]
     have hcx := (Hrx.out.below HO.out.below (Nat.le_refl _)).cell i (by omega)
     have hix : i < xs.length := by omega
     have hn256 := zab (b := 256) (by decide) Hxl.out i
     have hbd := zpB Hxl.out i b hix (by omega)
     rw [Hvx.out] at hbd
     have hbit := zqO (nth xs i) b hn256
     rw [← hbd] at hbit
     have hB1 : bitOf (val B64 l) (8 * i + b) ≤ 1 := by rw [hbd]; omega
     have hRY := HO.out.inv.remlt hYp
     have hRl := Hrn.out R hRY
     have HN := zmZ (HO.out.inv.no (b := b) hYp)
     have HY := zmZ (HO.out.inv.yes (b := b) hYp hix (by omega))
     have hroom := HO.out.inv.room (b := b) hix (by omega)
     have HT := zmZ (znO wr A' c' (bitOf (val B64 l) (8 * i + b)) (digs 256 R) (by omega) HO.out.rd (zaS (by decide) _) hB1)
     rw [zag (by decide)] at HT
     have hR2 : (digs 256 (2 * R + bitOf (val B64 l) (8 * i + b))).length ≤ ys.length + 1 := by
      refine zcs (by decide) ?_
      have h2 := zd0 (b := 256) (xs := ys) Hyl.out
      rw [Hvy.out] at h2
      rw [Nat.pow_succ]
      omega
     clear hn256 hbd hB1
     generalize bitOf (val B64 l) (8 * i + b) = B0 at *
     go_wp2_with fail
     clear hbit
     refine HT.out.mono ?_
     rintro e w3 ⟨A3, c3, rfl, hc3, hr3, hb3, -⟩
     clear HT
     have HO3 := zmZ (show DvI (val B64 l) (val B64 m) (8 * i + (b + 1)) R q xs.length ∧ Blk w3 w2.heap.size 3 (ints .i64 q) ∧ Below w2.heap.size w2 w3 from ⟨HO.out.inv, HO.out.blk.below hb3 HO.out.blk.lt, HO.out.below.trans (hb3.mono HO.out.below.size)⟩)
     have hry3 := Hry.out.below HO3.out.2.2 (Nat.le_refl _)
     have hcm := zo3 w3 A3 A2 c3 c2 (digs 256 (2 * R + B0)) ys (by omega) (by omega) hr3 hry3 (zaS (by decide) _) Hyl.out (digs_tidy (by decide) _) Hyt.out
     rw [zag (by decide), Hvy.out] at hcm
     have HC := zmZ hcm
     have HR3 := zmZ hr3
     have HRy3 := zmZ hry3
     clear hr3 hb3 hry3 hcm HO
     by_cases hlt : 2 * R + B0 < val B64 m
     ·have HD := zmZ (HN.out hlt)
      rw [zco hlt] at HC
      clear HN HY hlt hRY hRl hroom
      generalize 2 * R + B0 = R2 at *
      go_wp2_with fail
      refine HC.out.mono ?_
      rintro e w4 ⟨rfl, z, rfl⟩
      go_wp2_with fail
      go_roundw
      case rel => exact ⟨b, R2, c3, A3, q, by omega, rfl, rfl, hc3, zmZ ⟨HD.out, HO3.out.2.1.drewN z, HR3.out.drewN z, Below.drewN HO3.out.2.2 z⟩⟩
      case measure => simp [intOf]
     ·have HD := zmZ (HY.out hlt)
      have tz : ¬ cmpN (2 * R + B0) (val B64 m) < 0 := by unfold cmpN; split; omega; split <;> decide
      have hyl : ys.length ≤ (digs 256 (2 * R + B0)).length := by
       have h3 := zd0 (zaS (b := 256) (by decide) (2 * R + B0))
       rw [zag (by decide)] at h3
       have h4 := zf2 (b := 256) (by decide) Hyl.out Hyt.out
       rw [h4, Hvy.out]
       exact zcs (by decide) (by omega)
      have HS := zmZ (fun z => zoA (w3.drewN z) A3 A2 c3 c2 (digs 256 (2 * R + B0)) ys (by omega) hyl (HR3.out.drewN z) (HRy3.out.drewN z) (zaS (by decide) _) Hyl.out (by rw [zag (by decide), Hvy.out]; omega))
      rw [zag (by decide), Hvy.out] at HS
      clear HN HY hlt hRY hRl hyl hR2
      generalize cmpN (2 * R + B0) (val B64 m) = cz at *
      generalize hrr : 2 * R + B0 - val B64 m = R3 at *
      clear hrr
      generalize 2 * R + B0 = R2 at *
      go_wp2_with fail
      refine HC.out.mono ?_
      rintro e w4 ⟨rfl, z, rfl⟩
      go_wp2_with fail
      refine (HS.out z).mono ?_
      rintro e w5 ⟨A5, c5, rfl, hc5, hr5, hb5, hf5⟩
      have HB5 := zmZ (HO3.out.2.1.below (Below.after (Below.drewN (Below.refl _ _) z) hb5) HO3.out.2.1.lt)
      have hql : i < q.length := by rw [HO3.out.1.len]; exact hix
      have hqc := HB5.out.cell i
      rw [zav .i64 q i hql] at hqc
      have hqf := HB5.out.frozen i
      clear HC HS HR3 HRy3
      have hw := zqv (nth q i) b (by omega) hroom
      have HB6 := HB5.out.set_ i (.int .i64 ((nth q i + 2 ^ b : Nat) : Int))
      rw [zaT] at HB6
      have hz3 : w2.heap.size < w3.heap.size := HO3.out.2.1.lt
      have HR6 := zmZ (zrv (a := ⟨w2.heap.size, i, none⟩) hr5 (fun j hj => Nat.le_trans hz3 (hf5 j hj)) (.int .i64 ((nth q i + 2 ^ b : Nat) : Int)))
      have hb6 : Below w2.heap.size w2 w5 := HO3.out.2.2.trans ((Below.after (Below.drewN (Below.refl _ _) z) hb5).mono (Nat.le_of_lt hz3))
      have HD6 := zmZ (hb6.setCell (p := ⟨w2.heap.size, i, none⟩) (Nat.le_refl _) (.int .i64 ((nth q i + 2 ^ b : Nat) : Int)))
      replace HB6 := zmZ HB6
      clear hr5 hb5 hf5 hb6 hz3
      go_wp2_with fail
      go_roundw
      case rel =>
       rw [show ((nth q i : Nat) : Int) + 2 ^ b = ((nth q i + 2 ^ b : Nat) : Int) from by simp]
       exact ⟨b, R3, c5, A5, _, by omega, rfl, rfl, hc5, zmZ ⟨HD.out, HB6.out, HR6.out, HD6.out⟩⟩
      case measure => simp [intOf]
end Go.Proofs.YtikmgoefjbhcjaaGreatDoor
