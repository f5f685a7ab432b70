/-
 limbs: DivMod by one digit.
-/
import Derived.Test.YtplhmeiciiajcaaGreatDoorLimE
namespace Go.Proofs.YtplhmeiciiajcaaGreatDoor
set_option maxHeartbeats 1000000
open Go.RowKit

theorem cmpN_neg {a b : Nat} : cmpN a b < 0 ↔ a < b := by
 unfold cmpN; split
 ·simp; omega
 ·split
  ·simp; omega
  ·constructor <;> omega

set_option maxRecDepth 100000 in
theorem divMod_one (w : World) (A B : Option Addr) (c d : Nat) (l m : List Nat) (hl : l.length ≤ 17592186044000) (hm : m.length ≤ 17592186044000) (hlc : l.length ≤ c) (ha : Rd w .u64 A l) (hb : Rd w .u64 B m)
 (hx : ∀ x ∈ l, x < B64) (hy : ∀ x ∈ m, x < B64) (h1 : used m = 1) :
 Calls Tryz.prog 83 #[.slice A l.length c, .slice B m.length d] w (RetL2 (digs B64 (val B64 l / val B64 m)) (digs B64 (val B64 l % val B64 m)) w) := by
 have hml := used_le m
 have hll := used_le l
 have hvm : val B64 m = nth m 0 := by
  rw [← valT_used B64 m 1 (by omega)]; simp [valT]
 have hv0 : 0 < nth m 0 := by
  have h := (trim_tidy m).pos (b := B64) (by decide) (by intro e; have := length_trim m; rw [e] at this; simp at this; omega)
  rw [val_trim, hvm] at h; exact h
 have hvl : nth m 0 < B64 := getD_lt B64_pos hy 0
 have hsa := ha.sl; have hsb := hb.sl
 have hz := size_u64
 have Hvm := Lib.hid hvm
 have Ha := Lib.hid ha; have Hb := Lib.hid hb; have Hx := Lib.hid hx; have Hy := Lib.hid hy
 have hcell := hb.cell 0 (by omega)
 have hm0 : 0 < m.length := by omega
 have hul := Lib.hid (used_any w A c l (by omega) ha)
 have hum := Lib.hid (used_any w B d m (by omega) hb)
 rw [h1] at hum
 clear ha hb hx hy hvm h1 hml
 go_enter Tryz.func83, Tryz.ntmps83
 go_wp2_with fail
 refine hum.out.mono ?_
 rintro e w' ⟨rfl, rfl⟩
 go_wp2_with fail
 refine (cmp_any w A B c d l m (by omega) (by omega) Ha.out Hb.out Hx.out Hy.out).mono ?_
 rintro e w' ⟨rfl, q, rfl⟩
 by_cases hlt : val B64 l < val B64 m
 ·have hc : cmpN (val B64 l) (val B64 m) < 0 := cmpN_neg.2 hlt
  have Hfin : Hid (digs B64 (val B64 l / val B64 m) = [] ∧ digs B64 (val B64 l % val B64 m) = trim l) :=
   ⟨by rw [Nat.div_eq_of_lt hlt]; rfl, by rw [Nat.mod_eq_of_lt hlt, trim_eq (by decide) Hx.out]⟩
  clear hlt
  generalize cmpN (val B64 l) (val B64 m) = z at *
  go_wp2_with fail
  refine ((trim_new _ A c l (by omega) (Ha.out.drewN q)).mono fun _ _ h => h.own (by rw [length_trim]; omega) (trim_lt Hx.out)).mono ?_
  rintro e w1 ⟨A1, c1, rfl, ho1, hb1⟩
  have hc1 := ho1.len
  have hr1 := ho1.rd.1
  have HF := Lib.hid (And.intro ho1.rd.2 ho1)
  clear ho1
  have HB := Lib.hid hb1; have HR := Lib.hid hr1; have HC := Lib.hid hc1; clear hb1 hr1 hc1
  go_wp2_with fail
  go_ret2
  rw [Hfin.out.1, Hfin.out.2]
  exact ⟨none, 0, A1, c1, rfl, Nat.le_refl _, HC.out, Rd.nil_ _ _, HR.out, (Below.drewN (Below.refl _ _) q).trans HB.out, Fr.none_ _ _, HF.out⟩
 ·have hc : ¬ cmpN (val B64 l) (val B64 m) < 0 := fun h => hlt (cmpN_neg.1 h)
  clear hlt
  generalize cmpN (val B64 l) (val B64 m) = z at *
  have Hus := Lib.hid (fun W (hW : ∀ a, W.cell? a = w.cell? a) => used_any W A c l (by omega) (Ha.out.keep fun p _ => hW p))
  have Hsh := Lib.hid (fun W (hW : ∀ a, W.cell? a = w.cell? a) => short_any W A c (nth m 0) (trim l) (by rw [length_trim]; omega) ((Ha.out.keep fun p _ => hW p).take (used l)) (trim_lt Hx.out) hv0 hvl)
  rw [length_trim, val_trim] at Hsh
  generalize used l = u at *
  generalize nth m 0 = y at *
  go_wp2_with fail
  go_region_with (first | (go_at_call 120; refine (Hus.out _ (by exact fun _ => rfl)).mono ?_; rintro e w' ⟨rfl, rfl⟩) | (go_at_call 129; refine (Hsh.out _ (by exact fun _ => rfl)).mono ?_; rintro e w1 ⟨A1, c1, A2, c2, rfl, hc1, hc2, hr1, hr2, hb1, hf1, hf2⟩; have HF := Lib.hid hf1; have HF2 := Lib.hid hf2; clear hf1 hf2; have HB := Lib.hid hb1; have HR := Lib.hid hr1; have HC := Lib.hid hc1; have HR2 := Lib.hid hr2; have HC2 := Lib.hid hc2; clear hb1 hr1 hc1 hr2 hc2))
  all_goals
   go_wp2_with fail
   go_ret2
   rw [Hvm.out]
   exact ⟨A1, c1, A2, c2, rfl, HC.out, HC2.out, HR.out, HR2.out, ⟨HB.out.os, HB.out.tape, HB.out.output, HB.out.size, HB.out.block⟩, HF.out, HF2.out⟩
end Go.Proofs.YtplhmeiciiajcaaGreatDoor
