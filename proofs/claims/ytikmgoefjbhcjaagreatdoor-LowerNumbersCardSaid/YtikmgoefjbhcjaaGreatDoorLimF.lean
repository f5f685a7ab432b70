/-
 limbs: DivMod by one digit.
-/
import Derived.Test.YtikmgoefjbhcjaaGreatDoorLimE
namespace Go.Proofs.YtikmgoefjbhcjaaGreatDoor
set_option maxHeartbeats 1000000
open Go.RowKit

theorem zbo {a b : Nat} : cmpN a b < 0 ↔ a < b := by
 unfold cmpN; split
 ·simp; omega
 ·split
  ·simp; omega
  ·constructor <;> omega

set_option maxRecDepth 100000 in
theorem zgo (w : World) (A B : Option Addr) (c d : Nat) (l m : List Nat) (hl : l.length ≤ 17592186044000) (hm : m.length ≤ 17592186044000) (hlc : l.length ≤ c) (ha : Rd w .u64 A l) (hb : Rd w .u64 B m)
 (hx : ∀ x ∈ l, x < B64) (hy : ∀ x ∈ m, x < B64) (h1 : used m = 1) :
 Calls Tryz.prog 70 #[.slice A l.length c, .slice B m.length d] w (zga (digs B64 (val B64 l / val B64 m)) (digs B64 (val B64 l % val B64 m)) w) := by
 have hml := zar m
 have hll := zar l
 have hvm : val B64 m = nth m 0 := by
  rw [← zaV B64 m 1 (by omega)]; simp [valT]
 have hv0 : 0 < nth m 0 := by
  have h := (zb7 m).pos (b := B64) (by decide) (by intro e; have := za2 m; rw [e] at this; simp at this; omega)
  rw [zat, hvm] at h; exact h
 have hvl : nth m 0 < B64 := zab za0 hy 0
 have hsa := ha.sl; have hsb := hb.sl
 have hz := zao
 have Hvm := zmZ hvm
 have Ha := zmZ ha; have Hb := zmZ hb; have Hx := zmZ hx; have Hy := zmZ hy
 have hcell := hb.cell 0 (by omega)
 have hm0 : 0 < m.length := by omega
 have hul := zmZ (zaz w A c l (by omega) ha)
 have hum := zmZ (zaz w B d m (by omega) hb)
 rw [h1] at hum
 clear ha hb hx hy hvm h1 hml
 go_enter Tryz.func70, Tryz.ntmps70
 go_wp2_with fail
 refine hum.out.mono ?_
 rintro e w' ⟨rfl, rfl⟩
 go_wp2_with fail
 refine (zdr w A B c d l m (by omega) (by omega) Ha.out Hb.out Hx.out Hy.out).mono ?_
 rintro e w' ⟨rfl, q, rfl⟩
 by_cases hlt : val B64 l < val B64 m
 ·have hc : cmpN (val B64 l) (val B64 m) < 0 := zbo.2 hlt
  have Hfin : Hid (digs B64 (val B64 l / val B64 m) = [] ∧ digs B64 (val B64 l % val B64 m) = trim l) :=
   ⟨by rw [Nat.div_eq_of_lt hlt]; rfl, by rw [Nat.mod_eq_of_lt hlt, zaL (by decide) Hx.out]⟩
  clear hlt
  generalize cmpN (val B64 l) (val B64 m) = z at *
  go_wp2_with fail
  refine ((zbV _ A c l (by omega) (Ha.out.drewN q)).mono fun _ _ h => h.own (by rw [za2]; omega) (zb1 Hx.out)).mono ?_
  rintro e w1 ⟨A1, c1, rfl, ho1, hb1⟩
  have hc1 := ho1.len
  have hr1 := ho1.rd.1
  have HF := zmZ (And.intro ho1.rd.2 ho1)
  clear ho1
  have HB := zmZ hb1; have HR := zmZ hr1; have HC := zmZ hc1; clear hb1 hr1 hc1
  go_wp2_with fail
  go_ret2
  rw [Hfin.out.1, Hfin.out.2]
  exact ⟨none, 0, A1, c1, rfl, Nat.le_refl _, HC.out, Rd.nil_ _ _, HR.out, (Below.drewN (Below.refl _ _) q).trans HB.out, Fr.none_ _ _, HF.out⟩
 ·have hc : ¬ cmpN (val B64 l) (val B64 m) < 0 := fun h => hlt (zbo.1 h)
  clear hlt
  generalize cmpN (val B64 l) (val B64 m) = z at *
  have Hus := zmZ (fun W (hW : ∀ a, W.cell? a = w.cell? a) => zaz W A c l (by omega) (Ha.out.keep fun p _ => hW p))
  have Hsh := zmZ (fun W (hW : ∀ a, W.cell? a = w.cell? a) => zhy W A c (nth m 0) (trim l) (by rw [za2]; omega) ((Ha.out.keep fun p _ => hW p).take (used l)) (zb1 Hx.out) hv0 hvl)
  rw [za2, zat] at Hsh
  generalize used l = u at *
  generalize nth m 0 = y at *
  go_wp2_with fail
  go_region_with (first | (go_at_call 114; refine (Hus.out _ (by exact fun _ => rfl)).mono ?_; rintro e w' ⟨rfl, rfl⟩) | (go_at_call 116; refine (Hsh.out _ (by exact fun _ => rfl)).mono ?_; rintro e w1 ⟨A1, c1, A2, c2, rfl, hc1, hc2, hr1, hr2, hb1, hf1, hf2⟩; have HF := zmZ hf1; have HF2 := zmZ hf2; clear hf1 hf2; have HB := zmZ hb1; have HR := zmZ hr1; have HC := zmZ hc1; have HR2 := zmZ hr2; have HC2 := zmZ hc2; clear hb1 hr1 hc1 hr2 hc2))
  all_goals
   go_wp2_with fail
   go_ret2
   rw [Hvm.out]
   exact ⟨A1, c1, A2, c2, rfl, HC.out, HC2.out, HR.out, HR2.out, ⟨HB.out.os, HB.out.tape, HB.out.output, HB.out.size, HB.out.block⟩, HF.out, HF2.out⟩
end Go.Proofs.YtikmgoefjbhcjaaGreatDoor
