/-
 lower.Lower. tripwireref14.Lower. tripwirelow: what is looked at (ShortRats, ShortVecs, SmallNet). Nets of numbers as nets of words; what stays small when a net is lowered. tripwirelaw14: whole, term, conv. tripwirelaw14.awake. tripwirelaw14.LowerTells.
-/
import Derived.Test.YtplhmeiciiajcaaGreatDoorNO
import Derived.Test.YtplhmeiciiajcaaGreatDoorMD
import Derived.Test.YtplhmeiciiajcaaGreatDoorNH
namespace Go.Proofs.YtplhmeiciiajcaaGreatDoor
set_option maxHeartbeats 16000000
open Go.RowKit

structure ConvS (l : LaV) : Prop where
 s : sidesP l
 pad : 0 ≤ l.pad ∧ l.pad < l.kh ∧ l.pad < l.kw
 h : 0 ≤ l.high + 2 * l.pad - l.kh ∧ 0 ≤ l.wide + 2 * l.pad - l.kw
 k : (l.kern.length : Int) = l.out * (l.ch * l.kh * l.kw)
 b : (l.bias.length : Int) = l.out
 u : l.out * rowsQ l * colsQ l ≤ 256
 e : l.kern.length ≤ 1000
def nRows (l : LaV) : Nat := (l.high.toNat + 2 * l.pad.toNat - l.kh.toNat) / l.st.toNat + 1
def nCols (l : LaV) : Nat := (l.wide.toNat + 2 * l.pad.toNat - l.kw.toNat) / l.st.toNat + 1
def convQ (l : LaV) : LQ := sumsQ l.ch.toNat l.high.toNat l.wide.toNat l.out.toNat l.kh.toNat l.kw.toNat l.st.toNat l.pad.toNat (nRows l) (nCols l) (l.kern.map Prod.snd) (l.bias.map Prod.snd)
def lowQ (l : LaV) : LQ := if l.kind = 2 then convQ l else sameQ l
structure LowOk (l : LaV) : Prop where
 s : LaS l
 r : ∀ v ∈ l.rows, Rise v.ts
 c : l.kind = 2 → ConvS l
theorem nat_of {z : Int} (h : 0 ≤ z) : ∃ n : Nat, z = n := ⟨z.toNat, by omega⟩
theorem fits_low {w : World} : ∀ {ls : List LaV} {N : Int}, FitsL w ls N → (∀ l ∈ ls, LaS l ∧ l.kern.length ≤ 1000) → ∀ l ∈ ls, LowOk l
 | [], _, _, _, l, hl => by cases hl
 | l :: ls, N, h, hs, x, hx => by
  rcases List.mem_cons.1 hx with rfl | hx
  ·obtain ⟨hF, hu, -⟩ := h
   have h1 := hs x (List.mem_cons_self ..)
   refine ⟨h1.1, fun v hv => ?_, fun hk => ?_⟩
   ·rcases hF with ⟨-, h⟩ | ⟨-, h⟩ | ⟨-, -, h, -⟩ | ⟨-, h⟩
    ·exact (h.er v hv).rise
    ·rw [h.e.1] at hv; cases hv
    ·rw [h] at hv; cases hv
    ·rw [h.r.1] at hv; cases hv
   ·rcases hF with ⟨h, -⟩ | ⟨-, h⟩ | ⟨h, -⟩ | ⟨h, -⟩
    ·omega
    ·unfold unitsQ at hu
     rw [if_neg (by omega), if_pos hk] at hu
     exact ⟨h.s, h.pad, h.h, h.k, h.b, hu, h1.2⟩
    ·omega
    ·omega
  ·exact fits_low h.2.2 (fun l hl => hs l (List.mem_cons_of_mem _ hl)) x hx
def ImpRes (P : Prop) (e : Ending) : Prop := ∃ B, e = .returned (.bool B) ∧ (B = true → P)
theorem impRes_no {P : Prop} : ImpRes P (.returned (.bool false)) := ⟨false, rfl, fun h => absurd h (by decide)⟩
theorem impRes_yes {P : Prop} (h : P) : ImpRes P (.returned (.bool true)) := ⟨true, rfl, fun _ => h⟩
def shR (d : Nat) (r : RV) : Prop := r.num.k ≤ d ∧ r.den.k ≤ d
set_option maxRecDepth 100000 in
theorem shortRat_lo (w : World) (r : RV) (d : Nat) (hk : ¬ r.num.k ≤ d) : Calls Tryz.prog 10 #[rA r, .int .i64 (d : Int)] w fun e w' => ImpRes (shR d r) e ∧ Below w.heap.size w w' := by
 have HE := Lib.hid (lyR r (Rests.pure trivial w _))
 have c := Env.c1 HE.out
 unfold rA
 go_enter Tryz.func10, Tryz.ntmps10
 have h9 : ¬ r.num.k ≤ d := hk
 go_wp2_with fail
 go_ret
 exact ⟨impRes_no, HE.out.bel⟩
set_option maxRecDepth 100000 in
theorem shortRat_hi (w : World) (r : RV) (d : Nat) (hk : r.num.k ≤ d) : Calls Tryz.prog 10 #[rA r, .int .i64 (d : Int)] w fun e w' => ImpRes (shR d r) e ∧ Below w.heap.size w w' := by
 have HE := Lib.hid (lyR r (Rests.pure trivial w _))
 have c := Env.c1 HE.out
 unfold rA
 go_enter Tryz.func10, Tryz.ntmps10
 have h9 : r.num.k ≤ d := hk
 go_wp2_with fail
 go_ret
 exact ⟨⟨_, rfl, fun h => ⟨by omega, by simpa using h⟩⟩, HE.out.bel⟩
theorem shortRat_any' (w : World) (r : RV) (d : Nat) : Calls Tryz.prog 10 #[rA r, .int .i64 (d : Int)] w fun e w' => ImpRes (shR d r) e ∧ Below w.heap.size w w' := by
 by_cases hk : r.num.k ≤ d
 ·exact shortRat_hi w r d hk
 ·exact shortRat_lo w r d hk
set_option maxRecDepth 100000 in
theorem short_rats (w : World) {ok : RV × Rat → World → Prop} (hok : ∀ p W, ok p W → Rests W (· < W.heap.size) (ok p)) (A : Option Addr) (c : Nat) (l : List (RV × Rat)) (h : LsR 4 rtcells ok A l w) (hl : l.length ≤ 9223372036854775807) (U d : Nat) (nl : Nat) (hnl : nl = l.length) :
 Calls Tryz.prog 9 #[.slice A nl c, .int .i64 (U : Int), .int .i64 (d : Int)] w fun e w' => ImpRes (l.length ≤ U ∧ ∀ p ∈ l, shR d p.1) e ∧ Below w.heap.size w w' := by
 have sl1 := h.sl
 rw [← hnl] at sl1
 have hsz2 := size_rats
 have hadd := adr_add
 have hnb : nl ≤ 9223372036854775807 := by omega
 have Hn := Lib.hid hnl
 have Ho := Lib.hid (h.old hok)
 have Hb := Lib.hid (Below.refl w.heap.size w)
 clear h hnl hl
 go_enter Tryz.func9, Tryz.ntmps9
 go_upto_region 1 with fail
 by_cases q0 : U < nl
 ·go_wp2_with fail
  go_ret
  exact ⟨impRes_no, Hb.out⟩
 ·have H0 := Lib.hid q0
  go_wp2_with fail
  clear q0
  go_loopw [7] (fun iv wr => ∃ i : Nat, iv = .int .i64 (i : Int) ∧ i ≤ nl ∧ Hid (∀ p ∈ l.take i, shR d p.1) ∧ Hid (Below w.heap.size w wr)) (fun iv _ => nl - (intOf iv).toNat)
  case atStart => exact ⟨0, rfl, Nat.zero_le _, Lib.hid (by simp), Hb⟩
  case round =>
   clear Hb
   obtain ⟨i, rfl, hi, HP, Hb⟩ := hrel
   by_cases hlt : i < nl
   ·have hlt2 : i < l.length := by rw [← Hn.out]; exact hlt
    have HL := Lib.hid (Ho.out.below Hb.out).now
    have c0 := HL.out.rc i hlt2
    obtain ⟨v, hv⟩ : ∃ v, v = l[i] := ⟨_, rfl⟩
    rw [← hv] at c0
    have Hv := Lib.hid hv
    have Hm := Lib.hid (show v ∈ l by rw [hv]; exact List.getElem_mem hlt2)
    clear hv
    go_wp2_with fail
    refine (shortRat_any' _ v.1 d).mono ?_
    rintro e w3 ⟨⟨B, rfl, hB⟩, hb⟩
    have HB := Lib.hid hB
    replace Hb := Lib.hid (Below.after Hb.out hb)
    clear hb hB c0
    cases B
    ·go_wp2_with fail
     go_ret
     exact ⟨impRes_no, Hb.out⟩
    ·go_wp2_with fail
     go_roundw
     case rel => exact ⟨i + 1, by go_num, by omega, Lib.hid (all_take' HP.out hlt2 (by rw [← Hv.out]; exact HB.out (by first | rfl | trivial))), Hb⟩
     case measure => (simp [intOf] <;> omega)
   ·obtain rfl : i = nl := by omega
    have HP2 := Lib.hid (show ∀ p ∈ l, shR d p.1 by have := HP.out; rw [Hn.out, List.take_length] at this; exact this)
    go_wp2_with fail
    go_ret
    exact ⟨impRes_yes ⟨by have := H0.out; have := Hn.out; omega, HP2.out⟩, Hb.out⟩
set_option maxRecDepth 100000 in
theorem short_vec (w : World) {ok : TeV → World → Prop} (hok : ∀ p W, ok p W → Rests W (· < W.heap.size) (ok p)) (A : Option Addr) (c : Nat) (l : List (TeV)) (h : LsR 5 tecells ok A l w) (hl : l.length ≤ 9223372036854775807) (U d : Nat) (nl : Nat) (hnl : nl = l.length) :
 Calls Tryz.prog 90 #[.slice A nl c, .int .i64 (U : Int), .int .i64 (d : Int)] w fun e w' => ImpRes (l.length ≤ U ∧ ∀ p ∈ l, shR d p.r) e ∧ Below w.heap.size w w' := by
 have sl1 := h.sl
 rw [← hnl] at sl1
 have hsz2 := size_terms
 have hadd := adr_add
 have hnb : nl ≤ 9223372036854775807 := by omega
 have Hn := Lib.hid hnl
 have Ho := Lib.hid (h.old hok)
 have Hb := Lib.hid (Below.refl w.heap.size w)
 clear h hnl hl
 go_enter Tryz.func90, Tryz.ntmps90
 go_upto_region 1 with fail
 by_cases q0 : U < nl
 ·go_wp2_with fail
  go_ret
  exact ⟨impRes_no, Hb.out⟩
 ·have H0 := Lib.hid q0
  go_wp2_with fail
  clear q0
  go_loopw [7] (fun iv wr => ∃ i : Nat, iv = .int .i64 (i : Int) ∧ i ≤ nl ∧ Hid (∀ p ∈ l.take i, shR d p.r) ∧ Hid (Below w.heap.size w wr)) (fun iv _ => nl - (intOf iv).toNat)
  case atStart => exact ⟨0, rfl, Nat.zero_le _, Lib.hid (by simp), Hb⟩
  case round =>
   clear Hb
   obtain ⟨i, rfl, hi, HP, Hb⟩ := hrel
   by_cases hlt : i < nl
   ·have hlt2 : i < l.length := by rw [← Hn.out]; exact hlt
    have HL := Lib.hid (Ho.out.below Hb.out).now
    have c0 := HL.out.tc i hlt2
    obtain ⟨v, hv⟩ : ∃ v, v = l[i] := ⟨_, rfl⟩
    rw [← hv] at c0
    have Hv := Lib.hid hv
    have Hm := Lib.hid (show v ∈ l by rw [hv]; exact List.getElem_mem hlt2)
    clear hv
    go_wp2_with fail
    refine (shortRat_any' _ v.r d).mono ?_
    rintro e w3 ⟨⟨B, rfl, hB⟩, hb⟩
    have HB := Lib.hid hB
    replace Hb := Lib.hid (Below.after Hb.out hb)
    clear hb hB c0
    cases B
    ·go_wp2_with fail
     go_ret
     exact ⟨impRes_no, Hb.out⟩
    ·go_wp2_with fail
     go_roundw
     case rel => exact ⟨i + 1, by go_num, by omega, Lib.hid (all_take' HP.out hlt2 (by rw [← Hv.out]; exact HB.out (by first | rfl | trivial))), Hb⟩
     case measure => (simp [intOf] <;> omega)
   ·obtain rfl : i = nl := by omega
    have HP2 := Lib.hid (show ∀ p ∈ l, shR d p.r by have := HP.out; rw [Hn.out, List.take_length] at this; exact this)
    go_wp2_with fail
    go_ret
    exact ⟨impRes_yes ⟨by have := H0.out; have := Hn.out; omega, HP2.out⟩, Hb.out⟩
set_option maxRecDepth 100000 in
theorem short_vecs (w : World) {ok : TeV → World → Prop} (hte : ∀ p W, ok p W → Rests W (· < W.heap.size) (ok p)) (A : Option Addr) (c : Nat) (l : List (VeV)) (h : LsR 1 vecells (veF ok) A l w) (hl : l.length ≤ 9223372036854775807) (U V d : Nat) (hv : ∀ v ∈ l, v.ts.length ≤ 9223372036854775807) (nl : Nat) (hnl : nl = l.length) :
 Calls Tryz.prog 50 #[.slice A nl c, .int .i64 (U : Int), .int .i64 (V : Int), .int .i64 (d : Int)] w fun e w' => ImpRes (l.length ≤ U ∧ ∀ p ∈ l, (p.ts.length ≤ V ∧ ∀ t ∈ p.ts, shR d t.r)) e ∧ Below w.heap.size w w' := by
 have sl1 := h.sl
 rw [← hnl] at sl1
 have hsz2 := size_cols
 have hadd := adr_add
 have hnb : nl ≤ 9223372036854775807 := by omega
 have Hn := Lib.hid hnl
 have Hv2 := Lib.hid hv
 clear hv
 have Ho := Lib.hid (h.old (veF_old hte))
 have Hb := Lib.hid (Below.refl w.heap.size w)
 clear h hnl hl
 go_enter Tryz.func50, Tryz.ntmps50
 go_upto_region 1 with fail
 by_cases q0 : U < nl
 ·go_wp2_with fail
  go_ret
  exact ⟨impRes_no, Hb.out⟩
 ·have H0 := Lib.hid q0
  go_wp2_with fail
  clear q0
  go_loopw [9] (fun iv wr => ∃ i : Nat, iv = .int .i64 (i : Int) ∧ i ≤ nl ∧ Hid (∀ p ∈ l.take i, (p.ts.length ≤ V ∧ ∀ t ∈ p.ts, shR d t.r)) ∧ Hid (Below w.heap.size w wr)) (fun iv _ => nl - (intOf iv).toNat)
  case atStart => exact ⟨0, rfl, Nat.zero_le _, Lib.hid (by simp), Hb⟩
  case round =>
   clear Hb
   obtain ⟨i, rfl, hi, HP, Hb⟩ := hrel
   by_cases hlt : i < nl
   ·have hlt2 : i < l.length := by rw [← Hn.out]; exact hlt
    have HL := Lib.hid (Ho.out.below Hb.out).now
    have c0 := HL.out.vc i hlt2
    obtain ⟨v, hv⟩ : ∃ v, v = l[i] := ⟨_, rfl⟩
    rw [← hv] at c0
    have Hv := Lib.hid hv
    have Hm := Lib.hid (show v ∈ l by rw [hv]; exact List.getElem_mem hlt2)
    clear hv
    go_wp2_with fail
    refine (short_vec _ hte v.A v.c v.ts (HL.out.ok v Hm.out) (Hv2.out v Hm.out) V d _ rfl).mono ?_
    rintro e w3 ⟨⟨B, rfl, hB⟩, hb⟩
    have HB := Lib.hid hB
    replace Hb := Lib.hid (Below.after Hb.out hb)
    clear hb hB c0
    cases B
    ·go_wp2_with fail
     go_ret
     exact ⟨impRes_no, Hb.out⟩
    ·go_wp2_with fail
     go_roundw
     case rel => exact ⟨i + 1, by go_num, by omega, Lib.hid (all_take' HP.out hlt2 (by rw [← Hv.out]; exact HB.out (by first | rfl | trivial))), Hb⟩
     case measure => (simp [intOf] <;> omega)
   ·obtain rfl : i = nl := by omega
    have HP2 := Lib.hid (show ∀ p ∈ l, (p.ts.length ≤ V ∧ ∀ t ∈ p.ts, shR d t.r) by have := HP.out; rw [Hn.out, List.take_length] at this; exact this)
    go_wp2_with fail
    go_ret
    exact ⟨impRes_yes ⟨by have := H0.out; have := Hn.out; omega, HP2.out⟩, Hb.out⟩
structure SmL (U d : Nat) (l : LaV) : Prop where
 rows : l.rows.length ≤ U ∧ ∀ v ∈ l.rows, v.ts.length ≤ U ∧ ∀ t ∈ v.ts, shR d t.r
 bias : l.bias.length ≤ U ∧ ∀ p ∈ l.bias, shR d p.1
 kern : l.kern.length ≤ 4 * U ∧ ∀ p ∈ l.kern, shR d p.1
 grs : l.grs.length ≤ U
 dims : l.out ≤ U ∧ l.ch ≤ U ∧ l.high ≤ U ∧ l.wide ≤ U
 gr : ∀ g ∈ l.grs, g.l.length ≤ U
structure LaM (l : LaV) : Prop where
 rows : l.rows.length ≤ 9223372036854775807
 row : ∀ v ∈ l.rows, v.ts.length ≤ 9223372036854775807
 bias : l.bias.length ≤ 9223372036854775807
 kern : l.kern.length ≤ 9223372036854775807
 grs : l.grs.length ≤ 9223372036854775807
 gr : ∀ g ∈ l.grs, g.l.length ≤ 9223372036854775807
 gc : ∀ g ∈ l.grs, g.l.length ≤ g.c
set_option maxRecDepth 100000 in
theorem smallNet_any (w : World) (n : Nat) (f : NeV) (h : NeD n f w) (hm : ∀ l ∈ f.las, LaM l) (hml : f.las.length ≤ 9223372036854775807) (X U d : Nat) (hU : U ≤ 1000) (nl : Nat) (hnl : nl = f.las.length) : Calls Tryz.prog 26 #[.agg #[.int .i64 f.inputs, .slice f.A nl f.c], .int .i64 (X : Int), .int .i64 (U : Int), .int .i64 (d : Int)] w fun e w' => ImpRes (f.las.length ≤ X ∧ ∀ l ∈ f.las, SmL U d l) e ∧ Below w.heap.size w w' := by
 have sl1 := h.sl
 rw [← hnl] at sl1
 have hsz1 := size_las
 have hszg := size_grs
 have hszi := size_ints
 have hadd := adr_add
 have hnb : nl ≤ 9223372036854775807 := by omega
 have Hl := Lib.hid hnl
 have Hm := Lib.hid hm
 obtain ⟨W0, hW0⟩ : ∃ W0, W0 = (w.alloc (.cells #[.int .i64 f.inputs, .slice f.A nl f.c] 24)) := ⟨_, rfl⟩
 have HE := Lib.hid (Env.lay1 (Env.start (h.old)) hW0)
 subst hW0
 have c := Env.c1 HE.out
 clear h hnl hm
 go_enter Tryz.func26, Tryz.ntmps26
 go_upto_region 1 with fail
 by_cases q0 : X < nl
 ·go_wp2_with fail
  go_ret
  exact ⟨impRes_no, HE.out.bel⟩
 ·have H0 := Lib.hid q0
  go_wp2_with fail
  clear q0 c
  go_loopw [9] (fun iv wr => ∃ i : Nat, iv = .int .i64 (i : Int) ∧ i ≤ nl ∧ Hid (∀ l ∈ f.las.take i, SmL U d l) ∧ Hid (Env w [⟨w.heap.size, 24, #[.int .i64 f.inputs, .slice f.A nl f.c]⟩] (NeD n f) (fun _ => True) wr)) (fun iv _ => nl - (intOf iv).toNat)
  case atStart => exact ⟨0, rfl, Nat.zero_le _, Lib.hid (by simp), HE⟩
  case round =>
   clear HE
   obtain ⟨i, rfl, hi, HP, HE⟩ := hrel
   have c := Env.c1 HE.out
   by_cases hlt : i < nl
   ·have hlt2 : i < f.las.length := by rw [← Hl.out]; exact hlt
    have cl := HE.out.o.lac i hlt2
    obtain ⟨l, hl⟩ : ∃ l, l = f.las[i] := ⟨_, rfl⟩
    rw [← hl] at cl
    have Hv := Lib.hid hl
    have Hmm := Lib.hid (show l ∈ f.las by rw [hl]; exact List.getElem_mem hlt2)
    clear hl
    have HLM := Lib.hid (Hm.out l Hmm.out)
    obtain ⟨nr, hnr⟩ : ∃ k, k = l.rows.length := ⟨_, rfl⟩
    obtain ⟨nb, hnbb⟩ : ∃ k, k = l.bias.length := ⟨_, rfl⟩
    obtain ⟨nk, hnk⟩ : ∃ k, k = l.kern.length := ⟨_, rfl⟩
    obtain ⟨ng, hng⟩ : ∃ k, k = l.grs.length := ⟨_, rfl⟩
    dsimp only [LC] at cl
    rw [← hnr, ← hnbb, ← hnk, ← hng] at cl
    have Hnr := Lib.hid hnr
    have Hnb := Lib.hid hnbb
    have Hnk := Lib.hid hnk
    have Hng := Lib.hid hng
    have slg := (HE.out.o.ok l Hmm.out).grs.sl
    rw [← hng] at slg
    have hngb : ng ≤ 9223372036854775807 := by rw [hng]; exact HLM.out.grs
    clear hnr hnbb hnk hng
    go_upto_region 7 with fail
    obtain ⟨W2, gl, hW2, hgl, HE2⟩ := Env.al HE.out 42 #[.int .u8 l.kind, .slice l.Ar nr l.cr, .slice l.Ab nb l.cb, .int .i64 l.ch, .int .i64 l.high, .int .i64 l.wide, .int .i64 l.out, .int .i64 l.kh, .int .i64 l.kw, .int .i64 l.st, .int .i64 l.pad, .slice l.Ak nk l.ck, .slice l.Ag ng l.cg]
    rw [hW2, hgl]
    clear hW2 hgl cl c
    have c := Env.c2 HE2.out
    go_wp2_with fail
    refine (short_vecs _ teD_old l.Ar l.cr l.rows (HE2.out.o.ok l Hmm.out).rows HLM.out.rows U U d HLM.out.row nr Hnr.out).mono ?_
    rintro e w3 ⟨⟨B, rfl, hB⟩, hb⟩
    have HB1 := Lib.hid hB
    replace HE2 := Lib.hid (Env.call HE2.out hb)
    replace c := Env.c2 HE2.out
    clear hb hB
    cases B
    ·go_wp2_with fail
     go_ret
     exact ⟨impRes_no, HE2.out.bel⟩
    ·go_wp2_with fail
     refine (short_rats _ roD_old l.Ab l.cb l.bias (HE2.out.o.ok l Hmm.out).bias HLM.out.bias U d nb Hnb.out).mono ?_
     rintro e w3 ⟨⟨B, rfl, hB⟩, hb⟩
     have HB2 := Lib.hid hB
     replace HE2 := Lib.hid (Env.call HE2.out hb)
     replace c := Env.c2 HE2.out
     clear hb hB
     cases B
     ·go_wp2_with fail
      go_ret
      exact ⟨impRes_no, HE2.out.bel⟩
     ·have hw4 : IntKind.i64.wrap (4 * (U : Int)) = ((4 * U : Nat) : Int) := by rw [IntKind.wrap_i64]; omega
      obtain ⟨U4, hU4⟩ : ∃ k, k = 4 * U := ⟨_, rfl⟩
      rw [← hU4] at hw4
      have HU4 := Lib.hid hU4
      clear hU4
      go_wp2_with fail
      refine (short_rats _ roD_old l.Ak l.ck l.kern (HE2.out.o.ok l Hmm.out).kern HLM.out.kern U4 d nk Hnk.out).mono ?_
      rintro e w3 ⟨⟨B, rfl, hB⟩, hb⟩
      have HB3 := Lib.hid hB
      replace HE2 := Lib.hid (Env.call HE2.out hb)
      replace c := Env.c2 HE2.out
      clear hb hB
      cases B
      ·go_wp2_with fail
       go_ret
       exact ⟨impRes_no, HE2.out.bel⟩
      ·have hsk := trivial
       clear hsk
       by_cases q1 : U < ng
       ·go_wp2_with fail
        go_ret
        exact ⟨impRes_no, HE2.out.bel⟩
       ·have hsk := trivial
        clear hsk
        by_cases q2 : l.out > (U : Int)
        ·go_wp2_with fail
         go_ret
         exact ⟨impRes_no, HE2.out.bel⟩
        ·have hsk := trivial
         clear hsk
         by_cases q3 : l.ch > (U : Int)
         ·go_wp2_with fail
          go_ret
          exact ⟨impRes_no, HE2.out.bel⟩
         ·have hsk := trivial
          clear hsk
          by_cases q4 : l.high > (U : Int)
          ·go_wp2_with fail
           go_ret
           exact ⟨impRes_no, HE2.out.bel⟩
          ·have hsk := trivial
           clear hsk
           by_cases q5 : l.wide > (U : Int)
           ·go_wp2_with fail
            go_ret
            exact ⟨impRes_no, HE2.out.bel⟩
           ·have hsk := trivial
            clear hsk
            have R0 := Lib.hid q1
            have R1 := Lib.hid (And.intro q2 (And.intro q3 (And.intro q4 q5)))
            go_wp2_with fail
            clear q1 q2 q3 q4 q5 c
            go_loopw [11] (fun iv wr => ∃ j : Nat, iv = .int .i64 (j : Int) ∧ j ≤ ng ∧ Hid (∀ g ∈ l.grs.take j, g.l.length ≤ U) ∧ Hid (Env w [⟨gl, 42, #[.int .u8 l.kind, .slice l.Ar nr l.cr, .slice l.Ab nb l.cb, .int .i64 l.ch, .int .i64 l.high, .int .i64 l.wide, .int .i64 l.out, .int .i64 l.kh, .int .i64 l.kw, .int .i64 l.st, .int .i64 l.pad, .slice l.Ak nk l.ck, .slice l.Ag ng l.cg]⟩, ⟨w.heap.size, 24, #[.int .i64 f.inputs, .slice f.A nl f.c]⟩] (NeD n f) (fun _ => True) wr)) (fun iv _ => ng - (intOf iv).toNat)
            case atStart => exact ⟨0, rfl, Nat.zero_le _, Lib.hid (by simp), HE2⟩
            case round =>
             clear HE HE2
             obtain ⟨j, rfl, hj, HG, HE⟩ := hrel
             have c := Env.c2 HE.out
             by_cases hlj : j < ng
             ·have hlj2 : j < l.grs.length := by rw [← Hng.out]; exact hlj
              have cg := (HE.out.o.ok l Hmm.out).grs.gc j hlj2
              obtain ⟨g, hg⟩ : ∃ g, g = l.grs[j] := ⟨_, rfl⟩
              rw [← hg] at cg
              have Hg := Lib.hid hg
              clear hg
              obtain ⟨k, hk⟩ : ∃ k, k = g.l.length := ⟨_, rfl⟩
              rw [← hk] at cg
              have Hk := Lib.hid hk
              clear hk
              by_cases q6 : U < k
              ·go_wp2_with fail
               go_ret
               exact ⟨impRes_no, HE.out.bel⟩
              ·have H6 := Lib.hid q6
               go_wp2_with fail
               go_roundw
               case rel => exact ⟨j + 1, by go_num, by omega, Lib.hid (all_take' HG.out hlj2 (by rw [← Hg.out, ← Hk.out]; have := H6.out; omega)), HE⟩
               case measure => (simp [intOf] <;> omega)
             ·obtain rfl : j = ng := by omega
              have HG2 := Lib.hid (show ∀ g ∈ l.grs, g.l.length ≤ U by have := HG.out; rw [Hng.out, List.take_length] at this; exact this)
              go_wp2_with fail
              go_roundw
              case rel => exact ⟨i + 1, by go_num, by omega, Lib.hid (all_take' HP.out hlt2 (by rw [← Hv.out]; exact ⟨HB1.out (by first | rfl | trivial), HB2.out (by first | rfl | trivial), by have h9 := HB3.out (by first | rfl | trivial); rw [HU4.out] at h9; exact h9, by have := R0.out; have := Hng.out; omega, by have := R1.out; omega, HG2.out⟩)), Lib.hid HE.out.drop⟩
              case measure => (simp [intOf] <;> omega)
   ·obtain rfl : i = nl := by omega
    have HP2 := Lib.hid (show ∀ l ∈ f.las, SmL U d l by have := HP.out; rw [Hl.out, List.take_length] at this; exact this)
    go_wp2_with fail
    go_ret
    exact ⟨impRes_yes ⟨by have := H0.out; have := Hl.out; omega, HP2.out⟩, HE.out.bel⟩

def wdN (q : Rat) : Wd := ⟨decide (q.num < 0), decide (dn q < 0), digs B64 q.num.natAbs, digs B64 (dn q).natAbs⟩
theorem dn_lt {q : Rat} {n : Nat} (hs : Sz q n) : (dn q).natAbs < B64 ^ n := by
 unfold dn
 split
 ·exact Nat.pow_pos B64_pos
 ·rw [Int.natAbs_natCast]; exact hs.2
theorem RatN.w {r : RV} {q : Rat} {V : World} {n : Nat} (h : RatN r q V) (hs : Sz q n) (hn : n ≤ 1000000) : RawW r (wdN q) V :=
 ⟨⟨h.num.neg, h.num.k, h.num.rd, h.den.neg, h.den.k, h.den.rd⟩, Nat.le_trans (dlen_le hs.1) hn, Nat.le_trans (dlen_le (dn_lt hs)) hn⟩
theorem RatD.w {r : RV} {q : Rat} {V : World} {n : Nat} (h : RatD r q n V) (hn : n ≤ 1000000) : ∃ x : Wd, RawW r x V := by
 obtain ⟨x, d, ⟨⟨l, hk, hr, -, -⟩, -, hl⟩, ⟨⟨m, mk, mr, -, -⟩, -, ml⟩, -⟩ := h.ex
 exact ⟨⟨r.num.neg, r.den.neg, l, m⟩, ⟨rfl, hk, hr, rfl, mk, mr⟩, by dsimp only; omega, by dsimp only; omega⟩
theorem RatD.short {r : RV} {q : Rat} {V : World} {n d : Nat} (h : RatD r q n V) (hs : shR d r) : RatD r q d V := by
 obtain ⟨x, y, hx, hy, e⟩ := h.ex
 exact ⟨⟨x, y, ⟨hx.ex, hx.cap, hs.1⟩, ⟨hy.ex, hy.cap, hs.2⟩, e⟩⟩
theorem words (V : World) : ∃ g : RV → Wd, ∀ r, (∃ x, RawW r x V) → RawW r (g r) V := by
 refine Classical.axiomOfChoice (r := fun r y => (∃ x, RawW r x V) → RawW r y V) fun r => ?_
 by_cases h : ∃ x, RawW r x V
 ·obtain ⟨x, hx⟩ := h
  exact ⟨x, fun _ => hx⟩
 ·exact ⟨⟨false, false, [], []⟩, fun h' => absurd h' h⟩
def laF (f : RV → Rat → Wd) (l : LaV) : LaW :=
 ⟨l.kind, l.Ar, l.cr, l.rows.map fun v => ⟨v.A, v.c, v.ts.map fun t => ⟨t.pl, t.r, f t.r t.q⟩⟩, l.Ab, l.cb, l.bias.map fun p => (p.1, f p.1 p.2), l.ch, l.high, l.wide, l.out, l.kh, l.kw, l.st, l.pad, l.Ak, l.ck, l.kern.map fun p => (p.1, f p.1 p.2), l.Ag, l.cg, l.grs⟩
theorem laF_cells (f : RV → Rat → Wd) (l : LaV) : lacells (laF f l) = lacells l := by simp [lacells, laF]
theorem num_F {f : RV → Rat → Wd} {okR : RV × Rat → World → Prop} {A : Option Addr} {ps : List (RV × Rat)} {V : World} (h : LsR 4 rtcells okR A ps V) (hp : ∀ p ∈ ps, okR p V → RawW p.1 (f p.1 p.2) V) : LsR 4 nwcells nwD A (ps.map fun p => (p.1, f p.1 p.2)) V := by
 refine ⟨?_, fun x hx => ?_⟩
 ·have e : (ps.map fun p => ((p.1, f p.1 p.2) : RV × Wd)).map nwcells = ps.map rtcells := by rw [List.map_map]; rfl
  rw [e]; exact h.el
 ·obtain ⟨p, hm, rfl⟩ := List.mem_map.1 hx
  exact hp p hm (h.ok p hm)
theorem vec_F {f : RV → Rat → Wd} {okT : TeV → World → Prop} {A : Option Addr} {ts : List TeV} {V : World} (h : LsR 5 tecells okT A ts V) (hp : ∀ t ∈ ts, okT t V → RawW t.r (f t.r t.q) V) : LsR 5 twcells twD A (ts.map fun t => ⟨t.pl, t.r, f t.r t.q⟩) V := by
 refine ⟨?_, fun x hx => ?_⟩
 ·have e : (ts.map fun t => (⟨t.pl, t.r, f t.r t.q⟩ : TwV)).map twcells = ts.map tecells := by rw [List.map_map]; rfl
  rw [e]; exact h.el
 ·obtain ⟨p, hm, rfl⟩ := List.mem_map.1 hx
  exact hp p hm (h.ok p hm)
theorem laF_D {f : RV → Rat → Wd} {okT : TeV → World → Prop} {okR : RV × Rat → World → Prop} {l : LaV} {V : World} (h : LaF okT okR l V) (hT : ∀ v ∈ l.rows, ∀ t ∈ v.ts, okT t V → RawW t.r (f t.r t.q) V) (hB : ∀ p ∈ l.bias, okR p V → RawW p.1 (f p.1 p.2) V) (hK : ∀ p ∈ l.kern, okR p V → RawW p.1 (f p.1 p.2) V) : LwD (laF f l) V := by
 refine ⟨⟨?_, fun x hx => ?_⟩, num_F h.bias hB, num_F h.kern hK, h.grs⟩
 ·have e : (l.rows.map fun v => (⟨v.A, v.c, v.ts.map fun t => ⟨t.pl, t.r, f t.r t.q⟩⟩ : VwV)).map vwcells = l.rows.map vecells := by
   rw [List.map_map]
   exact List.map_congr_left fun v _ => by simp [vwcells, vecells]
  show El V 1 l.Ar _
  exact e ▸ h.rows.el
 ·obtain ⟨v, hm, rfl⟩ := List.mem_map.1 hx
  exact vec_F (show LsR 5 tecells okT v.A v.ts V from h.rows.ok v hm) (hT v hm)
def neF (f : RV → Rat → Wd) (n : NeV) : NeW := ⟨n.inputs, n.A, n.c, n.las.map (laF f)⟩
theorem las_F {f : RV → Rat → Wd} {A : Option Addr} {ls : List LaV} {V : World} (h : El V 13 A (ls.map lacells)) (hl : ∀ l ∈ ls, LwD (laF f l) V) : LsR 13 lacells LwD A (ls.map (laF f)) V := by
 refine ⟨?_, fun x hx => ?_⟩
 ·have e : (ls.map (laF f)).map lacells = ls.map lacells := by
   rw [List.map_map]
   exact List.map_congr_left fun l _ => laF_cells f l
  rw [e]; exact h
 ·obtain ⟨l, hm, rfl⟩ := List.mem_map.1 hx
  exact hl l hm
def LQ.w (q : LQ) : WQ := ⟨q.kind, q.rows.map (fun r => r.map fun p => (p.1, wdN p.2)), q.bias.map wdN, q.dims, q.kern.map wdN, q.grs⟩
def fN (_ : RV) (q : Rat) : Wd := wdN q
structure LQ.Sz' (n : Nat) (q : LQ) : Prop where
 rows : ∀ r ∈ q.rows, ∀ p ∈ r, Sz p.2 n
 bias : ∀ x ∈ q.bias, Sz x n
 kern : ∀ x ∈ q.kern, Sz x n
theorem LaN.w {l : LaV} {V : World} {n : Nat} (h : LaN l V) (hs : l.q.Sz' n) (hn : n ≤ 1000000) : LwD (laF fN l) V :=
 laF_D h (fun v hv t ht ht' => RatN.w ht' (hs.rows (v.ts.map plq) (List.mem_map_of_mem (f := fun v : VeV => v.ts.map plq) hv) (plq t) (List.mem_map_of_mem (f := plq) ht)) hn)
  (fun p hp hp' => RatN.w hp' (hs.bias p.2 (List.mem_map_of_mem (f := Prod.snd) hp)) hn) (fun p hp hp' => RatN.w hp' (hs.kern p.2 (List.mem_map_of_mem (f := Prod.snd) hp)) hn)
theorem LaD.w {l : LaV} {V : World} {n : Nat} {g : RV → Wd} (hg : ∀ r, (∃ x, RawW r x V) → RawW r (g r) V) (h : LaD n l V) (hn : n ≤ 1000000) : LwD (laF (fun r _ => g r) l) V :=
 laF_D h (fun _ _ _ _ ht' => hg _ (RatD.w ht' hn)) (fun _ _ hp' => hg _ (RatD.w hp' hn)) (fun _ _ hp' => hg _ (RatD.w hp' hn))
theorem NeD.w {f : NeV} {V : World} {n : Nat} (h : NeD n f V) (hn : n ≤ 1000000) : ∃ g : RV → Wd, NwD (neF (fun r _ => g r) f) V := by
 obtain ⟨g, hg⟩ := words V
 exact ⟨g, las_F h.el fun l hl => LaD.w hg (h.ok l hl) hn⟩
theorem LaD.sz {l : LaV} {V : World} {n : Nat} (h : LaD n l V) (h1 : 1 ≤ n) : l.q.Sz' n := by
 refine ⟨fun r hr p hp => ?_, fun x hx => ?_, fun x hx => ?_⟩
 ·obtain ⟨v, hv, rfl⟩ := List.mem_map.1 hr
  obtain ⟨t, ht, rfl⟩ := List.mem_map.1 hp
  exact RatD.sz (show RatD t.r t.q n V from (show LsR 5 tecells (teD n) v.A v.ts V from h.rows.ok v hv).ok t ht) h1
 ·obtain ⟨p, hp, rfl⟩ := List.mem_map.1 hx
  exact RatD.sz (show RatD p.1 p.2 n V from h.bias.ok p hp) h1
 ·obtain ⟨p, hp, rfl⟩ := List.mem_map.1 hx
  exact RatD.sz (show RatD p.1 p.2 n V from h.kern.ok p hp) h1
theorem convQ_sz {l : LaV} {n : Nat} (h : l.q.Sz' n) (h1 : 1 ≤ n) : (convQ l).Sz' n := by
 refine ⟨fun r hr p hp => ?_, fun x hx => ?_, fun x hx => by cases hx⟩
 ·obtain ⟨k, -, rfl⟩ := List.mem_map.1 hr
  obtain ⟨i, -, -, e⟩ := spotQ_mem (List.mem_filter.1 hp).1
  rw [e]
  exact getD_sz h1 h.kern _
 ·obtain ⟨k, -, rfl⟩ := List.mem_map.1 hx
  exact getD_sz h1 h.bias _
theorem sameQ_sz {l : LaV} {n : Nat} (h : l.q.Sz' n) : (sameQ l).Sz' n := by
 refine ⟨fun r hr p hp => ?_, h.bias, h.kern⟩
 obtain ⟨v, hv, rfl⟩ := List.mem_map.1 hr
 exact h.rows _ (List.mem_map_of_mem (f := fun v : VeV => v.ts.map plq) hv) p (List.mem_filter.1 hp).1
theorem lowQ_sz {l : LaV} {n : Nat} (h : l.q.Sz' n) (h1 : 1 ≤ n) : (lowQ l).Sz' n := by
 unfold lowQ
 split
 ·exact convQ_sz h h1
 ·exact sameQ_sz h
theorem SmL.t {U d : Nat} {l : LaV} (h : SmL U d l) (hU : U ≤ 100) : LaT l :=
 { rows := by have := h.rows.1; omega, row := fun v hv => by have := (h.rows.2 v hv).1; omega, bias := by have := h.bias.1; omega, kern := by have := h.kern.1; omega, grs := by have := h.grs; omega, gr := fun g hg => by have := h.gr g hg; omega, row1 := fun v hv => by have := (h.rows.2 v hv).1; omega }
theorem SmL.d {U d n : Nat} {l : LaV} {V : World} (h : SmL U d l) (hl : LaD n l V) : LaD d l V :=
 ⟨hl.rows.imp fun v hv hv' => LsR.imp hv' fun t ht ht' => RatD.short (n := n) ht' ((h.rows.2 v hv).2 t ht), hl.bias.imp fun p hp hp' => RatD.short (n := n) hp' (h.bias.2 p hp), hl.kern.imp fun p hp hp' => RatD.short (n := n) hp' (h.kern.2 p hp), hl.grs⟩
theorem LwS.of {l m : LaW} (h : LwS l) (e : l.wq = m.wq) : LwS m := by
 unfold LaG.wq at e
 injection e with e1 e2 e3 e4 e5 e6
 have a2 := congrArg List.length e2
 have a3 := congrArg List.length e3
 have a5 := congrArg List.length e5
 have a6 := congrArg List.length e6
 simp only [List.length_map] at a2 a3 a5 a6
 refine ⟨by have := h.rows; omega, fun v hv => ?_, by have := h.bias; omega, by have := h.kern; omega, by have := h.grs; omega, fun g hg => ?_⟩
 ·have hm : vwq v ∈ l.rows.map vwq := by rw [e2]; exact List.mem_map_of_mem (f := vwq) hv
  obtain ⟨u, hu, e⟩ := List.mem_map.1 hm
  have := congrArg List.length e
  unfold vwq at this
  simp only [List.length_map] at this
  have := h.row u hu
  omega
 ·have hm : g.l ∈ l.grs.map GrV.l := by rw [e6]; exact List.mem_map_of_mem (f := GrV.l) hg
  obtain ⟨u, hu, e⟩ := List.mem_map.1 hm
  have := h.gr u hu
  rw [← e]
  exact this
theorem spotQ_len (pl : Nat → Option Int) (K : Nat → Rat) (n : Nat) : (spotQ pl K n).length ≤ n := by
 have h := List.length_filterMap_le (fun k => (pl k).map fun a => (a, K k)) (List.range n)
 rwa [List.length_range] at h
structure LQ.Ln (q : LQ) : Prop where
 rows : q.rows.length ≤ 100000
 row : ∀ r ∈ q.rows, r.length ≤ 1000
 bias : q.bias.length ≤ 100000
 kern : q.kern.length ≤ 100000
 grs : q.grs.length ≤ 100000
 gr : ∀ g ∈ q.grs, g.length ≤ 1000
theorem LaS.ln {l : LaV} (h : LaS l) : l.q.Ln := by
 refine ⟨?_, fun r hr => ?_, ?_, ?_, ?_, fun g hg => ?_⟩
 ·show (l.rows.map _).length ≤ _
  rw [List.length_map]; exact h.rows
 ·obtain ⟨v, hv, rfl⟩ := List.mem_map.1 hr
  rw [List.length_map]; exact h.row v hv
 ·show (l.bias.map _).length ≤ _
  rw [List.length_map]; exact h.bias
 ·show (l.kern.map _).length ≤ _
  rw [List.length_map]; exact h.kern
 ·show (l.grs.map _).length ≤ _
  rw [List.length_map]; exact h.grs
 ·obtain ⟨v, hv, rfl⟩ := List.mem_map.1 hg
  exact h.gr v hv
theorem LQ.Ln.w {l : LaV} (h : l.q.Ln) (f : RV → Rat → Wd) : LwS (laF f l) := by
 refine ⟨?_, fun v hv => ?_, ?_, ?_, ?_, fun g hg => ?_⟩
 ·have h1 := h.rows
  show (l.rows.map _).length ≤ _
  rw [show l.q.rows.length = l.rows.length from List.length_map _] at h1
  rw [List.length_map]; omega
 ·obtain ⟨v, hm, rfl⟩ := List.mem_map.1 (show _ ∈ l.rows.map _ from hv)
  have h1 := h.row (v.ts.map plq) (List.mem_map_of_mem (f := fun v : VeV => v.ts.map plq) hm)
  rw [List.length_map] at h1 ⊢; omega
 ·have h1 := h.bias
  show (l.bias.map _).length ≤ _
  rw [show l.q.bias.length = l.bias.length from List.length_map _] at h1
  rw [List.length_map]; omega
 ·have h1 := h.kern
  show (l.kern.map _).length ≤ _
  rw [show l.q.kern.length = l.kern.length from List.length_map _] at h1
  rw [List.length_map]; omega
 ·have h1 := h.grs
  rw [show l.q.grs.length = l.grs.length from List.length_map _] at h1
  show l.grs.length ≤ _; omega
 ·have h1 := h.gr g.l (List.mem_map_of_mem (f := GrV.l) hg)
  omega
theorem convQ_ln {l : LaV} (h : ConvS l) : (convQ l).Ln := by
 have hs := h.s.nn
 obtain ⟨C, hC⟩ := nat_of (z := l.ch) (by omega)
 obtain ⟨O, hO⟩ := nat_of (z := l.out) (by omega)
 obtain ⟨KH, hKH⟩ := nat_of (z := l.kh) (by omega)
 obtain ⟨KW, hKW⟩ := nat_of (z := l.kw) (by omega)
 have hh := h.h
 have hp := h.pad
 have hz := h.s
 unfold sidesP side at hz
 obtain ⟨H, hH⟩ := nat_of (z := l.high) (by omega)
 obtain ⟨W, hW⟩ := nat_of (z := l.wide) (by omega)
 obtain ⟨ST, hST⟩ := nat_of (z := l.st) (by omega)
 obtain ⟨PD, hPD⟩ := nat_of (z := l.pad) (by omega)
 have hu := h.u
 have hk := h.k
 have he := h.e
 unfold rowsQ colsQ at hu
 have hE : C * KH * KW ≤ 1000 := by
  have h9 : (l.kern.length : Int) = ((O * (C * KH * KW) : Nat) : Int) := by rw [hk, hO, hC, hKH, hKW]; simp only [Int.natCast_mul]
  have h8 : 1 * (C * KH * KW) ≤ O * (C * KH * KW) := Nat.mul_le_mul_right _ (by omega)
  omega
 rw [hH, hPD, hKH] at hh
 have hR : ((nRows l : Nat) : Int) = (l.high + 2 * l.pad - l.kh) / l.st + 1 := by
  have h8 : ((H + 2 * PD - KH : Nat) : Int) = (H : Int) + 2 * (PD : Int) - (KH : Int) := by omega
  unfold nRows
  rw [hH, hPD, hKH, hST]
  simp only [Int.toNat_natCast]
  rw [Int.natCast_add, Int.natCast_ediv, h8]; rfl
 have hQ : ((nCols l : Nat) : Int) = (l.wide + 2 * l.pad - l.kw) / l.st + 1 := by
  have h8 : ((W + 2 * PD - KW : Nat) : Int) = (W : Int) + 2 * (PD : Int) - (KW : Int) := by have := h.h.2; omega
  unfold nCols
  rw [hW, hPD, hKW, hST]
  simp only [Int.toNat_natCast]
  rw [Int.natCast_add, Int.natCast_ediv, h8]; rfl
 have hun : O * nRows l * nCols l ≤ 256 := by
  have h9 : ((O * nRows l * nCols l : Nat) : Int) ≤ 256 := by rw [Int.natCast_mul, Int.natCast_mul, hR, hQ, ← hO]; exact hu
  omega
 have hun' : l.out.toNat * nRows l * nCols l ≤ 256 := by rw [hO, Int.toNat_natCast]; exact hun
 have hE' : l.ch.toNat * l.kh.toNat * l.kw.toNat ≤ 1000 := by rw [hC, hKH, hKW]; simp only [Int.toNat_natCast]; exact hE
 refine ⟨?_, fun r hr => ?_, ?_, Nat.zero_le _, Nat.zero_le _, fun g hg => by cases hg⟩
 ·show ((List.range (l.out.toNat * nRows l * nCols l)).map _).length ≤ _
  rw [List.length_map, List.length_range]; omega
 ·obtain ⟨k, -, rfl⟩ := List.mem_map.1 (show r ∈ (List.range (l.out.toNat * nRows l * nCols l)).map _ from hr)
  exact Nat.le_trans (List.length_filter_le _ _) (Nat.le_trans (spotQ_len _ _ _) hE')
 ·show ((List.range (l.out.toNat * nRows l * nCols l)).map _).length ≤ _
  rw [List.length_map, List.length_range]; omega
theorem sameQ_ln {l : LaV} (h : l.q.Ln) : (sameQ l).Ln := by
 refine ⟨?_, fun r hr => ?_, h.bias, h.kern, h.grs, h.gr⟩
 ·have h1 := h.rows
  rw [show l.q.rows.length = l.rows.length from List.length_map _] at h1
  show (l.rows.map _).length ≤ _
  rw [List.length_map]; exact h1
 ·obtain ⟨v, hv, rfl⟩ := List.mem_map.1 hr
  exact Nat.le_trans (List.length_filter_le _ _) (h.row (v.ts.map plq) (List.mem_map_of_mem (f := fun v : VeV => v.ts.map plq) hv))
theorem lowQ_ln {l : LaV} (h : LowOk l) : (lowQ l).Ln := by
 unfold lowQ
 split
 ·rename_i hk; exact convQ_ln (h.c hk)
 ·exact sameQ_ln h.s.ln

theorem li2 {ok : Int → World → Prop} {W : World} {g : Nat} {t : TypeId} {x y : Int} (h : Blk W g t #[.int .i64 x, .int .i64 y]) (hp : ∀ zz ∈ [x, y], ok zz W) : LsR 1 icells ok (some ⟨g, 0, none⟩) [x, y] W := by
 refine ⟨⟨Sl.some_ _ _ _, fun i hi => ?_, fun i hi j hj => ?_⟩, hp⟩
 ·match i, hi with
  | 0, _ => rfl
  | 1, _ => rfl
 ·rw [adr_some, Nat.zero_add, h.cell]
  match i, hi, j, hj with
  | 0, _, 0, _ => rfl
  | 1, _, 0, _ => rfl
theorem ls2l {ok : LaV → World → Prop} {W : World} {g : Nat} {t : TypeId} {x y : LaV} (h : Blk W g t #[.int .u8 x.kind, .slice x.Ar x.rows.length x.cr, .slice x.Ab x.bias.length x.cb, .int .i64 x.ch, .int .i64 x.high, .int .i64 x.wide, .int .i64 x.out, .int .i64 x.kh, .int .i64 x.kw, .int .i64 x.st, .int .i64 x.pad, .slice x.Ak x.kern.length x.ck, .slice x.Ag x.grs.length x.cg, .int .u8 y.kind, .slice y.Ar y.rows.length y.cr, .slice y.Ab y.bias.length y.cb, .int .i64 y.ch, .int .i64 y.high, .int .i64 y.wide, .int .i64 y.out, .int .i64 y.kh, .int .i64 y.kw, .int .i64 y.st, .int .i64 y.pad, .slice y.Ak y.kern.length y.ck, .slice y.Ag y.grs.length y.cg]) (hp : ∀ zz ∈ [x, y], ok zz W) : LsR 13 lacells ok (some ⟨g, 0, none⟩) [x, y] W := by
 refine ⟨⟨Sl.some_ _ _ _, fun i hi => ?_, fun i hi j hj => ?_⟩, hp⟩
 ·match i, hi with
  | 0, _ => rfl
  | 1, _ => rfl
 ·rw [adr_some, Nat.zero_add, h.cell]
  match i, hi, j, hj with
  | 0, _, 0, _ => rfl
  | 0, _, 1, _ => rfl
  | 0, _, 2, _ => rfl
  | 0, _, 3, _ => rfl
  | 0, _, 4, _ => rfl
  | 0, _, 5, _ => rfl
  | 0, _, 6, _ => rfl
  | 0, _, 7, _ => rfl
  | 0, _, 8, _ => rfl
  | 0, _, 9, _ => rfl
  | 0, _, 10, _ => rfl
  | 0, _, 11, _ => rfl
  | 0, _, 12, _ => rfl
  | 1, _, 0, _ => rfl
  | 1, _, 1, _ => rfl
  | 1, _, 2, _ => rfl
  | 1, _, 3, _ => rfl
  | 1, _, 4, _ => rfl
  | 1, _, 5, _ => rfl
  | 1, _, 6, _ => rfl
  | 1, _, 7, _ => rfl
  | 1, _, 8, _ => rfl
  | 1, _, 9, _ => rfl
  | 1, _, 10, _ => rfl
  | 1, _, 11, _ => rfl
  | 1, _, 12, _ => rfl
theorem ls2t {ok : TeV → World → Prop} {W : World} {g : Nat} {t : TypeId} {x y : TeV} (h : Blk W g t #[.int .i64 x.pl, .bool x.r.num.neg, .slice x.r.num.A x.r.num.k x.r.num.c, .bool x.r.den.neg, .slice x.r.den.A x.r.den.k x.r.den.c, .int .i64 y.pl, .bool y.r.num.neg, .slice y.r.num.A y.r.num.k y.r.num.c, .bool y.r.den.neg, .slice y.r.den.A y.r.den.k y.r.den.c]) (hp : ∀ zz ∈ [x, y], ok zz W) : LsR 5 tecells ok (some ⟨g, 0, none⟩) [x, y] W := by
 refine ⟨⟨Sl.some_ _ _ _, fun i hi => ?_, fun i hi j hj => ?_⟩, hp⟩
 ·match i, hi with
  | 0, _ => rfl
  | 1, _ => rfl
 ·rw [adr_some, Nat.zero_add, h.cell]
  match i, hi, j, hj with
  | 0, _, 0, _ => rfl
  | 0, _, 1, _ => rfl
  | 0, _, 2, _ => rfl
  | 0, _, 3, _ => rfl
  | 0, _, 4, _ => rfl
  | 1, _, 0, _ => rfl
  | 1, _, 1, _ => rfl
  | 1, _, 2, _ => rfl
  | 1, _, 3, _ => rfl
  | 1, _, 4, _ => rfl
theorem ls2v9 {ok : VeV → World → Prop} {W : World} {g : Nat} {t : TypeId} {x y : VeV} (h : Blk W g t #[.slice x.A x.ts.length x.c, .slice y.A y.ts.length y.c]) (hp : ∀ zz ∈ [x, y], ok zz W) : LsR 1 vecells ok (some ⟨g, 0, none⟩) [x, y] W := by
 refine ⟨⟨Sl.some_ _ _ _, fun i hi => ?_, fun i hi j hj => ?_⟩, hp⟩
 ·match i, hi with
  | 0, _ => rfl
  | 1, _ => rfl
 ·rw [adr_some, Nat.zero_add, h.cell]
  match i, hi, j, hj with
  | 0, _, 0, _ => rfl
  | 1, _, 0, _ => rfl
def reL : LaV := ⟨3, none, 0, [], none, 0, [], 0, 0, 0, 0, 0, 0, 0, 0, none, 0, [], none, 0, []⟩
theorem reL_ok (V : World) : LaN reL V := ⟨LsR.nil_ none, LsR.nil_ none, LsR.nil_ none, LsR.nil_ none⟩
theorem Env.nm9 {w W : World} {bs : List Bo} {old new : World → Prop} (h : Env w bs old new W) : ∃ W2, W = W2 ∧ Hid (Env w bs old new W2) := ⟨W, rfl, Lib.hid h⟩
theorem Env.rebase9 {w W : World} {old new : World → Prop} (h : Env w [] old new W) : Env W [] (fun V => old V ∧ new V) (fun _ => True) W := Env.start ((h.rso.lt.mono fun _ h => h.2).and (h.rsn.lt.mono fun _ h => h.2))
theorem Env.more {w W : World} {bs : List Bo} {old new φ : World → Prop} (h : Env w bs old new W) (hr : Rests w (· < w.heap.size) φ) : Env w bs (fun V => φ V ∧ old V) new W :=
 ⟨h.bx, ((hr.below h.bel).mono fun n hn b hb e => by have := h.own b hb; omega).and h.rso, h.rsn, h.bel, h.own, h.nd⟩
end Go.Proofs.YtplhmeiciiajcaaGreatDoor
