/-
 lower.Lower. tripwireref14.Lower. tripwirelow: what is looked at (ShortRats, ShortVecs, SmallNet). Nets of numbers as nets of words; what stays small when a net is lowered.
-/
import Derived.Test.YtbodpgadcmnnbaaGreatDoorNO
import Derived.Test.YtbodpgadcmnnbaaGreatDoorMD
import Derived.Test.YtbodpgadcmnnbaaGreatDoorNH
namespace Go.Proofs.YtbodpgadcmnnbaaGreatDoor
set_option maxHeartbeats 16000000
open Go.RowKit

structure ConvS (l : LaV) : Prop where
 s : sidesP l
 pad : 0 ≤ l.pad ∧ l.pad < l.kh ∧ l.pad < l.kw
 h : 0 ≤ l.high + 2 * l.pad - l.kh ∧ 0 ≤ l.wide + 2 * l.pad - l.kw
 k : (l.kern.length : Int) = l.out * (l.ch * l.kh * l.kw)
 b : (l.bias.length : Int) = l.out
 u : l.out * zb8 l * zb6 l ≤ 256
 e : l.kern.length ≤ 1000
def nRows (l : LaV) : Nat := (l.high.toNat + 2 * l.pad.toNat - l.kh.toNat) / l.st.toNat + 1
def nCols (l : LaV) : Nat := (l.wide.toNat + 2 * l.pad.toNat - l.kw.toNat) / l.st.toNat + 1
def zdS (l : LaV) : LQ := zgW l.ch.toNat l.high.toNat l.wide.toNat l.out.toNat l.kh.toNat l.kw.toNat l.st.toNat l.pad.toNat (nRows l) (nCols l) (l.kern.map Prod.snd) (l.bias.map Prod.snd)
def lowQ (l : LaV) : LQ := if l.kind = 2 then zdS l else zhG l
structure LowOk (l : LaV) : Prop where
 s : LaS l
 r : ∀ v ∈ l.rows, Rise v.ts
 c : l.kind = 2 → ConvS l
theorem zaO {z : Int} (h : 0 ≤ z) : ∃ n : Nat, z = n := ⟨z.toNat, by omega⟩
theorem znk (w : World) (n : Nat) (hn : n ≤ 100000) (h1n : 1 ≤ n) (l : LaV) (h : LaD n l w) (hT : Tz w) (nr nb nk ng : Nat) (HL : Hid (Lens l nr nb nk ng)) (hc : ConvS l) : Calls Tryz.prog 30 #[.agg #[.int .u8 l.kind, .slice l.Ar nr l.cr, .slice l.Ab nb l.cb, .int .i64 l.ch, .int .i64 l.high, .int .i64 l.wide, .int .i64 l.out, .int .i64 l.kh, .int .i64 l.kw, .int .i64 l.st, .int .i64 l.pad, .slice l.Ak nk l.ck, .slice l.Ag ng l.cg]] w (zfL (zdS l) w) := by
 have hn9 := hc.s.nn
 have hp9 := hc.pad
 have hh9 := hc.h
 obtain ⟨C, hC⟩ := zaO (z := l.ch) (by omega)
 obtain ⟨H, hH⟩ := zaO (z := l.high) (by omega)
 obtain ⟨W, hW⟩ := zaO (z := l.wide) (by omega)
 obtain ⟨O, hO⟩ := zaO (z := l.out) (by omega)
 obtain ⟨KH, hKH⟩ := zaO (z := l.kh) (by omega)
 obtain ⟨KW, hKW⟩ := zaO (z := l.kw) (by omega)
 obtain ⟨ST, hST⟩ := zaO (z := l.st) (by omega)
 obtain ⟨PD, hPD⟩ := zaO (z := l.pad) (by omega)
 have hk9 := hc.k
 have hb9 := hc.b
 have hu9 := hc.u
 have he9 := hc.e
 unfold zb8 zb6 at hu9
 rw [hC, hH, hW, hO, hKH, hKW, hST] at hn9
 rw [hPD, hKH, hKW] at hp9
 rw [hH, hW, hPD, hKH, hKW] at hh9
 rw [hO, hC, hKH, hKW] at hk9
 rw [hO] at hb9
 rw [hO, hH, hW, hPD, hKH, hKW, hST] at hu9
 have hkn : l.kern.length = O * (C * KH * KW) := by
  have h9 : (l.kern.length : Int) = ((O * (C * KH * KW) : Nat) : Int) := by rw [hk9]; simp only [Int.natCast_mul]
  omega
 have hEn : C * KH * KW ≤ 1000 := by
  have h8 : 1 * (C * KH * KW) ≤ O * (C * KH * KW) := Nat.mul_le_mul_right _ (by have := hc.s.2.2.2.1; unfold side at this; omega)
  omega
 have hR9 : ((((H + 2 * PD - KH) / ST + 1 : Nat) : Nat) : Int) = ((H : Int) + 2 * (PD : Int) - (KH : Int)) / (ST : Int) + 1 := by
  have h8 : ((H + 2 * PD - KH : Nat) : Int) = (H : Int) + 2 * (PD : Int) - (KH : Int) := by omega
  rw [Int.natCast_add, Int.natCast_ediv, h8]; rfl
 have hQ9 : ((((W + 2 * PD - KW) / ST + 1 : Nat) : Nat) : Int) = ((W : Int) + 2 * (PD : Int) - (KW : Int)) / (ST : Int) + 1 := by
  have h8 : ((W + 2 * PD - KW : Nat) : Int) = (W : Int) + 2 * (PD : Int) - (KW : Int) := by omega
  rw [Int.natCast_add, Int.natCast_ediv, h8]; rfl
 have hun : O * ((H + 2 * PD - KH) / ST + 1) * ((W + 2 * PD - KW) / ST + 1) ≤ 256 := by
  have h9 : ((O * ((H + 2 * PD - KH) / ST + 1) * ((W + 2 * PD - KW) / ST + 1) : Nat) : Int) ≤ 256 := by
   rw [Int.natCast_mul, Int.natCast_mul, hR9, hQ9]; exact hu9
  omega
 have key := zju w n hn h1n l h hT nr nb nk ng HL.out.k HL.out.b C H W O KH KW ST PD ((H + 2 * PD - KH) / ST + 1) ((W + 2 * PD - KW) / ST + 1) (by omega) (by omega) (by omega) (by omega) rfl rfl (by rw [HL.out.k, hkn]) (by rw [HL.out.b]; omega) hEn (by omega)
 unfold zdS nRows nCols
 rw [hC, hH, hW, hO, hKH, hKW, hST, hPD]
 simp only [Int.toNat_natCast]
 exact key
set_option maxRecDepth 100000 in
theorem znd (w : World) (n : Nat) (hn : n ≤ 100000) (h1n : 1 ≤ n) (l : LaV) (h : LaD n l w) (hT : Tz w) (nr nb nk ng : Nat) (HL : Hid (Lens l nr nb nk ng)) (hc : ConvS l) (hk : l.kind = 2) : Calls Tryz.prog 29 #[lA l nr nb nk ng] w (zfL (lowQ l) w) := by
 unfold lowQ
 rw [if_pos hk]
 have e0 : (l.kind == 2) = true := by simp [hk]
 have Hc := znM hc
 clear hk hc
 have HE := znM (zlF l nr nb nk ng (((LaD.old l w h)).and (hT.old)))
 have c := Env.c2 HE.out
 have dd := Env.d2 HE.out
 clear h hT
 unfold lA
 go_enter Tryz.func29, Tryz.ntmps29
 go_wp2_with fail
 refine (znk _ n hn h1n l HE.out.o.1 HE.out.o.2 nr nb nk ng HL Hc.out).mono ?_
 rintro e w1 ⟨y, rfl, hy, hk, hb⟩
 have HY := znM hy
 replace HE := znM (Env.ret HE.out hk hb)
 replace c := Env.c2 HE.out
 clear hy hk hb
 go_wp2_with fail
 have hE := HE.out.put13 (.int .u8 y.kind) (.slice y.Ar y.rows.length y.cr) (.slice y.Ab y.bias.length y.cb) (.int .i64 y.ch) (.int .i64 y.high) (.int .i64 y.wide) (.int .i64 y.out) (.int .i64 y.kh) (.int .i64 y.kw) (.int .i64 y.st) (.int .i64 y.pad) (.slice y.Ak y.kern.length y.ck) (.slice y.Ag y.grs.length y.cg)
 replace c := Env.c2 hE
 exact bodyPost_ret (v := .agg #[.int .u8 y.kind, .slice y.Ar y.rows.length y.cr, .slice y.Ab y.bias.length y.cb, .int .i64 y.ch, .int .i64 y.high, .int .i64 y.wide, .int .i64 y.out, .int .i64 y.kh, .int .i64 y.kw, .int .i64 y.st, .int .i64 y.pad, .slice y.Ak y.kern.length y.ck, .slice y.Ag y.grs.length y.cg]) (by simp [results, Tryz.results29, go_sem, c]) rfl ⟨y, rfl, HY.out, (hE.rsn.imp fun _ h => h.1).mono fun _ h => h.1, hE.bel⟩
set_option maxRecDepth 100000 in
theorem zmR (w : World) (n : Nat) (hn : n ≤ 100000) (h1n : 1 ≤ n) (l : LaV) (h : LaD n l w) (hT : Tz w) (nr nb nk ng : Nat) (HL : Hid (Lens l nr nb nk ng)) (hs : LaS l) (hr : ∀ v ∈ l.rows, Rise v.ts) (hk : ¬ l.kind = 2) : Calls Tryz.prog 29 #[lA l nr nb nk ng] w (zfL (lowQ l) w) := by
 unfold lowQ
 rw [if_neg hk]
 have e0 : (l.kind == 2) = false := by simp [hk]
 have Hs := znM hs
 have Hr := znM hr
 clear hk hs hr
 have HE := znM (zlF l nr nb nk ng (((LaD.old l w h)).and (hT.old)))
 have c := Env.c2 HE.out
 have dd := Env.d2 HE.out
 clear h hT
 unfold lA
 go_enter Tryz.func29, Tryz.ntmps29
 go_wp2_with fail
 refine (zkh _ n hn h1n l HE.out.o.1 Hs.out Hr.out HE.out.o.2 nr nb nk ng HL).mono ?_
 rintro e w1 ⟨y, rfl, hy, hk, hb⟩
 have HY := znM hy
 replace HE := znM (Env.ret HE.out hk hb)
 replace c := Env.c2 HE.out
 clear hy hk hb
 go_wp2_with fail
 have hE := HE.out.put13 (.int .u8 y.kind) (.slice y.Ar y.rows.length y.cr) (.slice y.Ab y.bias.length y.cb) (.int .i64 y.ch) (.int .i64 y.high) (.int .i64 y.wide) (.int .i64 y.out) (.int .i64 y.kh) (.int .i64 y.kw) (.int .i64 y.st) (.int .i64 y.pad) (.slice y.Ak y.kern.length y.ck) (.slice y.Ag y.grs.length y.cg)
 replace c := Env.c2 hE
 exact bodyPost_ret (v := .agg #[.int .u8 y.kind, .slice y.Ar y.rows.length y.cr, .slice y.Ab y.bias.length y.cb, .int .i64 y.ch, .int .i64 y.high, .int .i64 y.wide, .int .i64 y.out, .int .i64 y.kh, .int .i64 y.kw, .int .i64 y.st, .int .i64 y.pad, .slice y.Ak y.kern.length y.ck, .slice y.Ag y.grs.length y.cg]) (by simp [results, Tryz.results29, go_sem, c]) rfl ⟨y, rfl, HY.out, (hE.rsn.imp fun _ h => h.1).mono fun _ h => h.1, hE.bel⟩
theorem zmI (w : World) (n : Nat) (hn : n ≤ 100000) (h1n : 1 ≤ n) (l : LaV) (h : LaD n l w) (hl : LowOk l) (hT : Tz w) : Calls Tryz.prog 29 #[yA l] w (zfL (lowQ l) w) := by
 by_cases hk : l.kind = 2
 ·exact znd w n hn h1n l h hT _ _ _ _ (znM (Lens.of l)) (hl.c hk) hk
 ·exact zmR w n hn h1n l h hT _ _ _ _ (znM (Lens.of l)) hl.s hl.r hk
set_option maxRecDepth 100000 in
theorem znK (w : World) (n : Nat) (hn : n ≤ 100000) (h1n : 1 ≤ n) (A : Option Addr) (c : Nat) (l : List LaV) (h : LsR 13 lacells (LaD n) A l w) (hl : l.length ≤ 100000) (hT : Tz w) (hv : ∀ la ∈ l, LowOk la) (nl : Nat) (hnl : nl = l.length) :
 Calls Tryz.prog 28 #[.slice A nl c, .func (.func 29) #[] #[]] w (CpRes 13 (lacells : LaV → Array Value) LaN (LaG.q) (l.map (lowQ)) w) := by
 have sl1 := h.sl
 rw [← hnl] at sl1
 have hsz2 := zbL
 have hadd := za7
 have Hn := znM hnl
 have Hl := znM hl
 have hnb : nl ≤ 100000 := by omega
 have Hv := znM hv
 clear hv
 have HG := znM ((GL.start (Env.start ((h.old LaD.old).and hT.old))).new_ 38 13)
 clear h hnl hl
 go_enter Tryz.func28, Tryz.ntmps28
 go_wp2_with fail
 go_loopw [5, 10] (fun ov iv wr => ∃ (Ao : Option Addr) (co i : Nat) (os : List (LaV)), ov = .slice Ao os.length co ∧ iv = .int .i64 (i : Int) ∧ i ≤ nl ∧ Hid (os.map (LaG.q) = (l.take i).map (lowQ)) ∧ Hid (GL w [⟨38, 13, .slice Ao os.length co, os.map lacells⟩] (fun V => LsR 13 lacells (LaD n) A l V ∧ Tz V) (fun V => ∀ y ∈ os, (LaN) y V) wr)) (fun _ iv _ => nl - (intOf iv).toNat)
 case atStart => exact ⟨none, 0, 0, [], rfl, rfl, Nat.zero_le _, znM rfl, znM (HG.out.imp (fun _ h => h.2) (fun _ _ => by simp))⟩
 case round =>
  clear HG
  obtain ⟨Ao, co, i, os, rfl, rfl, hi, HM, HG⟩ := hrel
  by_cases hlt : i < nl
  ·have hlt2 : i < l.length := by rw [← Hn.out]; exact hlt
   have HE := znM HG.out.env
   have c0 := HE.out.o.1.1.lac i hlt2
   have HM2 := znM (fun (y : LQ) (hy : y = (lowQ) l[i]) => zb0 HM.out hlt2 hy)
   have hos := congrArg List.length HM.out
   rw [List.length_map, List.length_map, List.length_take] at hos
   have hosl : os.length ≤ 100000 := by have := Hl.out; omega
   clear hos
   obtain ⟨p, hp⟩ : ∃ p, p = l[i] := ⟨_, rfl⟩
   rw [← hp] at c0 HM2
   have Hm := znM (show p ∈ l by rw [hp]; exact List.getElem_mem hlt2)
   clear hp
   go_upto_region 5 with fail
   obtain ⟨W2, gt, hW2, hgt, HE⟩ := Env.al HE.out 38 #[.int .u8 p.kind, .slice p.Ar p.rows.length p.cr, .slice p.Ab p.bias.length p.cb, .int .i64 p.ch, .int .i64 p.high, .int .i64 p.wide, .int .i64 p.out, .int .i64 p.kh, .int .i64 p.kw, .int .i64 p.st, .int .i64 p.pad, .slice p.Ak p.kern.length p.ck, .slice p.Ag p.grs.length p.cg]
   rw [hW2, hgt]
   clear hW2 hgt c0
   have cb := Env.c1 HE.out
   go_wp2_with fail
   refine (zmI _ n hn h1n p (HE.out.o.1.1.ok p Hm.out) (Hv.out p Hm.out) HE.out.o.1.2).mono ?_
   rintro e w3 ⟨y, rfl, hy, hk, hb⟩
   have HM3 := znM (HM2.out _ hy)
   replace HE := znM (Env.ret HE.out hk hb)
   obtain ⟨A', c', w8, hrun, hG⟩ := GL.appX (cells := lacells) zcR zdx rfl (by decide) (by decide) HG.out HE.out y rfl (zcM y) (by omega)
   have Hrun := znM hrun
   have HG2 := znM hG
   clear hrun hG hk hb hy
   go_wp2_with (at_builtin; refine za0 rfl (.tmp 14) (.tmp 18) 22 _ _ _ rfl rfl rfl Hrun.out ?_)
   clear Hrun
   go_wp2_with fail
   go_roundw
   case rel => exact ⟨A', c', i + 1, os ++ [y], by simp, by go_num, by omega, znM (by rw [List.map_append]; exact HM3.out), znM (HG2.out.imp (fun _ h => h) (fun V h p hp => by
    rcases List.mem_append.1 hp with hp | hp
    ·exact h.2 p hp
    ·rw [List.mem_singleton.1 hp]; exact h.1.1))⟩
   case measure => (simp [intOf] <;> omega)
  ·obtain rfl : i = nl := by omega
   obtain ⟨A', c', hv, hc, hr⟩ := HG.out.tell (cells := lacells) (ok := LaN) (l := os) (fun V h => h)
   obtain ⟨rfl, rfl⟩ : Ao = A' ∧ co = c' := by simpa using hv
   have Hr := znM hr
   have Hc := znM hc
   have Hbel := znM HG.out.bel
   clear hr hv HG hc
   go_wp2_with fail
   go_ret
   exact ⟨Ao, co, os, rfl, Hc.out, by rw [HM.out, Hn.out, List.take_length], Hr.out, Hbel.out⟩
theorem zeR {w : World} : ∀ {ls : List LaV} {N : Int}, zh9 w ls N → (∀ l ∈ ls, LaS l ∧ l.kern.length ≤ 1000) → ∀ l ∈ ls, LowOk l
 | [], _, _, _, l, hl => by cases hl
 | l :: ls, N, h, hs, x, hx => by
  rcases List.mem_cons.1 hx with rfl | hx
  ·obtain ⟨hF, hu, -⟩ := h
   have h1 := hs x (List.mem_cons_self ..)
   refine ⟨h1.1, fun v hv => ?_, fun hk => ?_⟩
   ·rcases hF with ⟨-, h⟩ | ⟨-, h⟩ | ⟨-, -, h, -⟩ | ⟨-, h⟩
    ·exact (h.er v hv).rise
    ·rw [h.e.1] at hv; cases hv
    ·rw [h] at hv; cases hv
    ·rw [h.r.1] at hv; cases hv
   ·rcases hF with ⟨h, -⟩ | ⟨-, h⟩ | ⟨h, -⟩ | ⟨h, -⟩
    ·omega
    ·unfold zaJ at hu
     rw [if_neg (by omega), if_pos hk] at hu
     exact ⟨h.s, h.pad, h.h, h.k, h.b, hu, h1.2⟩
    ·omega
    ·omega
  ·exact zeR h.2.2 (fun l hl => hs l (List.mem_cons_of_mem _ hl)) x hx
def znt (f : NeV) (w : World) (e : Ending) (w' : World) : Prop :=
 (∃ err : Int, err ≠ 0 ∧ NetP w f err ∧ e = .returned (.tuple #[.agg #[.int .i64 0, .slice none 0 0], .int .i64 err]) ∧ Below w.heap.size w w') ∨
 (NetP w f 0 ∧ ∃ (A : Option Addr) (c : Nat) (ls : List LaV), e = .returned (.tuple #[.agg #[.int .i64 f.inputs, .slice A (List.length ls) c], .int .i64 0]) ∧ List.length ls ≤ c ∧ ls.map LaG.q = f.las.map lowQ ∧ Rests w' (w.heap.size ≤ ·) (LsR 13 lacells LaN A ls) ∧ Below w.heap.size w w')
set_option maxRecDepth 100000 in
theorem zfc (w : World) (n : Nat) (hn : n ≤ 100000) (h1n : 1 ≤ n) (f : NeV) (h : NeD n f w) (hs : NeS f) (hk : ∀ l ∈ f.las, l.kern.length ≤ 1000) (hT : Tz w) (nl : Nat) (hnl : nl = f.las.length) : Calls Tryz.prog 10 #[.agg #[.int .i64 f.inputs, .slice f.A nl f.c]] w (znt f w) := by
 have Hs := znM hs
 have Hk := znM hk
 have Hl := znM hnl
 obtain ⟨W0, hW0⟩ : ∃ W0, W0 = ((w.alloc (.cells #[.int .i64 f.inputs, .slice f.A nl f.c] 24)).alloc (.cells #[.int .i64 0, .slice none 0 0] 24)) := ⟨_, rfl⟩
 have HE := znM (Env.lay2 (Env.start ((h.old).and ((hT.old).and ((NeD.iffR h))))) hW0)
 subst hW0
 have c := Env.c2 HE.out
 have dd := Env.d2 HE.out
 clear h hs hT hnl hk
 go_enter Tryz.func10, Tryz.ntmps10
 go_wp2_with fail
 refine (ziv _ n (by omega) h1n f HE.out.o.1 Hs.out HE.out.o.2.1 nl Hl.out).mono ?_
 rintro e w1 ⟨⟨err, rfl, hN⟩, hb⟩
 have HN := znM ((HE.out.o.2.2 err).1 hN)
 replace HE := znM (Env.call HE.out hb)
 replace c := Env.c2 HE.out
 clear hN hb
 by_cases h0 : err = 0
 ·subst h0
  have HO := znM (show ∀ l ∈ f.las, LowOk l from by
   rcases HN.out with ⟨-, h9⟩ | ⟨-, h9⟩
   ·omega
   ·exact zeR h9.fits (fun l hl => ⟨Hs.out.la l hl, Hk.out l hl⟩))
  go_wp2_with fail
  refine (znK _ n hn h1n f.A f.c f.las HE.out.o.1 Hs.out.n HE.out.o.2.1 HO.out nl Hl.out).mono ?_
  rintro e w2 ⟨A2, c2, ls, rfl, hc, hm, hk, hb⟩
  have HM := znM hm
  have Hc := znM hc
  replace HE := znM (Env.ret HE.out hk hb)
  replace c := Env.c2 HE.out
  clear hm hc hk hb
  go_wp2_with fail
  have hE := HE.out.put2 (.int .i64 f.inputs) (.slice A2 (List.length ls) c2)
  replace c := Env.c2 hE
  exact bodyPost_ret (v := .tuple #[.agg #[.int .i64 f.inputs, .slice A2 (List.length ls) c2], .int .i64 0]) (by simp [results, Tryz.results10, go_sem, c]) rfl (.inr ⟨HN.out, A2, c2, ls, rfl, Hc.out, HM.out, (hE.rsn.imp fun _ h => h.1).mono fun _ h => h.1, hE.bel⟩)
 ·have H0 := znM h0
  have h1 : (err != 0) = true := by simp [h0]
  clear h0
  go_wp2_with fail
  have hE := HE.out.put2 (.int .i64 0) (.slice none 0 0)
  replace c := Env.c2 hE
  exact bodyPost_ret (v := .tuple #[.agg #[.int .i64 0, .slice none 0 0], .int .i64 err]) (by simp [results, Tryz.results10, go_sem, c]) rfl (.inl ⟨err, H0.out, HN.out, rfl, hE.bel⟩)

def ze5 (l : LaV) : LQ := if l.kind = 2 then zdS l else l.q
structure LowR (n : Nat) (l : LaV) : Prop where
 c : l.kind = 2 → ConvS l
 x : l.kind = 2 → l.ch * l.high * l.wide ≤ 256
theorem zfC {w : World} (n : Nat) : ∀ {ls : List LaV} {N : Int}, N ≤ 256 → zh9 w ls N → (∀ l ∈ ls, l.kern.length ≤ 1000) → ∀ l ∈ ls, LowR n l
 | [], _, _, _, _, l, hl => by cases hl
 | l :: ls, N, hN, h, hs, x, hx => by
  rcases List.mem_cons.1 hx with rfl | hx
  ·obtain ⟨hF, hu, -⟩ := h
   have h1 := hs x (List.mem_cons_self ..)
   rcases hF with ⟨h, -⟩ | ⟨hk, h⟩ | ⟨h, -⟩ | ⟨h, -⟩
   ·exact ⟨fun e => by omega, fun e => by omega⟩
   ·unfold zaJ at hu
    rw [if_neg (by omega), if_pos hk] at hu
    exact ⟨fun _ => ⟨h.s, h.pad, h.h, h.k, h.b, hu, h1⟩, fun _ => by rw [h.n]; exact hN⟩
   ·exact ⟨fun e => by omega, fun e => by omega⟩
   ·exact ⟨fun e => by omega, fun e => by omega⟩
  ·exact zfC n h.2.1 h.2.2 (fun l hl => hs l (List.mem_cons_of_mem _ hl)) x hx
theorem zhE (w : World) (n : Nat) (hn : n ≤ 10) (h1n : 1 ≤ n) (l : LaV) (h : LaD n l w) (hc : ConvS l) (hx : l.ch * l.high * l.wide ≤ 256) : Calls Tryz.prog 33 #[.agg #[.int .u8 l.kind, .slice l.Ar l.rows.length l.cr, .slice l.Ab l.bias.length l.cb, .int .i64 l.ch, .int .i64 l.high, .int .i64 l.wide, .int .i64 l.out, .int .i64 l.kh, .int .i64 l.kw, .int .i64 l.st, .int .i64 l.pad, .slice l.Ak l.kern.length l.ck, .slice l.Ag l.grs.length l.cg]] w (zfL (zdS l) w) := by
 have hn9 := hc.s.nn
 have hp9 := hc.pad
 have hh9 := hc.h
 obtain ⟨C, hC⟩ := zaO (z := l.ch) (by omega)
 obtain ⟨H, hH⟩ := zaO (z := l.high) (by omega)
 obtain ⟨W, hW⟩ := zaO (z := l.wide) (by omega)
 obtain ⟨O, hO⟩ := zaO (z := l.out) (by omega)
 obtain ⟨KH, hKH⟩ := zaO (z := l.kh) (by omega)
 obtain ⟨KW, hKW⟩ := zaO (z := l.kw) (by omega)
 obtain ⟨ST, hST⟩ := zaO (z := l.st) (by omega)
 obtain ⟨PD, hPD⟩ := zaO (z := l.pad) (by omega)
 have hk9 := hc.k
 have hb9 := hc.b
 have hu9 := hc.u
 have he9 := hc.e
 have hs9 := hc.s
 unfold sidesP side at hs9
 have hP : PicOk l := ⟨hc.s, hc.pad, hc.h⟩
 have hR0 : zb8 l = zb8 l := rfl
 have hQ0 : zb6 l = zb6 l := rfl
 rw [hC, hH, hW, hO, hKH, hKW, hST] at hn9 hs9
 rw [hPD, hKH, hKW] at hp9
 rw [hH, hW, hPD, hKH, hKW] at hh9
 rw [hO, hC, hKH, hKW] at hk9
 rw [hC, hH, hW] at hx
 rw [hO] at hb9
 have hkn : l.kern.length = O * (C * KH * KW) := by
  have h9 : (l.kern.length : Int) = ((O * (C * KH * KW) : Nat) : Int) := by rw [hk9]; simp only [Int.natCast_mul]
  omega
 have hEn : C * KH * KW ≤ 1000 := by
  have h8 : 1 * (C * KH * KW) ≤ O * (C * KH * KW) := Nat.mul_le_mul_right _ (by omega)
  omega
 have hR9 : zb8 l = (((((H + 2 * PD - KH) / ST + 1) : Nat) : Nat) : Int) := by
  have h8 : ((H + 2 * PD - KH : Nat) : Int) = (H : Int) + 2 * (PD : Int) - (KH : Int) := by omega
  unfold zb8
  rw [Int.natCast_add, Int.natCast_ediv, h8, hH, hPD, hKH, hST]; rfl
 have hQ9 : zb6 l = (((((W + 2 * PD - KW) / ST + 1) : Nat) : Nat) : Int) := by
  have h8 : ((W + 2 * PD - KW : Nat) : Int) = (W : Int) + 2 * (PD : Int) - (KW : Int) := by omega
  unfold zb6
  rw [Int.natCast_add, Int.natCast_ediv, h8, hW, hPD, hKW, hST]; rfl
 have hun : O * ((H + 2 * PD - KH) / ST + 1) * ((W + 2 * PD - KW) / ST + 1) ≤ 256 := by
  have h9 : ((O * ((H + 2 * PD - KH) / ST + 1) * ((W + 2 * PD - KW) / ST + 1) : Nat) : Int) ≤ 256 := by
   rw [Int.natCast_mul, Int.natCast_mul, ← hR9, ← hQ9, ← hO]; exact hu9
  omega
 have hxn : C * H * W ≤ 256 := by
  have h9 : ((C * H * W : Nat) : Int) ≤ 256 := by rw [Int.natCast_mul, Int.natCast_mul]; exact hx
  omega
 have hxs : 1 + C * H * W * (n + 1) ≤ 3000 := by
  have h9 : C * H * W * (n + 1) ≤ 256 * 11 := Nat.mul_le_mul hxn (by omega)
  omega
 have d1 := Nat.div_le_self (H + 2 * PD - KH) ST
 have d2 := Nat.div_le_self (W + 2 * PD - KW) ST
 have key := zfJ w n h1n l h l.rows.length l.bias.length l.kern.length l.grs.length rfl rfl C H W O KH KW ST PD ((H + 2 * PD - KH) / ST + 1) ((W + 2 * PD - KW) / ST + 1) ⟨hC, hH, hW, hO, hKH, hKW, hST, hPD⟩ (by omega) (by omega) hP hR9 hQ9 (by omega) hkn.symm (by omega) hEn hun (C * H * W) rfl hxn hxs (by omega)
 unfold zdS nRows nCols
 rw [hC, hH, hW, hO, hKH, hKW, hST, hPD]
 simp only [Int.toNat_natCast]
 exact key
def znm (f : NeV) (w : World) (e : Ending) (w' : World) : Prop :=
 (∃ err : Int, err ≠ 0 ∧ NetP w f err ∧ e = .returned (.tuple #[.agg #[.int .i64 0, .slice none 0 0], .int .i64 err]) ∧ Below w.heap.size w w') ∨
 (NetP w f 0 ∧ ∃ (A : Option Addr) (c : Nat) (ls : List LaV), e = .returned (.tuple #[.agg #[.int .i64 f.inputs, .slice A (List.length ls) c], .int .i64 0]) ∧ ls.map LaG.q = f.las.map ze5 ∧ Rests w' (w.heap.size ≤ ·) (fun V => El V 13 A (List.map lacells ls) ∧ ∀ l ∈ ls, (l ∈ f.las ∧ ¬ l.kind = 2) ∨ LaN l V) ∧ Below w.heap.size w w')
set_option maxRecDepth 100000 in
theorem zdZ (w : World) (n : Nat) (hn : n ≤ 10) (h1n : 1 ≤ n) (f : NeV) (h : NeD n f w) (hs : NeT f) (hk : ∀ l ∈ f.las, l.kern.length ≤ 1000) (nl : Nat) (hnl : nl = f.las.length) : Calls Tryz.prog 11 #[.agg #[.int .i64 f.inputs, .slice f.A nl f.c]] w (znm f w) := by
 have Hn := znM hnl
 have Hs := znM hs
 have Hk := znM hk
 have Hw := znM h
 have sl1 := h.sl
 rw [← hnl] at sl1
 have hsz1 := zbL
 have hadd := za7
 have hnb : nl ≤ 100000 := by have := hs.n; omega
 obtain ⟨W0, hW0⟩ : ∃ W0, W0 = ((w.alloc (.cells #[.int .i64 f.inputs, .slice f.A nl f.c] 24)).alloc (.cells #[.int .i64 0, .slice none 0 0] 24)) := ⟨_, rfl⟩
 have HE := znM (Env.lay2 (Env.start ((h.old).and ((NeD.iffR h)))) hW0)
 subst hW0
 have c := Env.c2 HE.out
 have dd := Env.d2 HE.out
 clear h hnl hs hk
 go_enter Tryz.func11, Tryz.ntmps11
 go_wp2_with fail
 refine (zfW _ n (by omega) h1n f HE.out.o.1 Hs.out nl Hn.out).mono ?_
 rintro e w1 ⟨A0, c0, us, err, rfl, hN, -, -, -, -, hb⟩
 have HN := znM ((HE.out.o.2 err).1 hN)
 replace HE := znM (Env.call HE.out hb)
 replace c := Env.c2 HE.out
 clear hN hb
 by_cases h0 : err = 0
 ·subst h0
  have HO := znM (show ∀ l ∈ f.las, LowR n l from by
   rcases HN.out with ⟨-, h9⟩ | ⟨h8, h9⟩
   ·omega
   ·exact zfC n (by have := h8.2.1; omega) h9.fits (fun l hl => Hk.out l hl))
  go_upto_region 6 with fail
  have HG := znM (GL.ofEnv (bs1 := [⟨w.heap.size + 1, 24, #[.int .i64 0, .slice none 0 0]⟩]) (bs2 := [⟨w.heap.size, 24, #[.int .i64 f.inputs, .slice f.A nl f.c]⟩]) HE.out)
  obtain ⟨W5, g6, hW5, hg6, HG2⟩ := HG.out.alb 24 #[.int .i64 f.inputs, .slice none 0 0]
  rw [hW5, hg6]
  clear hW5 hg6 HG HE c
  have HG := znM ((HG2.out.new_ 38 13).imp (φ := fun V => (∀ b ∈ [(⟨w.heap.size, 24, #[.int .i64 f.inputs, .slice f.A nl f.c]⟩ : Bo)], Blk V b.g b.t b.cs) ∧ NeD n f V) (ψ := fun V => ∀ zl ∈ ([] : List LaV), (zl ∈ f.las ∧ ¬ zl.kind = 2) ∨ LaN zl V) (fun _ h => ⟨h.1, h.2.1⟩) (fun _ _ => by simp))
  clear HG2
  go_loopw [7] (fun iv wr => ∃ (i : Nat) (Al : Option Addr) (cl : Nat) (ls : List LaV), iv = .int .i64 (i : Int) ∧ i ≤ nl ∧ Hid (ls.map LaG.q = (f.las.take i).map ze5) ∧ Hid (GL w (⟨38, 13, .slice Al (List.length ls) cl, List.map lacells ls⟩ :: bow g6 24 2 #[.int .i64 f.inputs, .slice Al (List.length ls) cl] :: bow (w.heap.size + 1) 24 2 #[.int .i64 0, .slice none 0 0] :: []) (fun V => (∀ b ∈ [(⟨w.heap.size, 24, #[.int .i64 f.inputs, .slice f.A nl f.c]⟩ : Bo)], Blk V b.g b.t b.cs) ∧ NeD n f V) (fun V => ∀ zl ∈ ls, (zl ∈ f.las ∧ ¬ zl.kind = 2) ∨ LaN zl V) wr)) (fun iv _ => nl - (intOf iv).toNat)
  case atStart => exact ⟨0, none, 0, [], rfl, Nat.zero_le _, znM rfl, HG⟩
  case round =>
   clear HG
   obtain ⟨i, Al, cl, ls, rfl, hi, HM, HG⟩ := hrel
   have cf := Blk.cb (HG.out.o.1 _ (List.mem_singleton_self _))
   by_cases hlt : i < nl
   ·have hlt2 : i < f.las.length := by rw [← Hn.out]; exact hlt
    have hlsl := congrArg List.length HM.out
    rw [List.length_map, List.length_map, List.length_take] at hlsl
    have hlsb : ls.length ≤ 100000 := by omega
    clear hlsl
    have Hlsb := znM hlsb
    clear hlsb
    have HM2 := znM (fun (y : LaV) (hy : y.q = ze5 f.las[i]) => zb0 HM.out hlt2 hy)
    have HP := znM (fun (V : World) (h1 : NeD n f V) => h1.ok _ (List.getElem_mem hlt2))
    have HLO := znM (HO.out _ (List.getElem_mem hlt2))
    have Hm := znM (List.getElem_mem hlt2)
    have HLC := znM (fun (V : World) (h1 : NeD n f V) => h1.lac i hlt2)
    have c0 := HG.out.o.2.lac i hlt2
    obtain ⟨l, hl⟩ : ∃ l, l = f.las[i] := ⟨_, rfl⟩
    rw [← hl] at c0 HM2 HP HLO Hm HLC
    clear hl
    by_cases hk2 : l.kind = 2
    focus
     have HQ := znM (show ze5 l = zdS l from if_pos hk2)
     have HK2 := znM hk2
     have e0 : (l.kind == 2) = true := by simp [hk2]
     go_upto_region 9 with fail
     clear c0 cf e0 hk2
     refine wp_region_noPanic ?_
     refine zaS 11 (fun V => CB g6 #[.int .i64 f.inputs, .slice Al (List.length ls) cl] V ∧ CB (w.heap.size) #[.int .i64 f.inputs, .slice f.A nl f.c] V ∧ LC f.A i l V) (by kernel_rfl) (by with_reducible first | exact ⟨HG.out.cb (k := 1) rfl, Blk.cb (HG.out.o.1 _ (List.mem_singleton_self _)), HLC.out _ HG.out.o.2⟩ | exact ⟨HG.out.drew.cb (k := 1) rfl, Blk.cb (HG.out.drew.o.1 _ (List.mem_singleton_self _)), HLC.out _ HG.out.drew.o.2⟩) (fun hHeld => ?_)
     replace HG := znM HG.out.drew
     refine gTa 0 34 hHeld ?_
     refine gTa 1 35 hHeld ?_
     refine gTa 2 36 hHeld ?_
     refine gTa 3 37 hHeld ?_
     refine gTa 4 38 hHeld ?_
     refine gTa 5 39 hHeld ?_
     refine gTa 6 40 hHeld ?_
     refine gC 7 rfl (by kernel_rfl) (by rfl) (fun K hK => ?_)
     clear hHeld
     simp only [q1, q2, q3]
     go_simp
     refine (zhE _ n hn h1n l (HP.out _ HG.out.o.2) (HLO.out.c HK2.out) (HLO.out.x HK2.out)).mono ?_
     rintro e wq ⟨y, rfl, hy9, hk9, hb9⟩
     have HYQ := znM hy9
     replace HG := znM (HG.out.call hk9 hb9)
     clear hy9 hk9 hb9
     (try (go_wp2_with fail))
     refine hK.out _ _ (by with_reducible first | exact ⟨HG.out.cb (k := 1) rfl, Blk.cb (HG.out.o.1 _ (List.mem_singleton_self _)), HLC.out _ HG.out.o.2⟩ | exact ⟨HG.out.drew.cb (k := 1) rfl, Blk.cb (HG.out.drew.o.1 _ (List.mem_singleton_self _)), HLC.out _ HG.out.drew.o.2⟩) (fun hHeld => ?_)
     clear hK K
     try simp only [p1, p2, p3, p4]
     refine gC 8 rfl (by kernel_rfl) (by rfl) (fun K hK => ?_)
     clear hHeld
     simp only [q1, q2, q3]
     go_simp
     (try (go_wp2_with fail))
     obtain ⟨W7, gb, hW7, hgb, HG⟩ := HG.out.al 38 #[.int .u8 y.kind, .slice y.Ar y.rows.length y.cr, .slice y.Ab y.bias.length y.cb, .int .i64 y.ch, .int .i64 y.high, .int .i64 y.wide, .int .i64 y.out, .int .i64 y.kh, .int .i64 y.kw, .int .i64 y.st, .int .i64 y.pad, .slice y.Ak y.kern.length y.ck, .slice y.Ag y.grs.length y.cg]
     rw [hW7, hgb]
     clear hW7 hgb
     (try (go_wp2_with fail))
     refine hK.out _ _ (by with_reducible first | exact ⟨HG.out.cb (k := 1) rfl, Blk.cb (HG.out.o.1 _ (List.mem_singleton_self _)), HLC.out _ HG.out.o.2⟩ | exact ⟨HG.out.drew.cb (k := 1) rfl, Blk.cb (HG.out.drew.o.1 _ (List.mem_singleton_self _)), HLC.out _ HG.out.drew.o.2⟩) (fun hHeld => ?_)
     clear hK K
     try simp only [p1, p2, p3, p4]
     obtain ⟨A2, c2, W8, hrun, HG2⟩ := GL.appG (k := 0) (cells := lacells) zcR zdx rfl (by decide) (by decide) HG.out rfl (y : LaV) rfl (zcM y) HG.out.n.1 (by have := Hlsb.out; omega)
     refine gC 9 rfl (by kernel_rfl) (by rfl) (fun K hK => ?_)
     clear hHeld
     simp only [q1, q2, q3]
     refine zbC (.tmp 35) (.tmp 42) 22 _ _ _ rfl rfl rfl hrun ?_
     clear hrun
     replace HG := znM HG2
     clear HG2
     refine hK.out _ _ (by with_reducible first | exact ⟨HG.out.cb (k := 1) rfl, Blk.cb (HG.out.o.1 _ (List.mem_singleton_self _)), HLC.out _ HG.out.o.2⟩ | exact ⟨HG.out.drew.cb (k := 1) rfl, Blk.cb (HG.out.drew.o.1 _ (List.mem_singleton_self _)), HLC.out _ HG.out.drew.o.2⟩) (fun hHeld => ?_)
     clear hK K
     try simp only [p1, p2, p3, p4]
     refine gTa 10 44 hHeld ?_
     have cc := HG.out.cb (k := 1) rfl
     refine gL rfl (by kernel_rfl) (by kernel_rfl) (by rfl) (fun K hK => ?_)
     clear hHeld
     simp only [q1, q2, q3]
     go_simp
     (try (go_wp2_with fail))
     refine hK.out _ _ ?_
     clear hK K
     try simp only [p1, p2, p3, p4]
     refine NoPanic.normal ?_
     clear cc
     have HG3 := HG.out.putc (k := 1) (i := 1) rfl (by decide) (.slice A2 (List.length (ls ++ [y])) c2)
     replace HG := znM (show GL w (⟨38, 13, .slice A2 (List.length (ls ++ [y])) c2, List.map lacells (ls ++ [y])⟩ :: bow g6 24 2 #[.int .i64 f.inputs, .slice A2 (List.length (ls ++ [y])) c2] :: bow (w.heap.size + 1) 24 2 #[.int .i64 0, .slice none 0 0] :: []) (fun V => (∀ b ∈ [(⟨w.heap.size, 24, #[.int .i64 f.inputs, .slice f.A nl f.c]⟩ : Bo)], Blk V b.g b.t b.cs) ∧ NeD n f V) (fun V => ∀ zl ∈ (ls ++ [y]), (zl ∈ f.las ∧ ¬ zl.kind = 2) ∨ LaN zl V) _ from HG3.imp (fun _ h => h) (fun V h => fun zl hz => (List.mem_append.1 hz).elim (fun hz => h.2.2 zl hz) (fun hz => by rw [List.mem_singleton.1 hz]; exact .inr h.2.1)))
     clear HG3
     have HMN := znM (HM2.out y (HYQ.out.trans HQ.out.symm))
     obtain ⟨ls1, hls1⟩ : ∃ x, x = (ls ++ [y]) := ⟨_, rfl⟩
    rotate_left
    focus
     have HQ := znM (show ze5 l = l.q from if_neg hk2)
     have HK2 := znM hk2
     have e0 : (l.kind == 2) = false := by simp [hk2]
     go_upto_region 10 with fail
     clear c0 cf e0 hk2
     refine wp_region_noPanic ?_
     refine zaS 10 (fun V => CB g6 #[.int .i64 f.inputs, .slice Al (List.length ls) cl] V ∧ CB (w.heap.size) #[.int .i64 f.inputs, .slice f.A nl f.c] V ∧ LC f.A i l V) (by kernel_rfl) (by with_reducible first | exact ⟨HG.out.cb (k := 1) rfl, Blk.cb (HG.out.o.1 _ (List.mem_singleton_self _)), HLC.out _ HG.out.o.2⟩ | exact ⟨HG.out.drew.cb (k := 1) rfl, Blk.cb (HG.out.drew.o.1 _ (List.mem_singleton_self _)), HLC.out _ HG.out.drew.o.2⟩) (fun hHeld => ?_)
     refine gTa 0 45 hHeld ?_
     refine gTa 1 46 hHeld ?_
     refine gTa 2 47 hHeld ?_
     refine gTa 3 48 hHeld ?_
     refine gTa 4 49 hHeld ?_
     refine gTa 5 50 hHeld ?_
     refine gTa 6 51 hHeld ?_
     refine gC 7 rfl (by kernel_rfl) (by rfl) (fun K hK => ?_)
     clear hHeld
     simp only [q1, q2, q3]
     go_simp
     (try (go_wp2_with fail))
     obtain ⟨W7, gb, hW7, hgb, HG⟩ := HG.out.al 38 #[.int .u8 l.kind, .slice l.Ar l.rows.length l.cr, .slice l.Ab l.bias.length l.cb, .int .i64 l.ch, .int .i64 l.high, .int .i64 l.wide, .int .i64 l.out, .int .i64 l.kh, .int .i64 l.kw, .int .i64 l.st, .int .i64 l.pad, .slice l.Ak l.kern.length l.ck, .slice l.Ag l.grs.length l.cg]
     rw [hW7, hgb]
     clear hW7 hgb
     replace HG := znM HG.out.drew
     (try (go_wp2_with fail))
     refine hK.out _ _ (by with_reducible first | exact ⟨HG.out.cb (k := 1) rfl, Blk.cb (HG.out.o.1 _ (List.mem_singleton_self _)), HLC.out _ HG.out.o.2⟩ | exact ⟨HG.out.drew.cb (k := 1) rfl, Blk.cb (HG.out.drew.o.1 _ (List.mem_singleton_self _)), HLC.out _ HG.out.drew.o.2⟩) (fun hHeld => ?_)
     clear hK K
     try simp only [p1, p2, p3, p4]
     obtain ⟨A2, c2, W8, hrun, HG2⟩ := GL.appG (k := 0) (cells := lacells) zcR zdx rfl (by decide) (by decide) HG.out rfl (l : LaV) rfl (zcM l) HG.out.n.1 (by have := Hlsb.out; omega)
     refine gC 8 rfl (by kernel_rfl) (by rfl) (fun K hK => ?_)
     clear hHeld
     simp only [q1, q2, q3]
     refine zbC (.tmp 46) (.tmp 52) 22 _ _ _ rfl rfl rfl hrun ?_
     clear hrun
     replace HG := znM HG2
     clear HG2
     refine hK.out _ _ (by with_reducible first | exact ⟨HG.out.cb (k := 1) rfl, Blk.cb (HG.out.o.1 _ (List.mem_singleton_self _)), HLC.out _ HG.out.o.2⟩ | exact ⟨HG.out.drew.cb (k := 1) rfl, Blk.cb (HG.out.drew.o.1 _ (List.mem_singleton_self _)), HLC.out _ HG.out.drew.o.2⟩) (fun hHeld => ?_)
     clear hK K
     try simp only [p1, p2, p3, p4]
     refine gTa 9 54 hHeld ?_
     have cc := HG.out.cb (k := 1) rfl
     refine gL rfl (by kernel_rfl) (by kernel_rfl) (by rfl) (fun K hK => ?_)
     clear hHeld
     simp only [q1, q2, q3]
     go_simp
     (try (go_wp2_with fail))
     refine hK.out _ _ ?_
     clear hK K
     try simp only [p1, p2, p3, p4]
     refine NoPanic.normal ?_
     clear cc
     have HG3 := HG.out.putc (k := 1) (i := 1) rfl (by decide) (.slice A2 (List.length (ls ++ [l])) c2)
     replace HG := znM (show GL w (⟨38, 13, .slice A2 (List.length (ls ++ [l])) c2, List.map lacells (ls ++ [l])⟩ :: bow g6 24 2 #[.int .i64 f.inputs, .slice A2 (List.length (ls ++ [l])) c2] :: bow (w.heap.size + 1) 24 2 #[.int .i64 0, .slice none 0 0] :: []) (fun V => (∀ b ∈ [(⟨w.heap.size, 24, #[.int .i64 f.inputs, .slice f.A nl f.c]⟩ : Bo)], Blk V b.g b.t b.cs) ∧ NeD n f V) (fun V => ∀ zl ∈ (ls ++ [l]), (zl ∈ f.las ∧ ¬ zl.kind = 2) ∨ LaN zl V) _ from HG3.imp (fun _ h => h) (fun V h => fun zl hz => (List.mem_append.1 hz).elim (fun hz => h.2 zl hz) (fun hz => by rw [List.mem_singleton.1 hz]; exact .inl ⟨Hm.out, HK2.out⟩)))
     clear HG3
     have HMN := znM (HM2.out l (HQ.out.symm))
     obtain ⟨ls1, hls1⟩ : ∃ x, x = (ls ++ [l]) := ⟨_, rfl⟩
    rotate_left
    all_goals
     have hlen1 : List.length ls + 1 = List.length ls1 := by rw [hls1]; simp
     have HMN2 := znM (show ls1.map LaG.q = (f.las.take (i + 1)).map ze5 from by rw [hls1, List.map_append]; exact HMN.out)
     rw [← hls1] at HG
     rw [hlen1]
     clear hls1 hlen1 HMN
     go_wp2_with fail
     go_roundw
     case rel => exact ⟨i + 1, A2, c2, ls1, by go_num, by omega, HMN2, HG⟩
     case measure => (simp [intOf] <;> omega)
   ·obtain rfl : i = nl := by omega
    have c6 := HG.out.cb (k := 1) rfl
    have c2 := HG.out.cb (k := 2) rfl
    go_wp2_with fail
    have hG := (HG.out.putc (k := 2) (i := 0) rfl (by decide) (.int .i64 f.inputs)).putc (k := 2) (i := 1) rfl (by decide) (.slice Al (List.length ls) cl)
    replace c2 := hG.cb (k := 2) rfl
    exact bodyPost_ret (v := .tuple #[.agg #[.int .i64 f.inputs, .slice Al (List.length ls) cl], .int .i64 0]) (by simp [results, Tryz.results11, go_sem, c2]) rfl (.inr ⟨HN.out, Al, cl, ls, rfl, by rw [HM.out, Hn.out, List.take_length], ((hG.els9 (k := 0) rfl).and (hG.rsn.mono fun _ h => h.1)).imp fun V h => ⟨h.1, h.2⟩, hG.bel⟩)
 ·have H0 := znM h0
  have h1 : (err != 0) = true := by simp [h0]
  clear h0
  go_wp2_with fail
  have hE := HE.out.put2 (.int .i64 0) (.slice none 0 0)
  replace c := Env.c2 hE
  exact bodyPost_ret (v := .tuple #[.agg #[.int .i64 0, .slice none 0 0], .int .i64 err]) (by simp [results, Tryz.results11, go_sem, c]) rfl (.inl ⟨err, H0.out, HN.out, rfl, hE.bel⟩)

def zcD (P : Prop) (e : Ending) : Prop := ∃ B, e = .returned (.bool B) ∧ (B = true → P)
theorem zal {P : Prop} : zcD P (.returned (.bool false)) := ⟨false, rfl, fun h => absurd h (by decide)⟩
theorem zcq {P : Prop} (h : P) : zcD P (.returned (.bool true)) := ⟨true, rfl, fun _ => h⟩
def shR (d : Nat) (r : RV) : Prop := r.num.k ≤ d ∧ r.den.k ≤ d
set_option maxRecDepth 100000 in
theorem zgm (w : World) (r : RV) (d : Nat) (hk : ¬ r.num.k ≤ d) : Calls Tryz.prog 36 #[rA r, .int .i64 (d : Int)] w fun e w' => zcD (shR d r) e ∧ Below w.heap.size w w' := by
 have HE := znM (lyR r (Rests.pure trivial w _))
 have c := Env.c1 HE.out
 unfold rA
 go_enter Tryz.func36, Tryz.ntmps36
 have h9 : ¬ r.num.k ≤ d := hk
 go_wp2_with fail
 go_ret
 exact ⟨zal, HE.out.bel⟩
set_option maxRecDepth 100000 in
theorem zfX (w : World) (r : RV) (d : Nat) (hk : r.num.k ≤ d) : Calls Tryz.prog 36 #[rA r, .int .i64 (d : Int)] w fun e w' => zcD (shR d r) e ∧ Below w.heap.size w w' := by
 have HE := znM (lyR r (Rests.pure trivial w _))
 have c := Env.c1 HE.out
 unfold rA
 go_enter Tryz.func36, Tryz.ntmps36
 have h9 : r.num.k ≤ d := hk
 go_wp2_with fail
 go_ret
 exact ⟨⟨_, rfl, fun h => ⟨by omega, by simpa using h⟩⟩, HE.out.bel⟩
theorem zcS (w : World) (r : RV) (d : Nat) : Calls Tryz.prog 36 #[rA r, .int .i64 (d : Int)] w fun e w' => zcD (shR d r) e ∧ Below w.heap.size w w' := by
 by_cases hk : r.num.k ≤ d
 ·exact zfX w r d hk
 ·exact zgm w r d hk
set_option maxRecDepth 100000 in
theorem zec (w : World) {ok : RV × Rat → World → Prop} (hok : ∀ p W, ok p W → Rests W (· < W.heap.size) (ok p)) (A : Option Addr) (c : Nat) (l : List (RV × Rat)) (h : LsR 4 rtcells ok A l w) (hl : l.length ≤ 9223372036854775807) (U d : Nat) (nl : Nat) (hnl : nl = l.length) :
 Calls Tryz.prog 14 #[.slice A nl c, .int .i64 (U : Int), .int .i64 (d : Int)] w fun e w' => zcD (l.length ≤ U ∧ ∀ p ∈ l, shR d p.1) e ∧ Below w.heap.size w w' := by
 have sl1 := h.sl
 rw [← hnl] at sl1
 have hsz2 := zaQ
 have hadd := za7
 have hnb : nl ≤ 9223372036854775807 := by omega
 have Hn := znM hnl
 have Ho := znM (h.old hok)
 have Hb := znM (Below.refl w.heap.size w)
 clear h hnl hl
 go_enter Tryz.func14, Tryz.ntmps14
 go_upto_region 1 with fail
 by_cases q0 : U < nl
 ·go_wp2_with fail
  go_ret
  exact ⟨zal, Hb.out⟩
 ·have H0 := znM q0
  go_wp2_with fail
  clear q0
  go_loopw [7] (fun iv wr => ∃ i : Nat, iv = .int .i64 (i : Int) ∧ i ≤ nl ∧ Hid (∀ p ∈ l.take i, shR d p.1) ∧ Hid (Below w.heap.size w wr)) (fun iv _ => nl - (intOf iv).toNat)
  case atStart => exact ⟨0, rfl, Nat.zero_le _, znM (by simp), Hb⟩
  case round =>
   clear Hb
   obtain ⟨i, rfl, hi, HP, Hb⟩ := hrel
   by_cases hlt : i < nl
   ·have hlt2 : i < l.length := by rw [← Hn.out]; exact hlt
    have HL := znM (Ho.out.below Hb.out).now
    have c0 := HL.out.rc i hlt2
    obtain ⟨v, hv⟩ : ∃ v, v = l[i] := ⟨_, rfl⟩
    rw [← hv] at c0
    have Hv := znM hv
    have Hm := znM (show v ∈ l by rw [hv]; exact List.getElem_mem hlt2)
    clear hv
    go_wp2_with fail
    refine (zcS _ v.1 d).mono ?_
    rintro e w3 ⟨⟨B, rfl, hB⟩, hb⟩
    have HB := znM hB
    replace Hb := znM (Below.after Hb.out hb)
    clear hb hB c0
    cases B
    ·go_wp2_with fail
     go_ret
     exact ⟨zal, Hb.out⟩
    ·go_wp2_with fail
     go_roundw
     case rel => exact ⟨i + 1, by go_num, by omega, znM (zax HP.out hlt2 (by rw [← Hv.out]; exact HB.out (by first | rfl | trivial))), Hb⟩
     case measure => (simp [intOf] <;> omega)
   ·obtain rfl : i = nl := by omega
    have HP2 := znM (show ∀ p ∈ l, shR d p.1 by have := HP.out; rw [Hn.out, List.take_length] at this; exact this)
    go_wp2_with fail
    go_ret
    exact ⟨zcq ⟨by have := H0.out; have := Hn.out; omega, HP2.out⟩, Hb.out⟩
set_option maxRecDepth 100000 in
theorem zjk (w : World) {ok : TeV → World → Prop} (hok : ∀ p W, ok p W → Rests W (· < W.heap.size) (ok p)) (A : Option Addr) (c : Nat) (l : List (TeV)) (h : LsR 5 tecells ok A l w) (hl : l.length ≤ 9223372036854775807) (U d : Nat) (nl : Nat) (hnl : nl = l.length) :
 Calls Tryz.prog 41 #[.slice A nl c, .int .i64 (U : Int), .int .i64 (d : Int)] w fun e w' => zcD (l.length ≤ U ∧ ∀ p ∈ l, shR d p.r) e ∧ Below w.heap.size w w' := by
 have sl1 := h.sl
 rw [← hnl] at sl1
 have hsz2 := zav
 have hadd := za7
 have hnb : nl ≤ 9223372036854775807 := by omega
 have Hn := znM hnl
 have Ho := znM (h.old hok)
 have Hb := znM (Below.refl w.heap.size w)
 clear h hnl hl
 go_enter Tryz.func41, Tryz.ntmps41
 go_upto_region 1 with fail
 by_cases q0 : U < nl
 ·go_wp2_with fail
  go_ret
  exact ⟨zal, Hb.out⟩
 ·have H0 := znM q0
  go_wp2_with fail
  clear q0
  go_loopw [7] (fun iv wr => ∃ i : Nat, iv = .int .i64 (i : Int) ∧ i ≤ nl ∧ Hid (∀ p ∈ l.take i, shR d p.r) ∧ Hid (Below w.heap.size w wr)) (fun iv _ => nl - (intOf iv).toNat)
  case atStart => exact ⟨0, rfl, Nat.zero_le _, znM (by simp), Hb⟩
  case round =>
   clear Hb
   obtain ⟨i, rfl, hi, HP, Hb⟩ := hrel
   by_cases hlt : i < nl
   ·have hlt2 : i < l.length := by rw [← Hn.out]; exact hlt
    have HL := znM (Ho.out.below Hb.out).now
    have c0 := HL.out.tc i hlt2
    obtain ⟨v, hv⟩ : ∃ v, v = l[i] := ⟨_, rfl⟩
    rw [← hv] at c0
    have Hv := znM hv
    have Hm := znM (show v ∈ l by rw [hv]; exact List.getElem_mem hlt2)
    clear hv
    go_wp2_with fail
    refine (zcS _ v.r d).mono ?_
    rintro e w3 ⟨⟨B, rfl, hB⟩, hb⟩
    have HB := znM hB
    replace Hb := znM (Below.after Hb.out hb)
    clear hb hB c0
    cases B
    ·go_wp2_with fail
     go_ret
     exact ⟨zal, Hb.out⟩
    ·go_wp2_with fail
     go_roundw
     case rel => exact ⟨i + 1, by go_num, by omega, znM (zax HP.out hlt2 (by rw [← Hv.out]; exact HB.out (by first | rfl | trivial))), Hb⟩
     case measure => (simp [intOf] <;> omega)
   ·obtain rfl : i = nl := by omega
    have HP2 := znM (show ∀ p ∈ l, shR d p.r by have := HP.out; rw [Hn.out, List.take_length] at this; exact this)
    go_wp2_with fail
    go_ret
    exact ⟨zcq ⟨by have := H0.out; have := Hn.out; omega, HP2.out⟩, Hb.out⟩
set_option maxRecDepth 100000 in
theorem zhN (w : World) {ok : TeV → World → Prop} (hte : ∀ p W, ok p W → Rests W (· < W.heap.size) (ok p)) (A : Option Addr) (c : Nat) (l : List (VeV)) (h : LsR 1 vecells (veF ok) A l w) (hl : l.length ≤ 9223372036854775807) (U V d : Nat) (hv : ∀ v ∈ l, v.ts.length ≤ 9223372036854775807) (nl : Nat) (hnl : nl = l.length) :
 Calls Tryz.prog 21 #[.slice A nl c, .int .i64 (U : Int), .int .i64 (V : Int), .int .i64 (d : Int)] w fun e w' => zcD (l.length ≤ U ∧ ∀ p ∈ l, (p.ts.length ≤ V ∧ ∀ t ∈ p.ts, shR d t.r)) e ∧ Below w.heap.size w w' := by
 have sl1 := h.sl
 rw [← hnl] at sl1
 have hsz2 := zaZ
 have hadd := za7
 have hnb : nl ≤ 9223372036854775807 := by omega
 have Hn := znM hnl
 have Hv2 := znM hv
 clear hv
 have Ho := znM (h.old (zex hte))
 have Hb := znM (Below.refl w.heap.size w)
 clear h hnl hl
 go_enter Tryz.func21, Tryz.ntmps21
 go_upto_region 1 with fail
 by_cases q0 : U < nl
 ·go_wp2_with fail
  go_ret
  exact ⟨zal, Hb.out⟩
 ·have H0 := znM q0
  go_wp2_with fail
  clear q0
  go_loopw [9] (fun iv wr => ∃ i : Nat, iv = .int .i64 (i : Int) ∧ i ≤ nl ∧ Hid (∀ p ∈ l.take i, (p.ts.length ≤ V ∧ ∀ t ∈ p.ts, shR d t.r)) ∧ Hid (Below w.heap.size w wr)) (fun iv _ => nl - (intOf iv).toNat)
  case atStart => exact ⟨0, rfl, Nat.zero_le _, znM (by simp), Hb⟩
  case round =>
   clear Hb
   obtain ⟨i, rfl, hi, HP, Hb⟩ := hrel
   by_cases hlt : i < nl
   ·have hlt2 : i < l.length := by rw [← Hn.out]; exact hlt
    have HL := znM (Ho.out.below Hb.out).now
    have c0 := HL.out.vc i hlt2
    obtain ⟨v, hv⟩ : ∃ v, v = l[i] := ⟨_, rfl⟩
    rw [← hv] at c0
    have Hv := znM hv
    have Hm := znM (show v ∈ l by rw [hv]; exact List.getElem_mem hlt2)
    clear hv
    go_wp2_with fail
    refine (zjk _ hte v.A v.c v.ts (HL.out.ok v Hm.out) (Hv2.out v Hm.out) V d _ rfl).mono ?_
    rintro e w3 ⟨⟨B, rfl, hB⟩, hb⟩
    have HB := znM hB
    replace Hb := znM (Below.after Hb.out hb)
    clear hb hB c0
    cases B
    ·go_wp2_with fail
     go_ret
     exact ⟨zal, Hb.out⟩
    ·go_wp2_with fail
     go_roundw
     case rel => exact ⟨i + 1, by go_num, by omega, znM (zax HP.out hlt2 (by rw [← Hv.out]; exact HB.out (by first | rfl | trivial))), Hb⟩
     case measure => (simp [intOf] <;> omega)
   ·obtain rfl : i = nl := by omega
    have HP2 := znM (show ∀ p ∈ l, (p.ts.length ≤ V ∧ ∀ t ∈ p.ts, shR d t.r) by have := HP.out; rw [Hn.out, List.take_length] at this; exact this)
    go_wp2_with fail
    go_ret
    exact ⟨zcq ⟨by have := H0.out; have := Hn.out; omega, HP2.out⟩, Hb.out⟩
structure SmL (U d : Nat) (l : LaV) : Prop where
 rows : l.rows.length ≤ U ∧ ∀ v ∈ l.rows, v.ts.length ≤ U ∧ ∀ t ∈ v.ts, shR d t.r
 bias : l.bias.length ≤ U ∧ ∀ p ∈ l.bias, shR d p.1
 kern : l.kern.length ≤ 4 * U ∧ ∀ p ∈ l.kern, shR d p.1
 grs : l.grs.length ≤ U
 dims : l.out ≤ U ∧ l.ch ≤ U ∧ l.high ≤ U ∧ l.wide ≤ U
 gr : ∀ g ∈ l.grs, g.l.length ≤ U
structure LaM (l : LaV) : Prop where
 rows : l.rows.length ≤ 9223372036854775807
 row : ∀ v ∈ l.rows, v.ts.length ≤ 9223372036854775807
 bias : l.bias.length ≤ 9223372036854775807
 kern : l.kern.length ≤ 9223372036854775807
 grs : l.grs.length ≤ 9223372036854775807
 gr : ∀ g ∈ l.grs, g.l.length ≤ 9223372036854775807
set_option maxRecDepth 100000 in
theorem zfh (w : World) (n : Nat) (f : NeV) (h : NeD n f w) (hm : ∀ l ∈ f.las, LaM l) (hml : f.las.length ≤ 9223372036854775807) (X U d : Nat) (hU : U ≤ 1000) (nl : Nat) (hnl : nl = f.las.length) : Calls Tryz.prog 7 #[.agg #[.int .i64 f.inputs, .slice f.A nl f.c], .int .i64 (X : Int), .int .i64 (U : Int), .int .i64 (d : Int)] w fun e w' => zcD (f.las.length ≤ X ∧ ∀ l ∈ f.las, SmL U d l) e ∧ Below w.heap.size w w' := by
 have sl1 := h.sl
 rw [← hnl] at sl1
 have hsz1 := zbL
 have hszg := zbn
 have hszi := zas
 have hadd := za7
 have hnb : nl ≤ 9223372036854775807 := by omega
 have Hl := znM hnl
 have Hm := znM hm
 obtain ⟨W0, hW0⟩ : ∃ W0, W0 = (w.alloc (.cells #[.int .i64 f.inputs, .slice f.A nl f.c] 24)) := ⟨_, rfl⟩
 have HE := znM (Env.lay1 (Env.start (h.old)) hW0)
 subst hW0
 have c := Env.c1 HE.out
 clear h hnl hm
 go_enter Tryz.func7, Tryz.ntmps7
 go_upto_region 1 with fail
 by_cases q0 : X < nl
 ·go_wp2_with fail
  go_ret
  exact ⟨zal, HE.out.bel⟩
 ·have H0 := znM q0
  go_wp2_with fail
  clear q0 c
  go_loopw [9] (fun iv wr => ∃ i : Nat, iv = .int .i64 (i : Int) ∧ i ≤ nl ∧ Hid (∀ l ∈ f.las.take i, SmL U d l) ∧ Hid (Env w [⟨w.heap.size, 24, #[.int .i64 f.inputs, .slice f.A nl f.c]⟩] (NeD n f) (fun _ => True) wr)) (fun iv _ => nl - (intOf iv).toNat)
  case atStart => exact ⟨0, rfl, Nat.zero_le _, znM (by simp), HE⟩
  case round =>
   clear HE
   obtain ⟨i, rfl, hi, HP, HE⟩ := hrel
   have c := Env.c1 HE.out
   by_cases hlt : i < nl
   ·have hlt2 : i < f.las.length := by rw [← Hl.out]; exact hlt
    have cl := HE.out.o.lac i hlt2
    obtain ⟨l, hl⟩ : ∃ l, l = f.las[i] := ⟨_, rfl⟩
    rw [← hl] at cl
    have Hv := znM hl
    have Hmm := znM (show l ∈ f.las by rw [hl]; exact List.getElem_mem hlt2)
    clear hl
    have HLM := znM (Hm.out l Hmm.out)
    obtain ⟨nr, hnr⟩ : ∃ k, k = l.rows.length := ⟨_, rfl⟩
    obtain ⟨nb, hnbb⟩ : ∃ k, k = l.bias.length := ⟨_, rfl⟩
    obtain ⟨nk, hnk⟩ : ∃ k, k = l.kern.length := ⟨_, rfl⟩
    obtain ⟨ng, hng⟩ : ∃ k, k = l.grs.length := ⟨_, rfl⟩
    dsimp only [LC] at cl
    rw [← hnr, ← hnbb, ← hnk, ← hng] at cl
    have Hnr := znM hnr
    have Hnb := znM hnbb
    have Hnk := znM hnk
    have Hng := znM hng
    have slg := (HE.out.o.ok l Hmm.out).grs.sl
    rw [← hng] at slg
    have hngb : ng ≤ 9223372036854775807 := by rw [hng]; exact HLM.out.grs
    clear hnr hnbb hnk hng
    go_upto_region 7 with fail
    obtain ⟨W2, gl, hW2, hgl, HE2⟩ := Env.al HE.out 38 #[.int .u8 l.kind, .slice l.Ar nr l.cr, .slice l.Ab nb l.cb, .int .i64 l.ch, .int .i64 l.high, .int .i64 l.wide, .int .i64 l.out, .int .i64 l.kh, .int .i64 l.kw, .int .i64 l.st, .int .i64 l.pad, .slice l.Ak nk l.ck, .slice l.Ag ng l.cg]
    rw [hW2, hgl]
    clear hW2 hgl cl c
    have c := Env.c2 HE2.out
    go_wp2_with fail
    refine (zhN _ zbm l.Ar l.cr l.rows (HE2.out.o.ok l Hmm.out).rows HLM.out.rows U U d HLM.out.row nr Hnr.out).mono ?_
    rintro e w3 ⟨⟨B, rfl, hB⟩, hb⟩
    have HB1 := znM hB
    replace HE2 := znM (Env.call HE2.out hb)
    replace c := Env.c2 HE2.out
    clear hb hB
    cases B
    ·go_wp2_with fail
     go_ret
     exact ⟨zal, HE2.out.bel⟩
    ·go_wp2_with fail
     refine (zec _ zbz l.Ab l.cb l.bias (HE2.out.o.ok l Hmm.out).bias HLM.out.bias U d nb Hnb.out).mono ?_
     rintro e w3 ⟨⟨B, rfl, hB⟩, hb⟩
     have HB2 := znM hB
     replace HE2 := znM (Env.call HE2.out hb)
     replace c := Env.c2 HE2.out
     clear hb hB
     cases B
     ·go_wp2_with fail
      go_ret
      exact ⟨zal, HE2.out.bel⟩
     ·have hw4 : IntKind.i64.wrap (4 * (U : Int)) = ((4 * U : Nat) : Int) := by rw [IntKind.wrap_i64]; omega
      obtain ⟨U4, hU4⟩ : ∃ k, k = 4 * U := ⟨_, rfl⟩
      rw [← hU4] at hw4
      have HU4 := znM hU4
      clear hU4
      go_wp2_with fail
      refine (zec _ zbz l.Ak l.ck l.kern (HE2.out.o.ok l Hmm.out).kern HLM.out.kern U4 d nk Hnk.out).mono ?_
      rintro e w3 ⟨⟨B, rfl, hB⟩, hb⟩
      have HB3 := znM hB
      replace HE2 := znM (Env.call HE2.out hb)
      replace c := Env.c2 HE2.out
      clear hb hB
      cases B
      ·go_wp2_with fail
       go_ret
       exact ⟨zal, HE2.out.bel⟩
      ·have hsk := trivial
       clear hsk
       by_cases q1 : U < ng
       ·go_wp2_with fail
        go_ret
        exact ⟨zal, HE2.out.bel⟩
       ·have hsk := trivial
        clear hsk
        by_cases q2 : l.out > (U : Int)
        ·go_wp2_with fail
         go_ret
         exact ⟨zal, HE2.out.bel⟩
        ·have hsk := trivial
         clear hsk
         by_cases q3 : l.ch > (U : Int)
         ·go_wp2_with fail
          go_ret
          exact ⟨zal, HE2.out.bel⟩
         ·have hsk := trivial
          clear hsk
          by_cases q4 : l.high > (U : Int)
          ·go_wp2_with fail
           go_ret
           exact ⟨zal, HE2.out.bel⟩
          ·have hsk := trivial
           clear hsk
           by_cases q5 : l.wide > (U : Int)
           ·go_wp2_with fail
            go_ret
            exact ⟨zal, HE2.out.bel⟩
           ·have hsk := trivial
            clear hsk
            have R0 := znM q1
            have R1 := znM (And.intro q2 (And.intro q3 (And.intro q4 q5)))
            go_wp2_with fail
            clear q1 q2 q3 q4 q5 c
            go_loopw [11] (fun iv wr => ∃ j : Nat, iv = .int .i64 (j : Int) ∧ j ≤ ng ∧ Hid (∀ g ∈ l.grs.take j, g.l.length ≤ U) ∧ Hid (Env w [⟨gl, 38, #[.int .u8 l.kind, .slice l.Ar nr l.cr, .slice l.Ab nb l.cb, .int .i64 l.ch, .int .i64 l.high, .int .i64 l.wide, .int .i64 l.out, .int .i64 l.kh, .int .i64 l.kw, .int .i64 l.st, .int .i64 l.pad, .slice l.Ak nk l.ck, .slice l.Ag ng l.cg]⟩, ⟨w.heap.size, 24, #[.int .i64 f.inputs, .slice f.A nl f.c]⟩] (NeD n f) (fun _ => True) wr)) (fun iv _ => ng - (intOf iv).toNat)
            case atStart => exact ⟨0, rfl, Nat.zero_le _, znM (by simp), HE2⟩
            case round =>
             clear HE HE2
             obtain ⟨j, rfl, hj, HG, HE⟩ := hrel
             have c := Env.c2 HE.out
             by_cases hlj : j < ng
             ·have hlj2 : j < l.grs.length := by rw [← Hng.out]; exact hlj
              have cg := (HE.out.o.ok l Hmm.out).grs.gc j hlj2
              obtain ⟨g, hg⟩ : ∃ g, g = l.grs[j] := ⟨_, rfl⟩
              rw [← hg] at cg
              have Hg := znM hg
              clear hg
              obtain ⟨k, hk⟩ : ∃ k, k = g.l.length := ⟨_, rfl⟩
              rw [← hk] at cg
              have Hk := znM hk
              clear hk
              by_cases q6 : U < k
              ·go_wp2_with fail
               go_ret
               exact ⟨zal, HE.out.bel⟩
              ·have H6 := znM q6
               go_wp2_with fail
               go_roundw
               case rel => exact ⟨j + 1, by go_num, by omega, znM (zax HG.out hlj2 (by rw [← Hg.out, ← Hk.out]; have := H6.out; omega)), HE⟩
               case measure => (simp [intOf] <;> omega)
             ·obtain rfl : j = ng := by omega
              have HG2 := znM (show ∀ g ∈ l.grs, g.l.length ≤ U by have := HG.out; rw [Hng.out, List.take_length] at this; exact this)
              go_wp2_with fail
              go_roundw
              case rel => exact ⟨i + 1, by go_num, by omega, znM (zax HP.out hlt2 (by rw [← Hv.out]; exact ⟨HB1.out (by first | rfl | trivial), HB2.out (by first | rfl | trivial), by have h9 := HB3.out (by first | rfl | trivial); rw [HU4.out] at h9; exact h9, by have := R0.out; have := Hng.out; omega, by have := R1.out; omega, HG2.out⟩)), znM HE.out.drop⟩
              case measure => (simp [intOf] <;> omega)
   ·obtain rfl : i = nl := by omega
    have HP2 := znM (show ∀ l ∈ f.las, SmL U d l by have := HP.out; rw [Hl.out, List.take_length] at this; exact this)
    go_wp2_with fail
    go_ret
    exact ⟨zcq ⟨by have := H0.out; have := Hl.out; omega, HP2.out⟩, HE.out.bel⟩

def wdN (q : Rat) : Wd := ⟨decide (q.num < 0), decide (dn q < 0), digs B64 q.num.natAbs, digs B64 (dn q).natAbs⟩
theorem znG {q : Rat} {n : Nat} (hs : Sz q n) : (dn q).natAbs < B64 ^ n := by
 unfold dn
 split
 ·exact Nat.pow_pos za2
 ·rw [Int.natAbs_natCast]; exact hs.2
theorem RatN.w {r : RV} {q : Rat} {V : World} {n : Nat} (h : RatN r q V) (hs : Sz q n) (hn : n ≤ 1000000) : RawW r (wdN q) V :=
 ⟨⟨h.num.neg, h.num.k, h.num.rd, h.den.neg, h.den.k, h.den.rd⟩, Nat.le_trans (zaD hs.1) hn, Nat.le_trans (zaD (znG hs)) hn⟩
theorem RatD.w {r : RV} {q : Rat} {V : World} {n : Nat} (h : RatD r q n V) (hn : n ≤ 1000000) : ∃ x : Wd, RawW r x V := by
 obtain ⟨x, d, ⟨⟨l, hk, hr, -, -⟩, -, hl⟩, ⟨⟨m, mk, mr, -, -⟩, -, ml⟩, -⟩ := h.ex
 exact ⟨⟨r.num.neg, r.den.neg, l, m⟩, ⟨rfl, hk, hr, rfl, mk, mr⟩, by dsimp only; omega, by dsimp only; omega⟩
theorem RatD.short {r : RV} {q : Rat} {V : World} {n d : Nat} (h : RatD r q n V) (hs : shR d r) : RatD r q d V := by
 obtain ⟨x, y, hx, hy, e⟩ := h.ex
 exact ⟨⟨x, y, ⟨hx.ex, hx.cap, hs.1⟩, ⟨hy.ex, hy.cap, hs.2⟩, e⟩⟩
theorem zcm (V : World) : ∃ g : RV → Wd, ∀ r, (∃ x, RawW r x V) → RawW r (g r) V := by
 refine Classical.axiomOfChoice (r := fun r y => (∃ x, RawW r x V) → RawW r y V) fun r => ?_
 by_cases h : ∃ x, RawW r x V
 ·obtain ⟨x, hx⟩ := h
  exact ⟨x, fun _ => hx⟩
 ·exact ⟨⟨false, false, [], []⟩, fun h' => absurd h' h⟩
def laF (f : RV → Rat → Wd) (l : LaV) : LaW :=
 ⟨l.kind, l.Ar, l.cr, l.rows.map fun v => ⟨v.A, v.c, v.ts.map fun t => ⟨t.pl, t.r, f t.r t.q⟩⟩, l.Ab, l.cb, l.bias.map fun p => (p.1, f p.1 p.2), l.ch, l.high, l.wide, l.out, l.kh, l.kw, l.st, l.pad, l.Ak, l.ck, l.kern.map fun p => (p.1, f p.1 p.2), l.Ag, l.cg, l.grs⟩
theorem zi7 (f : RV → Rat → Wd) (l : LaV) : lacells (laF f l) = lacells l := by simp [lacells, laF]
theorem zk9 {f : RV → Rat → Wd} {okR : RV × Rat → World → Prop} {A : Option Addr} {ps : List (RV × Rat)} {V : World} (h : LsR 4 rtcells okR A ps V) (hp : ∀ p ∈ ps, okR p V → RawW p.1 (f p.1 p.2) V) : LsR 4 nwcells nwD A (ps.map fun p => (p.1, f p.1 p.2)) V := by
 refine ⟨?_, fun x hx => ?_⟩
 ·have e : (ps.map fun p => ((p.1, f p.1 p.2) : RV × Wd)).map nwcells = ps.map rtcells := by rw [List.map_map]; rfl
  rw [e]; exact h.el
 ·obtain ⟨p, hm, rfl⟩ := List.mem_map.1 hx
  exact hp p hm (h.ok p hm)
theorem znf {f : RV → Rat → Wd} {okT : TeV → World → Prop} {A : Option Addr} {ts : List TeV} {V : World} (h : LsR 5 tecells okT A ts V) (hp : ∀ t ∈ ts, okT t V → RawW t.r (f t.r t.q) V) : LsR 5 twcells twD A (ts.map fun t => ⟨t.pl, t.r, f t.r t.q⟩) V := by
 refine ⟨?_, fun x hx => ?_⟩
 ·have e : (ts.map fun t => (⟨t.pl, t.r, f t.r t.q⟩ : TwV)).map twcells = ts.map tecells := by rw [List.map_map]; rfl
  rw [e]; exact h.el
 ·obtain ⟨p, hm, rfl⟩ := List.mem_map.1 hx
  exact hp p hm (h.ok p hm)
theorem znq {f : RV → Rat → Wd} {okT : TeV → World → Prop} {okR : RV × Rat → World → Prop} {l : LaV} {V : World} (h : LaF okT okR l V) (hT : ∀ v ∈ l.rows, ∀ t ∈ v.ts, okT t V → RawW t.r (f t.r t.q) V) (hB : ∀ p ∈ l.bias, okR p V → RawW p.1 (f p.1 p.2) V) (hK : ∀ p ∈ l.kern, okR p V → RawW p.1 (f p.1 p.2) V) : LwD (laF f l) V := by
 refine ⟨⟨?_, fun x hx => ?_⟩, zk9 h.bias hB, zk9 h.kern hK, h.grs⟩
 ·have e : (l.rows.map fun v => (⟨v.A, v.c, v.ts.map fun t => ⟨t.pl, t.r, f t.r t.q⟩⟩ : VwV)).map vwcells = l.rows.map vecells := by
   rw [List.map_map]
   exact List.map_congr_left fun v _ => by simp [vwcells, vecells]
  show El V 1 l.Ar _
  exact e ▸ h.rows.el
 ·obtain ⟨v, hm, rfl⟩ := List.mem_map.1 hx
  exact znf (show LsR 5 tecells okT v.A v.ts V from h.rows.ok v hm) (hT v hm)
def neF (f : RV → Rat → Wd) (n : NeV) : NeW := ⟨n.inputs, n.A, n.c, n.las.map (laF f)⟩
theorem zlR {f : RV → Rat → Wd} {A : Option Addr} {ls : List LaV} {V : World} (h : El V 13 A (ls.map lacells)) (hl : ∀ l ∈ ls, LwD (laF f l) V) : LsR 13 lacells LwD A (ls.map (laF f)) V := by
 refine ⟨?_, fun x hx => ?_⟩
 ·have e : (ls.map (laF f)).map lacells = ls.map lacells := by
   rw [List.map_map]
   exact List.map_congr_left fun l _ => zi7 f l
  rw [e]; exact h
 ·obtain ⟨l, hm, rfl⟩ := List.mem_map.1 hx
  exact hl l hm
def LQ.w (q : LQ) : WQ := ⟨q.kind, q.rows.map (fun r => r.map fun p => (p.1, wdN p.2)), q.bias.map wdN, q.dims, q.kern.map wdN, q.grs⟩
def fN (_ : RV) (q : Rat) : Wd := wdN q
theorem zkZ (l : LaV) : (laF fN l).wq = l.q.w := by
 unfold LaG.wq laF LaG.q LQ.w
 simp only [List.map_map]
 congr 1
 refine List.map_congr_left fun v _ => ?_
 show vwq _ = List.map _ (List.map plq v.ts)
 unfold vwq
 rw [List.map_map, List.map_map]
 rfl
structure LQ.Sz' (n : Nat) (q : LQ) : Prop where
 rows : ∀ r ∈ q.rows, ∀ p ∈ r, Sz p.2 n
 bias : ∀ x ∈ q.bias, Sz x n
 kern : ∀ x ∈ q.kern, Sz x n
theorem LaN.w {l : LaV} {V : World} {n : Nat} (h : LaN l V) (hs : l.q.Sz' n) (hn : n ≤ 1000000) : LwD (laF fN l) V :=
 znq h (fun v hv t ht ht' => RatN.w ht' (hs.rows (v.ts.map plq) (List.mem_map_of_mem (f := fun v : VeV => v.ts.map plq) hv) (plq t) (List.mem_map_of_mem (f := plq) ht)) hn)
  (fun p hp hp' => RatN.w hp' (hs.bias p.2 (List.mem_map_of_mem (f := Prod.snd) hp)) hn) (fun p hp hp' => RatN.w hp' (hs.kern p.2 (List.mem_map_of_mem (f := Prod.snd) hp)) hn)
theorem LaD.w {l : LaV} {V : World} {n : Nat} {g : RV → Wd} (hg : ∀ r, (∃ x, RawW r x V) → RawW r (g r) V) (h : LaD n l V) (hn : n ≤ 1000000) : LwD (laF (fun r _ => g r) l) V :=
 znq h (fun _ _ _ _ ht' => hg _ (RatD.w ht' hn)) (fun _ _ hp' => hg _ (RatD.w hp' hn)) (fun _ _ hp' => hg _ (RatD.w hp' hn))
theorem NeD.w {f : NeV} {V : World} {n : Nat} (h : NeD n f V) (hn : n ≤ 1000000) : ∃ g : RV → Wd, NwD (neF (fun r _ => g r) f) V := by
 obtain ⟨g, hg⟩ := zcm V
 exact ⟨g, zlR h.el fun l hl => LaD.w hg (h.ok l hl) hn⟩
theorem LaD.sz {l : LaV} {V : World} {n : Nat} (h : LaD n l V) (h1 : 1 ≤ n) : l.q.Sz' n := by
 refine ⟨fun r hr p hp => ?_, fun x hx => ?_, fun x hx => ?_⟩
 ·obtain ⟨v, hv, rfl⟩ := List.mem_map.1 hr
  obtain ⟨t, ht, rfl⟩ := List.mem_map.1 hp
  exact RatD.sz (show RatD t.r t.q n V from (show LsR 5 tecells (teD n) v.A v.ts V from h.rows.ok v hv).ok t ht) h1
 ·obtain ⟨p, hp, rfl⟩ := List.mem_map.1 hx
  exact RatD.sz (show RatD p.1 p.2 n V from h.bias.ok p hp) h1
 ·obtain ⟨p, hp, rfl⟩ := List.mem_map.1 hx
  exact RatD.sz (show RatD p.1 p.2 n V from h.kern.ok p hp) h1
theorem zkg {l : LaV} {n : Nat} (h : l.q.Sz' n) (h1 : 1 ≤ n) : (zdS l).Sz' n := by
 refine ⟨fun r hr p hp => ?_, fun x hx => ?_, fun x hx => by cases hx⟩
 ·obtain ⟨k, -, rfl⟩ := List.mem_map.1 hr
  obtain ⟨i, -, -, e⟩ := zcg (List.mem_filter.1 hp).1
  rw [e]
  exact zch h1 h.kern _
 ·obtain ⟨k, -, rfl⟩ := List.mem_map.1 hx
  exact zch h1 h.bias _
theorem zkx {l : LaV} {n : Nat} (h : l.q.Sz' n) : (zhG l).Sz' n := by
 refine ⟨fun r hr p hp => ?_, h.bias, h.kern⟩
 obtain ⟨v, hv, rfl⟩ := List.mem_map.1 hr
 exact h.rows _ (List.mem_map_of_mem (f := fun v : VeV => v.ts.map plq) hv) p (List.mem_filter.1 hp).1
theorem zms {l : LaV} {n : Nat} (h : l.q.Sz' n) (h1 : 1 ≤ n) : (lowQ l).Sz' n := by
 unfold lowQ
 split
 ·exact zkg h h1
 ·exact zkx h
theorem zfS {w : World} : ∀ {ls : List LaV} {N : Int}, zh9 w ls N → ∀ l ∈ ls, ∃ m, Fits w l m
 | [], _, _, l, hl => by cases hl
 | x :: ls, N, h, l, hl => by
  rcases List.mem_cons.1 hl with rfl | hl
  ·exact ⟨N, h.1⟩
  ·exact zfS h.2.2 l hl
theorem zkn {w : World} {l : LaV} {m : Int} (h : Fits w l m) : ze5 l = lowQ l := by
 unfold ze5 lowQ
 split
 ·rfl
 ·rename_i hk
  have hf : ∀ v ∈ l.rows, (v.ts.map plq).filter nzP = v.ts.map plq := fun v hv => by
   rcases h with ⟨-, h⟩ | ⟨h, -⟩ | ⟨-, -, h, -⟩ | ⟨-, h⟩
   ·rw [← zeq, List.filter_eq_self.2 (h.er v hv).nz]
   ·exact absurd h hk
   ·rw [h] at hv; cases hv
   ·rw [h.r.1] at hv; cases hv
  unfold LaG.q zhG
  rw [List.map_congr_left hf]
theorem znp {w V : World} {l : LaV} {m : Int} {n : Nat} (hw : LaD n l w) (hb : Below w.heap.size w V) (hV : LaD n l V) (h : Fits w l m) (hk : ¬ l.kind = 2) : LaN l V := by
 have h := (Fits.same hw hb).2 h
 have hkern : l.kern = [] := by
  rcases h with ⟨-, h⟩ | ⟨h, -⟩ | ⟨-, h, -⟩ | ⟨-, h⟩
  ·exact h.p.1
  ·exact absurd h hk
  ·exact h.1
  ·exact h.p.1
 refine ⟨hV.rows.imp fun v hv hv' => LsR.imp hv' fun t ht _ => ?_, hV.bias.imp fun p hp _ => ?_, hV.kern.imp fun p hp _ => ?_, hV.grs⟩
 ·rcases h with ⟨-, h⟩ | ⟨h, -⟩ | ⟨-, -, h, -⟩ | ⟨-, h⟩
  ·exact (h.er v hv).one t ht
  ·exact absurd h hk
  ·rw [h] at hv; cases hv
  ·rw [h.r.1] at hv; cases hv
 ·rcases h with ⟨-, h⟩ | ⟨h, -⟩ | ⟨-, -, -, h, -⟩ | ⟨-, h⟩
  ·exact h.eb p hp
  ·exact absurd h hk
  ·rw [h] at hp; cases hp
  ·rw [h.r.2] at hp; cases hp
 ·rw [hkern] at hp; cases hp
theorem SmL.t {U d : Nat} {l : LaV} (h : SmL U d l) (hU : U ≤ 100) : LaT l :=
 { rows := by have := h.rows.1; omega, row := fun v hv => by have := (h.rows.2 v hv).1; omega, bias := by have := h.bias.1; omega, kern := by have := h.kern.1; omega, grs := by have := h.grs; omega, gr := fun g hg => by have := h.gr g hg; omega, row1 := fun v hv => by have := (h.rows.2 v hv).1; omega }
theorem SmL.d {U d n : Nat} {l : LaV} {V : World} (h : SmL U d l) (hl : LaD n l V) : LaD d l V :=
 ⟨hl.rows.imp fun v hv hv' => LsR.imp hv' fun t ht ht' => RatD.short (n := n) ht' ((h.rows.2 v hv).2 t ht), hl.bias.imp fun p hp hp' => RatD.short (n := n) hp' (h.bias.2 p hp), hl.kern.imp fun p hp hp' => RatD.short (n := n) hp' (h.kern.2 p hp), hl.grs⟩
theorem SmL.lw2 {U d : Nat} {l : LaV} (h : SmL U d l) (hU : U ≤ 1000) (f : RV → Rat → Wd) : LwS2 (laF f l) := by
 refine ⟨?_, fun v hv => ?_, ?_, ?_, ?_, fun g hg => ?_⟩
 ·show (l.rows.map _).length ≤ _
  rw [List.length_map]; have := h.rows.1; omega
 ·obtain ⟨v, hm, rfl⟩ := List.mem_map.1 (show _ ∈ l.rows.map _ from hv)
  rw [List.length_map]; have := (h.rows.2 v hm).1; omega
 ·show (l.bias.map _).length ≤ _
  rw [List.length_map]; have := h.bias.1; omega
 ·show (l.kern.map _).length ≤ _
  rw [List.length_map]; have := h.kern.1; omega
 ·have := h.grs; show l.grs.length ≤ _; omega
 ·have := h.gr g hg; omega
theorem LwS2.s {l : LaW} (h : LwS2 l) : LwS l := ⟨by have := h.rows; omega, fun v hv => by have := h.row v hv; omega, by have := h.bias; omega, by have := h.kern; omega, by have := h.grs; omega, fun g hg => by have := h.gr g hg; omega⟩
theorem LwS.of {l m : LaW} (h : LwS l) (e : l.wq = m.wq) : LwS m := by
 unfold LaG.wq at e
 injection e with e1 e2 e3 e4 e5 e6
 have a2 := congrArg List.length e2
 have a3 := congrArg List.length e3
 have a5 := congrArg List.length e5
 have a6 := congrArg List.length e6
 simp only [List.length_map] at a2 a3 a5 a6
 refine ⟨by have := h.rows; omega, fun v hv => ?_, by have := h.bias; omega, by have := h.kern; omega, by have := h.grs; omega, fun g hg => ?_⟩
 ·have hm : vwq v ∈ l.rows.map vwq := by rw [e2]; exact List.mem_map_of_mem (f := vwq) hv
  obtain ⟨u, hu, e⟩ := List.mem_map.1 hm
  have := congrArg List.length e
  unfold vwq at this
  simp only [List.length_map] at this
  have := h.row u hu
  omega
 ·have hm : g.l ∈ l.grs.map GrV.l := by rw [e6]; exact List.mem_map_of_mem (f := GrV.l) hg
  obtain ⟨u, hu, e⟩ := List.mem_map.1 hm
  have := h.gr u hu
  rw [← e]
  exact this
theorem zj3 (pl : Nat → Option Int) (K : Nat → Rat) (n : Nat) : (zcU pl K n).length ≤ n := by
 have h := List.length_filterMap_le (fun k => (pl k).map fun a => (a, K k)) (List.range n)
 rwa [List.length_range] at h
structure LQ.Ln (q : LQ) : Prop where
 rows : q.rows.length ≤ 100000
 row : ∀ r ∈ q.rows, r.length ≤ 1000
 bias : q.bias.length ≤ 100000
 kern : q.kern.length ≤ 100000
 grs : q.grs.length ≤ 100000
 gr : ∀ g ∈ q.grs, g.length ≤ 1000
theorem LaS.ln {l : LaV} (h : LaS l) : l.q.Ln := by
 refine ⟨?_, fun r hr => ?_, ?_, ?_, ?_, fun g hg => ?_⟩
 ·show (l.rows.map _).length ≤ _
  rw [List.length_map]; exact h.rows
 ·obtain ⟨v, hv, rfl⟩ := List.mem_map.1 hr
  rw [List.length_map]; exact h.row v hv
 ·show (l.bias.map _).length ≤ _
  rw [List.length_map]; exact h.bias
 ·show (l.kern.map _).length ≤ _
  rw [List.length_map]; exact h.kern
 ·show (l.grs.map _).length ≤ _
  rw [List.length_map]; exact h.grs
 ·obtain ⟨v, hv, rfl⟩ := List.mem_map.1 hg
  exact h.gr v hv
theorem LQ.Ln.w {l : LaV} (h : l.q.Ln) (f : RV → Rat → Wd) : LwS (laF f l) := by
 refine ⟨?_, fun v hv => ?_, ?_, ?_, ?_, fun g hg => ?_⟩
 ·have h1 := h.rows
  show (l.rows.map _).length ≤ _
  rw [show l.q.rows.length = l.rows.length from List.length_map _] at h1
  rw [List.length_map]; omega
 ·obtain ⟨v, hm, rfl⟩ := List.mem_map.1 (show _ ∈ l.rows.map _ from hv)
  have h1 := h.row (v.ts.map plq) (List.mem_map_of_mem (f := fun v : VeV => v.ts.map plq) hm)
  rw [List.length_map] at h1 ⊢; omega
 ·have h1 := h.bias
  show (l.bias.map _).length ≤ _
  rw [show l.q.bias.length = l.bias.length from List.length_map _] at h1
  rw [List.length_map]; omega
 ·have h1 := h.kern
  show (l.kern.map _).length ≤ _
  rw [show l.q.kern.length = l.kern.length from List.length_map _] at h1
  rw [List.length_map]; omega
 ·have h1 := h.grs
  rw [show l.q.grs.length = l.grs.length from List.length_map _] at h1
  show l.grs.length ≤ _; omega
 ·have h1 := h.gr g.l (List.mem_map_of_mem (f := GrV.l) hg)
  omega
theorem zjQ {l : LaV} (h : ConvS l) : (zdS l).Ln := by
 have hs := h.s.nn
 obtain ⟨C, hC⟩ := zaO (z := l.ch) (by omega)
 obtain ⟨O, hO⟩ := zaO (z := l.out) (by omega)
 obtain ⟨KH, hKH⟩ := zaO (z := l.kh) (by omega)
 obtain ⟨KW, hKW⟩ := zaO (z := l.kw) (by omega)
 have hh := h.h
 have hp := h.pad
 have hz := h.s
 unfold sidesP side at hz
 obtain ⟨H, hH⟩ := zaO (z := l.high) (by omega)
 obtain ⟨W, hW⟩ := zaO (z := l.wide) (by omega)
 obtain ⟨ST, hST⟩ := zaO (z := l.st) (by omega)
 obtain ⟨PD, hPD⟩ := zaO (z := l.pad) (by omega)
 have hu := h.u
 have hk := h.k
 have he := h.e
 unfold zb8 zb6 at hu
 have hE : C * KH * KW ≤ 1000 := by
  have h9 : (l.kern.length : Int) = ((O * (C * KH * KW) : Nat) : Int) := by rw [hk, hO, hC, hKH, hKW]; simp only [Int.natCast_mul]
  have h8 : 1 * (C * KH * KW) ≤ O * (C * KH * KW) := Nat.mul_le_mul_right _ (by omega)
  omega
 rw [hH, hPD, hKH] at hh
 have hR : ((nRows l : Nat) : Int) = (l.high + 2 * l.pad - l.kh) / l.st + 1 := by
  have h8 : ((H + 2 * PD - KH : Nat) : Int) = (H : Int) + 2 * (PD : Int) - (KH : Int) := by omega
  unfold nRows
  rw [hH, hPD, hKH, hST]
  simp only [Int.toNat_natCast]
  rw [Int.natCast_add, Int.natCast_ediv, h8]; rfl
 have hQ : ((nCols l : Nat) : Int) = (l.wide + 2 * l.pad - l.kw) / l.st + 1 := by
  have h8 : ((W + 2 * PD - KW : Nat) : Int) = (W : Int) + 2 * (PD : Int) - (KW : Int) := by have := h.h.2; omega
  unfold nCols
  rw [hW, hPD, hKW, hST]
  simp only [Int.toNat_natCast]
  rw [Int.natCast_add, Int.natCast_ediv, h8]; rfl
 have hun : O * nRows l * nCols l ≤ 256 := by
  have h9 : ((O * nRows l * nCols l : Nat) : Int) ≤ 256 := by rw [Int.natCast_mul, Int.natCast_mul, hR, hQ, ← hO]; exact hu
  omega
 have hun' : l.out.toNat * nRows l * nCols l ≤ 256 := by rw [hO, Int.toNat_natCast]; exact hun
 have hE' : l.ch.toNat * l.kh.toNat * l.kw.toNat ≤ 1000 := by rw [hC, hKH, hKW]; simp only [Int.toNat_natCast]; exact hE
 refine ⟨?_, fun r hr => ?_, ?_, Nat.zero_le _, Nat.zero_le _, fun g hg => by cases hg⟩
 ·show ((List.range (l.out.toNat * nRows l * nCols l)).map _).length ≤ _
  rw [List.length_map, List.length_range]; omega
 ·obtain ⟨k, -, rfl⟩ := List.mem_map.1 (show r ∈ (List.range (l.out.toNat * nRows l * nCols l)).map _ from hr)
  exact Nat.le_trans (List.length_filter_le _ _) (Nat.le_trans (zj3 _ _ _) hE')
 ·show ((List.range (l.out.toNat * nRows l * nCols l)).map _).length ≤ _
  rw [List.length_map, List.length_range]; omega
theorem zku {l : LaV} (h : l.q.Ln) : (zhG l).Ln := by
 refine ⟨?_, fun r hr => ?_, h.bias, h.kern, h.grs, h.gr⟩
 ·have h1 := h.rows
  rw [show l.q.rows.length = l.rows.length from List.length_map _] at h1
  show (l.rows.map _).length ≤ _
  rw [List.length_map]; exact h1
 ·obtain ⟨v, hv, rfl⟩ := List.mem_map.1 hr
  exact Nat.le_trans (List.length_filter_le _ _) (h.row (v.ts.map plq) (List.mem_map_of_mem (f := fun v : VeV => v.ts.map plq) hv))
theorem zlY {l : LaV} (h : LowOk l) : (lowQ l).Ln := by
 unfold lowQ
 split
 ·rename_i hk; exact zjQ (h.c hk)
 ·exact zku h.s.ln
end Go.Proofs.YtbodpgadcmnnbaaGreatDoor
