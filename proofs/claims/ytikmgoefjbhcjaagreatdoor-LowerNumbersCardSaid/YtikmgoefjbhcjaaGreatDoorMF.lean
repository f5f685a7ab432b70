/-
 lower.Lower. tripwireref14.Lower. tripwirelow: what is looked at (ShortRats, ShortVecs, SmallNet). Nets of numbers as nets of words; what stays small when a net is lowered.
-/
import Derived.Test.YtikmgoefjbhcjaaGreatDoorNO
import Derived.Test.YtikmgoefjbhcjaaGreatDoorMD
import Derived.Test.YtikmgoefjbhcjaaGreatDoorNH
namespace Go.Proofs.YtikmgoefjbhcjaaGreatDoor
set_option maxHeartbeats 16000000
open Go.RowKit

structure ConvS (l : LaV) : Prop where
 s : sidesP l
 pad : 0 ≤ l.pad ∧ l.pad < l.kh ∧ l.pad < l.kw
 h : 0 ≤ l.high + 2 * l.pad - l.kh ∧ 0 ≤ l.wide + 2 * l.pad - l.kw
 k : (l.kern.length : Int) = l.out * (l.ch * l.kh * l.kw)
 b : (l.bias.length : Int) = l.out
 u : l.out * zbA l * zbx l ≤ 256
 e : l.kern.length ≤ 1000
def nRows (l : LaV) : Nat := (l.high.toNat + 2 * l.pad.toNat - l.kh.toNat) / l.st.toNat + 1
def nCols (l : LaV) : Nat := (l.wide.toNat + 2 * l.pad.toNat - l.kw.toNat) / l.st.toNat + 1
def zbY (l : LaV) : LQ := zjx l.ch.toNat l.high.toNat l.wide.toNat l.out.toNat l.kh.toNat l.kw.toNat l.st.toNat l.pad.toNat (nRows l) (nCols l) (l.kern.map Prod.snd) (l.bias.map Prod.snd)
def lowQ (l : LaV) : LQ := if l.kind = 2 then zbY l else zcp l
structure LowOk (l : LaV) : Prop where
 s : LaS l
 r : ∀ v ∈ l.rows, Rise v.ts
 c : l.kind = 2 → ConvS l
theorem zal {z : Int} (h : 0 ≤ z) : ∃ n : Nat, z = n := ⟨z.toNat, by omega⟩
theorem zlS (w : World) (n : Nat) (hn : n ≤ 100000) (h1n : 1 ≤ n) (l : LaV) (h : LaD n l w) (hT : Tz w) (nr nb nk ng : Nat) (HL : Hid (Lens l nr nb nk ng)) (hc : ConvS l) : Calls Tryz.prog 29 #[.agg #[.int .u8 l.kind, .slice l.Ar nr l.cr, .slice l.Ab nb l.cb, .int .i64 l.ch, .int .i64 l.high, .int .i64 l.wide, .int .i64 l.out, .int .i64 l.kh, .int .i64 l.kw, .int .i64 l.st, .int .i64 l.pad, .slice l.Ak nk l.ck, .slice l.Ag ng l.cg]] w (zgh (zbY l) w) := by
 have hn9 := hc.s.nn
 have hp9 := hc.pad
 have hh9 := hc.h
 obtain ⟨C, hC⟩ := zal (z := l.ch) (by omega)
 obtain ⟨H, hH⟩ := zal (z := l.high) (by omega)
 obtain ⟨W, hW⟩ := zal (z := l.wide) (by omega)
 obtain ⟨O, hO⟩ := zal (z := l.out) (by omega)
 obtain ⟨KH, hKH⟩ := zal (z := l.kh) (by omega)
 obtain ⟨KW, hKW⟩ := zal (z := l.kw) (by omega)
 obtain ⟨ST, hST⟩ := zal (z := l.st) (by omega)
 obtain ⟨PD, hPD⟩ := zal (z := l.pad) (by omega)
 have hk9 := hc.k
 have hb9 := hc.b
 have hu9 := hc.u
 have he9 := hc.e
 unfold zbA zbx at hu9
 rw [hC, hH, hW, hO, hKH, hKW, hST] at hn9
 rw [hPD, hKH, hKW] at hp9
 rw [hH, hW, hPD, hKH, hKW] at hh9
 rw [hO, hC, hKH, hKW] at hk9
 rw [hO] at hb9
 rw [hO, hH, hW, hPD, hKH, hKW, hST] at hu9
 have hkn : l.kern.length = O * (C * KH * KW) := by
  have h9 : (l.kern.length : Int) = ((O * (C * KH * KW) : Nat) : Int) := by rw [hk9]; simp only [Int.natCast_mul]
  omega
 have hEn : C * KH * KW ≤ 1000 := by
  have h8 : 1 * (C * KH * KW) ≤ O * (C * KH * KW) := Nat.mul_le_mul_right _ (by have := hc.s.2.2.2.1; unfold side at this; omega)
  omega
 have hR9 : ((((H + 2 * PD - KH) / ST + 1 : Nat) : Nat) : Int) = ((H : Int) + 2 * (PD : Int) - (KH : Int)) / (ST : Int) + 1 := by
  have h8 : ((H + 2 * PD - KH : Nat) : Int) = (H : Int) + 2 * (PD : Int) - (KH : Int) := by omega
  rw [Int.natCast_add, Int.natCast_ediv, h8]; rfl
 have hQ9 : ((((W + 2 * PD - KW) / ST + 1 : Nat) : Nat) : Int) = ((W : Int) + 2 * (PD : Int) - (KW : Int)) / (ST : Int) + 1 := by
  have h8 : ((W + 2 * PD - KW : Nat) : Int) = (W : Int) + 2 * (PD : Int) - (KW : Int) := by omega
  rw [Int.natCast_add, Int.natCast_ediv, h8]; rfl
 have hun : O * ((H + 2 * PD - KH) / ST + 1) * ((W + 2 * PD - KW) / ST + 1) ≤ 256 := by
  have h9 : ((O * ((H + 2 * PD - KH) / ST + 1) * ((W + 2 * PD - KW) / ST + 1) : Nat) : Int) ≤ 256 := by
   rw [Int.natCast_mul, Int.natCast_mul, hR9, hQ9]; exact hu9
  omega
 have key := zjH w n hn h1n l h hT nr nb nk ng HL.out.k HL.out.b C H W O KH KW ST PD ((H + 2 * PD - KH) / ST + 1) ((W + 2 * PD - KW) / ST + 1) (by omega) (by omega) (by omega) (by omega) rfl rfl (by rw [HL.out.k, hkn]) (by rw [HL.out.b]; omega) hEn (by omega)
 unfold zbY nRows nCols
 rw [hC, hH, hW, hO, hKH, hKW, hST, hPD]
 simp only [Int.toNat_natCast]
 exact key
set_option maxRecDepth 100000 in
theorem zm2 (w : World) (n : Nat) (hn : n ≤ 100000) (h1n : 1 ≤ n) (l : LaV) (h : LaD n l w) (hT : Tz w) (nr nb nk ng : Nat) (HL : Hid (Lens l nr nb nk ng)) (hc : ConvS l) (hk : l.kind = 2) : Calls Tryz.prog 28 #[lA l nr nb nk ng] w (zgh (lowQ l) w) := by
 unfold lowQ
 rw [if_pos hk]
 have e0 : (l.kind == 2) = true := by simp [hk]
 have Hc := zmZ hc
 clear hk hc
 have HE := zmZ (zkL l nr nb nk ng (((LaD.old l w h)).and (hT.old)))
 have c := Env.c2 HE.out
 have dd := Env.d2 HE.out
 clear h hT
 unfold lA
 go_enter Tryz.func28, Tryz.ntmps28
 go_wp2_with fail
 refine (zlS _ n hn h1n l HE.out.o.1 HE.out.o.2 nr nb nk ng HL Hc.out).mono ?_
 rintro e w1 ⟨y, rfl, hy, hk, hb⟩
 have HY := zmZ hy
 replace HE := zmZ (Env.ret HE.out hk hb)
 replace c := Env.c2 HE.out
 clear hy hk hb
 go_wp2_with fail
 have hE := HE.out.put13 (.int .u8 y.kind) (.slice y.Ar y.rows.length y.cr) (.slice y.Ab y.bias.length y.cb) (.int .i64 y.ch) (.int .i64 y.high) (.int .i64 y.wide) (.int .i64 y.out) (.int .i64 y.kh) (.int .i64 y.kw) (.int .i64 y.st) (.int .i64 y.pad) (.slice y.Ak y.kern.length y.ck) (.slice y.Ag y.grs.length y.cg)
 replace c := Env.c2 hE
 exact bodyPost_ret (v := .agg #[.int .u8 y.kind, .slice y.Ar y.rows.length y.cr, .slice y.Ab y.bias.length y.cb, .int .i64 y.ch, .int .i64 y.high, .int .i64 y.wide, .int .i64 y.out, .int .i64 y.kh, .int .i64 y.kw, .int .i64 y.st, .int .i64 y.pad, .slice y.Ak y.kern.length y.ck, .slice y.Ag y.grs.length y.cg]) (by simp [results, Tryz.results28, go_sem, c]) rfl ⟨y, rfl, HY.out, (hE.rsn.imp fun _ h => h.1).mono fun _ h => h.1, hE.bel⟩
set_option maxRecDepth 100000 in
theorem zlw (w : World) (n : Nat) (hn : n ≤ 100000) (h1n : 1 ≤ n) (l : LaV) (h : LaD n l w) (hT : Tz w) (nr nb nk ng : Nat) (HL : Hid (Lens l nr nb nk ng)) (hs : LaS l) (hr : ∀ v ∈ l.rows, Rise v.ts) (hk : ¬ l.kind = 2) : Calls Tryz.prog 28 #[lA l nr nb nk ng] w (zgh (lowQ l) w) := by
 unfold lowQ
 rw [if_neg hk]
 have e0 : (l.kind == 2) = false := by simp [hk]
 have Hs := zmZ hs
 have Hr := zmZ hr
 clear hk hs hr
 have HE := zmZ (zkL l nr nb nk ng (((LaD.old l w h)).and (hT.old)))
 have c := Env.c2 HE.out
 have dd := Env.d2 HE.out
 clear h hT
 unfold lA
 go_enter Tryz.func28, Tryz.ntmps28
 go_wp2_with fail
 refine (zjh _ n hn h1n l HE.out.o.1 Hs.out Hr.out HE.out.o.2 nr nb nk ng HL).mono ?_
 rintro e w1 ⟨y, rfl, hy, hk, hb⟩
 have HY := zmZ hy
 replace HE := zmZ (Env.ret HE.out hk hb)
 replace c := Env.c2 HE.out
 clear hy hk hb
 go_wp2_with fail
 have hE := HE.out.put13 (.int .u8 y.kind) (.slice y.Ar y.rows.length y.cr) (.slice y.Ab y.bias.length y.cb) (.int .i64 y.ch) (.int .i64 y.high) (.int .i64 y.wide) (.int .i64 y.out) (.int .i64 y.kh) (.int .i64 y.kw) (.int .i64 y.st) (.int .i64 y.pad) (.slice y.Ak y.kern.length y.ck) (.slice y.Ag y.grs.length y.cg)
 replace c := Env.c2 hE
 exact bodyPost_ret (v := .agg #[.int .u8 y.kind, .slice y.Ar y.rows.length y.cr, .slice y.Ab y.bias.length y.cb, .int .i64 y.ch, .int .i64 y.high, .int .i64 y.wide, .int .i64 y.out, .int .i64 y.kh, .int .i64 y.kw, .int .i64 y.st, .int .i64 y.pad, .slice y.Ak y.kern.length y.ck, .slice y.Ag y.grs.length y.cg]) (by simp [results, Tryz.results28, go_sem, c]) rfl ⟨y, rfl, HY.out, (hE.rsn.imp fun _ h => h.1).mono fun _ h => h.1, hE.bel⟩
theorem zlC (w : World) (n : Nat) (hn : n ≤ 100000) (h1n : 1 ≤ n) (l : LaV) (h : LaD n l w) (hl : LowOk l) (hT : Tz w) : Calls Tryz.prog 28 #[yA l] w (zgh (lowQ l) w) := by
 by_cases hk : l.kind = 2
 ·exact zm2 w n hn h1n l h hT _ _ _ _ (zmZ (Lens.of l)) (hl.c hk) hk
 ·exact zlw w n hn h1n l h hT _ _ _ _ (zmZ (Lens.of l)) hl.s hl.r hk
set_option maxRecDepth 100000 in
theorem zmD (w : World) (n : Nat) (hn : n ≤ 100000) (h1n : 1 ≤ n) (A : Option Addr) (c : Nat) (l : List LaV) (h : LsR 13 lacells (LaD n) A l w) (hl : l.length ≤ 100000) (hT : Tz w) (hv : ∀ la ∈ l, LowOk la) (nl : Nat) (hnl : nl = l.length) :
 Calls Tryz.prog 27 #[.slice A nl c, .func (.func 28) #[] #[]] w (CpRes 13 (lacells : LaV → Array Value) LaC (LaG.q) (l.map (lowQ)) w) := by
 have sl1 := h.sl
 rw [← hnl] at sl1
 have hsz2 := zb5
 have hadd := za3
 have Hn := zmZ hnl
 have Hl := zmZ hl
 have hnb : nl ≤ 100000 := by omega
 have Hv := zmZ hv
 clear hv
 have HG := zmZ ((GL.start (Env.start ((h.old LaD.old).and hT.old))).new_ 36 13)
 clear h hnl hl
 go_enter Tryz.func27, Tryz.ntmps27
 go_wp2_with fail
 go_loopw [5, 10] (fun ov iv wr => ∃ (Ao : Option Addr) (co i : Nat) (os : List (LaV)), ov = .slice Ao os.length co ∧ iv = .int .i64 (i : Int) ∧ i ≤ nl ∧ Hid (os.map (LaG.q) = (l.take i).map (lowQ)) ∧ Hid (GL w [⟨36, 13, .slice Ao os.length co, os.map lacells⟩] (fun V => LsR 13 lacells (LaD n) A l V ∧ Tz V) (fun V => ∀ y ∈ os, (LaC) y V) wr)) (fun _ iv _ => nl - (intOf iv).toNat)
 case atStart => exact ⟨none, 0, 0, [], rfl, rfl, Nat.zero_le _, zmZ rfl, zmZ (HG.out.imp (fun _ h => h.2) (fun _ _ => by simp))⟩
 case round =>
  clear HG
  obtain ⟨Ao, co, i, os, rfl, rfl, hi, HM, HG⟩ := hrel
  by_cases hlt : i < nl
  ·have hlt2 : i < l.length := by rw [← Hn.out]; exact hlt
   have HE := zmZ HG.out.env
   have c0 := HE.out.o.1.1.lac i hlt2
   have HM2 := zmZ (fun (y : LQ) (hy : y = (lowQ) l[i]) => zau HM.out hlt2 hy)
   have hos := congrArg List.length HM.out
   rw [List.length_map, List.length_map, List.length_take] at hos
   have hosl : os.length ≤ 100000 := by have := Hl.out; omega
   clear hos
   obtain ⟨p, hp⟩ : ∃ p, p = l[i] := ⟨_, rfl⟩
   rw [← hp] at c0 HM2
   have Hm := zmZ (show p ∈ l by rw [hp]; exact List.getElem_mem hlt2)
   clear hp
   go_upto_region 5 with fail
   obtain ⟨W2, gt, hW2, hgt, HE⟩ := Env.al HE.out 36 #[.int .u8 p.kind, .slice p.Ar p.rows.length p.cr, .slice p.Ab p.bias.length p.cb, .int .i64 p.ch, .int .i64 p.high, .int .i64 p.wide, .int .i64 p.out, .int .i64 p.kh, .int .i64 p.kw, .int .i64 p.st, .int .i64 p.pad, .slice p.Ak p.kern.length p.ck, .slice p.Ag p.grs.length p.cg]
   rw [hW2, hgt]
   clear hW2 hgt c0
   have cb := Env.c1 HE.out
   go_wp2_with fail
   refine (zlC _ n hn h1n p (HE.out.o.1.1.ok p Hm.out) (Hv.out p Hm.out) HE.out.o.1.2).mono ?_
   rintro e w3 ⟨y, rfl, hy, hk, hb⟩
   have HM3 := zmZ (HM2.out _ hy)
   replace HE := zmZ (Env.ret HE.out hk hb)
   obtain ⟨A', c', w8, hrun, hG⟩ := GL.appX (cells := lacells) zdE zep rfl (by decide) (by decide) HG.out HE.out y rfl (zfk y) (by omega)
   have Hrun := zmZ hrun
   have HG2 := zmZ hG
   clear hrun hG hk hb hy
   go_wp2_with (at_builtin; refine za1 rfl (.tmp 14) (.tmp 18) 22 _ _ _ rfl rfl rfl Hrun.out ?_)
   clear Hrun
   go_wp2_with fail
   go_roundw
   case rel => exact ⟨A', c', i + 1, os ++ [y], by simp, by go_num, by omega, zmZ (by rw [List.map_append]; exact HM3.out), zmZ (HG2.out.imp (fun _ h => h) (fun V h p hp => by
    rcases List.mem_append.1 hp with hp | hp
    ·exact h.2 p hp
    ·rw [List.mem_singleton.1 hp]; exact h.1.1))⟩
   case measure => (simp [intOf] <;> omega)
  ·obtain rfl : i = nl := by omega
   obtain ⟨A', c', hv, hc, hr⟩ := HG.out.tell (cells := lacells) (ok := LaC) (l := os) (fun V h => h)
   obtain ⟨rfl, rfl⟩ : Ao = A' ∧ co = c' := by simpa using hv
   have Hr := zmZ hr
   have Hc := zmZ hc
   have Hbel := zmZ HG.out.bel
   clear hr hv HG hc
   go_wp2_with fail
   go_ret
   exact ⟨Ao, co, os, rfl, Hc.out, by rw [HM.out, Hn.out, List.take_length], Hr.out, Hbel.out⟩
theorem zd9 {w : World} : ∀ {ls : List LaV} {N : Int}, zc0 w ls N → (∀ l ∈ ls, LaS l ∧ l.kern.length ≤ 1000) → ∀ l ∈ ls, LowOk l
 | [], _, _, _, l, hl => by cases hl
 | l :: ls, N, h, hs, x, hx => by
  rcases List.mem_cons.1 hx with rfl | hx
  ·obtain ⟨hF, hu, -⟩ := h
   have h1 := hs x (List.mem_cons_self ..)
   refine ⟨h1.1, fun v hv => ?_, fun hk => ?_⟩
   ·rcases hF with ⟨-, h⟩ | ⟨-, h⟩ | ⟨-, -, h, -⟩ | ⟨-, h⟩
    ·exact (h.er v hv).rise
    ·rw [h.e.1] at hv; cases hv
    ·rw [h] at hv; cases hv
    ·rw [h.r.1] at hv; cases hv
   ·rcases hF with ⟨h, -⟩ | ⟨-, h⟩ | ⟨h, -⟩ | ⟨h, -⟩
    ·omega
    ·unfold zae at hu
     rw [if_neg (by omega), if_pos hk] at hu
     exact ⟨h.s, h.pad, h.h, h.k, h.b, hu, h1.2⟩
    ·omega
    ·omega
  ·exact zd9 h.2.2 (fun l hl => hs l (List.mem_cons_of_mem _ hl)) x hx
def zmR (f : NeV) (w : World) (e : Ending) (w' : World) : Prop :=
 (∃ err : Int, err ≠ 0 ∧ NetP w f err ∧ e = .returned (.tuple #[.agg #[.int .i64 0, .slice none 0 0], .int .i64 err]) ∧ Below w.heap.size w w') ∨
 (NetP w f 0 ∧ ∃ (A : Option Addr) (c : Nat) (ls : List LaV), e = .returned (.tuple #[.agg #[.int .i64 f.inputs, .slice A (List.length ls) c], .int .i64 0]) ∧ (List.length ls ≤ c ∧ ∀ l ∈ ls, CapG l) ∧ ls.map LaG.q = f.las.map lowQ ∧ Rests w' (w.heap.size ≤ ·) (LsR 13 lacells LaN A ls) ∧ Below w.heap.size w w')
set_option maxRecDepth 100000 in
theorem zcy (w : World) (n : Nat) (hn : n ≤ 100000) (h1n : 1 ≤ n) (f : NeV) (h : NeD n f w) (hs : NeS f) (hk : ∀ l ∈ f.las, l.kern.length ≤ 1000) (hT : Tz w) (nl : Nat) (hnl : nl = f.las.length) : Calls Tryz.prog 9 #[.agg #[.int .i64 f.inputs, .slice f.A nl f.c]] w (zmR f w) := by
 have Hs := zmZ hs
 have Hk := zmZ hk
 have Hl := zmZ hnl
 obtain ⟨W0, hW0⟩ : ∃ W0, W0 = ((w.alloc (.cells #[.int .i64 f.inputs, .slice f.A nl f.c] 24)).alloc (.cells #[.int .i64 0, .slice none 0 0] 24)) := ⟨_, rfl⟩
 have HE := zmZ (Env.lay2 (Env.start ((h.old).and ((hT.old).and ((NeD.iffR h))))) hW0)
 subst hW0
 have c := Env.c2 HE.out
 have dd := Env.d2 HE.out
 clear h hs hT hnl hk
 go_enter Tryz.func9, Tryz.ntmps9
 go_wp2_with fail
 refine (zc4 _ n (by omega) h1n f HE.out.o.1 Hs.out HE.out.o.2.1 nl Hl.out).mono ?_
 rintro e w1 ⟨⟨err, rfl, hN⟩, hb⟩
 have HN := zmZ ((HE.out.o.2.2 err).1 hN)
 replace HE := zmZ (Env.call HE.out hb)
 replace c := Env.c2 HE.out
 clear hN hb
 by_cases h0 : err = 0
 ·subst h0
  have HO := zmZ (show ∀ l ∈ f.las, LowOk l from by
   rcases HN.out with ⟨-, h9⟩ | ⟨-, h9⟩
   ·omega
   ·exact zd9 h9.fits (fun l hl => ⟨Hs.out.la l hl, Hk.out l hl⟩))
  go_wp2_with fail
  refine (zmD _ n hn h1n f.A f.c f.las HE.out.o.1 Hs.out.n HE.out.o.2.1 HO.out nl Hl.out).mono ?_
  rintro e w2 ⟨A2, c2, ls, rfl, hc, hm, hk, hb⟩
  have HM := zmZ hm
  have Hc := zmZ (show List.length ls ≤ c2 ∧ ∀ l ∈ ls, CapG l from ⟨hc, fun l hl => (hk.now.ok l hl).1⟩)
  replace HE := zmZ (Env.ret HE.out hk hb)
  replace c := Env.c2 HE.out
  clear hm hc hk hb
  go_wp2_with fail
  have hE := HE.out.put2 (.int .i64 f.inputs) (.slice A2 (List.length ls) c2)
  replace c := Env.c2 hE
  exact bodyPost_ret (v := .tuple #[.agg #[.int .i64 f.inputs, .slice A2 (List.length ls) c2], .int .i64 0]) (by simp [results, Tryz.results9, go_sem, c]) rfl (.inr ⟨HN.out, A2, c2, ls, rfl, Hc.out, HM.out, (hE.rsn.imp fun _ h => ⟨h.1.el, fun l hl => (h.1.ok l hl).2⟩).mono fun _ h => h.1, hE.bel⟩)
 ·have H0 := zmZ h0
  have h1 : (err != 0) = true := by simp [h0]
  clear h0
  go_wp2_with fail
  have hE := HE.out.put2 (.int .i64 0) (.slice none 0 0)
  replace c := Env.c2 hE
  exact bodyPost_ret (v := .tuple #[.agg #[.int .i64 0, .slice none 0 0], .int .i64 err]) (by simp [results, Tryz.results9, go_sem, c]) rfl (.inl ⟨err, H0.out, HN.out, rfl, hE.bel⟩)

def zlD (l : LaV) : LQ := if l.kind = 2 then zbY l else l.q
structure LowR (n : Nat) (l : LaV) : Prop where
 c : l.kind = 2 → ConvS l
 x : l.kind = 2 → l.ch * l.high * l.wide ≤ 256
theorem zoE {w : World} (n : Nat) : ∀ {ls : List LaV} {N : Int}, N ≤ 256 → zc0 w ls N → (∀ l ∈ ls, l.kern.length ≤ 1000) → ∀ l ∈ ls, LowR n l
 | [], _, _, _, _, l, hl => by cases hl
 | l :: ls, N, hN, h, hs, x, hx => by
  rcases List.mem_cons.1 hx with rfl | hx
  ·obtain ⟨hF, hu, -⟩ := h
   have h1 := hs x (List.mem_cons_self ..)
   rcases hF with ⟨h, -⟩ | ⟨hk, h⟩ | ⟨h, -⟩ | ⟨h, -⟩
   ·exact ⟨fun e => by omega, fun e => by omega⟩
   ·unfold zae at hu
    rw [if_neg (by omega), if_pos hk] at hu
    exact ⟨fun _ => ⟨h.s, h.pad, h.h, h.k, h.b, hu, h1⟩, fun _ => by rw [h.n]; exact hN⟩
   ·exact ⟨fun e => by omega, fun e => by omega⟩
   ·exact ⟨fun e => by omega, fun e => by omega⟩
  ·exact zoE n h.2.1 h.2.2 (fun l hl => hs l (List.mem_cons_of_mem _ hl)) x hx
theorem zpw (w : World) (n : Nat) (hn : n ≤ 10) (h1n : 1 ≤ n) (l : LaV) (h : LaD n l w) (hc : ConvS l) (hx : l.ch * l.high * l.wide ≤ 256) : Calls Tryz.prog 38 #[.agg #[.int .u8 l.kind, .slice l.Ar l.rows.length l.cr, .slice l.Ab l.bias.length l.cb, .int .i64 l.ch, .int .i64 l.high, .int .i64 l.wide, .int .i64 l.out, .int .i64 l.kh, .int .i64 l.kw, .int .i64 l.st, .int .i64 l.pad, .slice l.Ak l.kern.length l.ck, .slice l.Ag l.grs.length l.cg]] w (zgh (zbY l) w) := by
 have hn9 := hc.s.nn
 have hp9 := hc.pad
 have hh9 := hc.h
 obtain ⟨C, hC⟩ := zal (z := l.ch) (by omega)
 obtain ⟨H, hH⟩ := zal (z := l.high) (by omega)
 obtain ⟨W, hW⟩ := zal (z := l.wide) (by omega)
 obtain ⟨O, hO⟩ := zal (z := l.out) (by omega)
 obtain ⟨KH, hKH⟩ := zal (z := l.kh) (by omega)
 obtain ⟨KW, hKW⟩ := zal (z := l.kw) (by omega)
 obtain ⟨ST, hST⟩ := zal (z := l.st) (by omega)
 obtain ⟨PD, hPD⟩ := zal (z := l.pad) (by omega)
 have hk9 := hc.k
 have hb9 := hc.b
 have hu9 := hc.u
 have he9 := hc.e
 have hs9 := hc.s
 unfold sidesP side at hs9
 have hP : PicOk l := ⟨hc.s, hc.pad, hc.h⟩
 have hR0 : zbA l = zbA l := rfl
 have hQ0 : zbx l = zbx l := rfl
 rw [hC, hH, hW, hO, hKH, hKW, hST] at hn9 hs9
 rw [hPD, hKH, hKW] at hp9
 rw [hH, hW, hPD, hKH, hKW] at hh9
 rw [hO, hC, hKH, hKW] at hk9
 rw [hC, hH, hW] at hx
 rw [hO] at hb9
 have hkn : l.kern.length = O * (C * KH * KW) := by
  have h9 : (l.kern.length : Int) = ((O * (C * KH * KW) : Nat) : Int) := by rw [hk9]; simp only [Int.natCast_mul]
  omega
 have hEn : C * KH * KW ≤ 1000 := by
  have h8 : 1 * (C * KH * KW) ≤ O * (C * KH * KW) := Nat.mul_le_mul_right _ (by omega)
  omega
 have hR9 : zbA l = (((((H + 2 * PD - KH) / ST + 1) : Nat) : Nat) : Int) := by
  have h8 : ((H + 2 * PD - KH : Nat) : Int) = (H : Int) + 2 * (PD : Int) - (KH : Int) := by omega
  unfold zbA
  rw [Int.natCast_add, Int.natCast_ediv, h8, hH, hPD, hKH, hST]; rfl
 have hQ9 : zbx l = (((((W + 2 * PD - KW) / ST + 1) : Nat) : Nat) : Int) := by
  have h8 : ((W + 2 * PD - KW : Nat) : Int) = (W : Int) + 2 * (PD : Int) - (KW : Int) := by omega
  unfold zbx
  rw [Int.natCast_add, Int.natCast_ediv, h8, hW, hPD, hKW, hST]; rfl
 have hun : O * ((H + 2 * PD - KH) / ST + 1) * ((W + 2 * PD - KW) / ST + 1) ≤ 256 := by
  have h9 : ((O * ((H + 2 * PD - KH) / ST + 1) * ((W + 2 * PD - KW) / ST + 1) : Nat) : Int) ≤ 256 := by
   rw [Int.natCast_mul, Int.natCast_mul, ← hR9, ← hQ9, ← hO]; exact hu9
  omega
 have hxn : C * H * W ≤ 256 := by
  have h9 : ((C * H * W : Nat) : Int) ≤ 256 := by rw [Int.natCast_mul, Int.natCast_mul]; exact hx
  omega
 have hxs : 1 + C * H * W * (n + 1) ≤ 3000 := by
  have h9 : C * H * W * (n + 1) ≤ 256 * 11 := Nat.mul_le_mul hxn (by omega)
  omega
 have d1 := Nat.div_le_self (H + 2 * PD - KH) ST
 have d2 := Nat.div_le_self (W + 2 * PD - KW) ST
 have key := zor w n h1n l h l.rows.length l.bias.length l.kern.length l.grs.length rfl rfl C H W O KH KW ST PD ((H + 2 * PD - KH) / ST + 1) ((W + 2 * PD - KW) / ST + 1) ⟨hC, hH, hW, hO, hKH, hKW, hST, hPD⟩ (by omega) (by omega) hP hR9 hQ9 (by omega) hkn.symm (by omega) hEn hun (C * H * W) rfl hxn hxs (by omega)
 unfold zbY nRows nCols
 rw [hC, hH, hW, hO, hKH, hKW, hST, hPD]
 simp only [Int.toNat_natCast]
 exact key
def zrB (f : NeV) (w : World) (e : Ending) (w' : World) : Prop :=
 (∃ err : Int, err ≠ 0 ∧ NetP w f err ∧ e = .returned (.tuple #[.agg #[.int .i64 0, .slice none 0 0], .int .i64 err]) ∧ Below w.heap.size w w') ∨
 (NetP w f 0 ∧ ∃ (A : Option Addr) (c : Nat) (ls : List LaV), e = .returned (.tuple #[.agg #[.int .i64 f.inputs, .slice A (List.length ls) c], .int .i64 0]) ∧ ls.map LaG.q = f.las.map zlD ∧ Rests w' (w.heap.size ≤ ·) (fun V => El V 13 A (List.map lacells ls) ∧ ∀ l ∈ ls, (l ∈ f.las ∧ ¬ l.kind = 2) ∨ LaN l V) ∧ Below w.heap.size w w')
set_option maxRecDepth 100000 in
theorem zoR (w : World) (n : Nat) (hn : n ≤ 10) (h1n : 1 ≤ n) (f : NeV) (h : NeD n f w) (hs : NeT f) (hk : ∀ l ∈ f.las, l.kern.length ≤ 1000) (nl : Nat) (hnl : nl = f.las.length) : Calls Tryz.prog 18 #[.agg #[.int .i64 f.inputs, .slice f.A nl f.c]] w (zrB f w) := by
 have Hn := zmZ hnl
 have Hs := zmZ hs
 have Hk := zmZ hk
 have Hw := zmZ h
 have sl1 := h.sl
 rw [← hnl] at sl1
 have hsz1 := zb5
 have hadd := za3
 have hnb : nl ≤ 100000 := by have := hs.n; omega
 obtain ⟨W0, hW0⟩ : ∃ W0, W0 = ((w.alloc (.cells #[.int .i64 f.inputs, .slice f.A nl f.c] 24)).alloc (.cells #[.int .i64 0, .slice none 0 0] 24)) := ⟨_, rfl⟩
 have HE := zmZ (Env.lay2 (Env.start ((h.old).and ((NeD.iffR h)))) hW0)
 subst hW0
 have c := Env.c2 HE.out
 have dd := Env.d2 HE.out
 clear h hnl hs hk
 go_enter Tryz.func18, Tryz.ntmps18
 go_wp2_with fail
 refine (zoY _ n (by omega) h1n f HE.out.o.1 Hs.out nl Hn.out).mono ?_
 rintro e w1 ⟨A0, c0, us, err, rfl, hN, -, -, -, -, hb⟩
 have HN := zmZ ((HE.out.o.2 err).1 hN)
 replace HE := zmZ (Env.call HE.out hb)
 replace c := Env.c2 HE.out
 clear hN hb
 by_cases h0 : err = 0
 ·subst h0
  have HO := zmZ (show ∀ l ∈ f.las, LowR n l from by
   rcases HN.out with ⟨-, h9⟩ | ⟨h8, h9⟩
   ·omega
   ·exact zoE n (by have := h8.2.1; omega) h9.fits (fun l hl => Hk.out l hl))
  go_upto_region 6 with fail
  have HG := zmZ (GL.ofEnv (bs1 := [⟨w.heap.size + 1, 24, #[.int .i64 0, .slice none 0 0]⟩]) (bs2 := [⟨w.heap.size, 24, #[.int .i64 f.inputs, .slice f.A nl f.c]⟩]) HE.out)
  obtain ⟨W5, g6, hW5, hg6, HG2⟩ := HG.out.alb 24 #[.int .i64 f.inputs, .slice none 0 0]
  rw [hW5, hg6]
  clear hW5 hg6 HG HE c
  have HG := zmZ ((HG2.out.new_ 36 13).imp (φ := fun V => (∀ b ∈ [(⟨w.heap.size, 24, #[.int .i64 f.inputs, .slice f.A nl f.c]⟩ : Bo)], Blk V b.g b.t b.cs) ∧ NeD n f V) (ψ := fun V => ∀ zl ∈ ([] : List LaV), (zl ∈ f.las ∧ ¬ zl.kind = 2) ∨ LaN zl V) (fun _ h => ⟨h.1, h.2.1⟩) (fun _ _ => by simp))
  clear HG2
  go_loopw [7] (fun iv wr => ∃ (i : Nat) (Al : Option Addr) (cl : Nat) (ls : List LaV), iv = .int .i64 (i : Int) ∧ i ≤ nl ∧ Hid (ls.map LaG.q = (f.las.take i).map zlD) ∧ Hid (GL w (⟨36, 13, .slice Al (List.length ls) cl, List.map lacells ls⟩ :: bow g6 24 2 #[.int .i64 f.inputs, .slice Al (List.length ls) cl] :: bow (w.heap.size + 1) 24 2 #[.int .i64 0, .slice none 0 0] :: []) (fun V => (∀ b ∈ [(⟨w.heap.size, 24, #[.int .i64 f.inputs, .slice f.A nl f.c]⟩ : Bo)], Blk V b.g b.t b.cs) ∧ NeD n f V) (fun V => ∀ zl ∈ ls, (zl ∈ f.las ∧ ¬ zl.kind = 2) ∨ LaN zl V) wr)) (fun iv _ => nl - (intOf iv).toNat)
  case atStart => exact ⟨0, none, 0, [], rfl, Nat.zero_le _, zmZ rfl, HG⟩
  case round =>
   clear HG
   obtain ⟨i, Al, cl, ls, rfl, hi, HM, HG⟩ := hrel
   have cf := Blk.cb (HG.out.o.1 _ (List.mem_singleton_self _))
   by_cases hlt : i < nl
   ·have hlt2 : i < f.las.length := by rw [← Hn.out]; exact hlt
    have hlsl := congrArg List.length HM.out
    rw [List.length_map, List.length_map, List.length_take] at hlsl
    have hlsb : ls.length ≤ 100000 := by omega
    clear hlsl
    have Hlsb := zmZ hlsb
    clear hlsb
    have HM2 := zmZ (fun (y : LaV) (hy : y.q = zlD f.las[i]) => zau HM.out hlt2 hy)
    have HP := zmZ (fun (V : World) (h1 : NeD n f V) => h1.ok _ (List.getElem_mem hlt2))
    have HLO := zmZ (HO.out _ (List.getElem_mem hlt2))
    have Hm := zmZ (List.getElem_mem hlt2)
    have HLC := zmZ (fun (V : World) (h1 : NeD n f V) => h1.lac i hlt2)
    have c0 := HG.out.o.2.lac i hlt2
    obtain ⟨l, hl⟩ : ∃ l, l = f.las[i] := ⟨_, rfl⟩
    rw [← hl] at c0 HM2 HP HLO Hm HLC
    clear hl
    by_cases hk2 : l.kind = 2
    focus
     have HQ := zmZ (show zlD l = zbY l from if_pos hk2)
     have HK2 := zmZ hk2
     have e0 : (l.kind == 2) = true := by simp [hk2]
     go_upto_region 9 with fail
     clear c0 cf e0 hk2
     refine wp_region_noPanic ?_
     refine zaX 11 (fun V => CB g6 #[.int .i64 f.inputs, .slice Al (List.length ls) cl] V ∧ CB (w.heap.size) #[.int .i64 f.inputs, .slice f.A nl f.c] V ∧ LC f.A i l V) (by kernel_rfl) (by with_reducible first | exact ⟨HG.out.cb (k := 1) rfl, Blk.cb (HG.out.o.1 _ (List.mem_singleton_self _)), HLC.out _ HG.out.o.2⟩ | exact ⟨HG.out.drew.cb (k := 1) rfl, Blk.cb (HG.out.drew.o.1 _ (List.mem_singleton_self _)), HLC.out _ HG.out.drew.o.2⟩) (fun hHeld => ?_)
     replace HG := zmZ HG.out.drew
     refine gTa 0 34 hHeld ?_
     refine gTa 1 35 hHeld ?_
     refine gTa 2 36 hHeld ?_
     refine gTa 3 37 hHeld ?_
     refine gTa 4 38 hHeld ?_
     refine gTa 5 39 hHeld ?_
     refine gTa 6 40 hHeld ?_
     refine gC 7 rfl (by kernel_rfl) (by rfl) (fun K hK => ?_)
     clear hHeld
     simp only [q1, q2, q3]
     go_simp
     refine (zpw _ n hn h1n l (HP.out _ HG.out.o.2) (HLO.out.c HK2.out) (HLO.out.x HK2.out)).mono ?_
     rintro e wq ⟨y, rfl, hy9, hk9, hb9⟩
     have HYQ := zmZ hy9
     replace HG := zmZ (HG.out.call hk9 hb9)
     clear hy9 hk9 hb9
     (try (go_wp2_with fail))
     refine hK.out _ _ (by with_reducible first | exact ⟨HG.out.cb (k := 1) rfl, Blk.cb (HG.out.o.1 _ (List.mem_singleton_self _)), HLC.out _ HG.out.o.2⟩ | exact ⟨HG.out.drew.cb (k := 1) rfl, Blk.cb (HG.out.drew.o.1 _ (List.mem_singleton_self _)), HLC.out _ HG.out.drew.o.2⟩) (fun hHeld => ?_)
     clear hK K
     try simp only [p1, p2, p3, p4]
     refine gC 8 rfl (by kernel_rfl) (by rfl) (fun K hK => ?_)
     clear hHeld
     simp only [q1, q2, q3]
     go_simp
     (try (go_wp2_with fail))
     obtain ⟨W7, gb, hW7, hgb, HG⟩ := HG.out.al 36 #[.int .u8 y.kind, .slice y.Ar y.rows.length y.cr, .slice y.Ab y.bias.length y.cb, .int .i64 y.ch, .int .i64 y.high, .int .i64 y.wide, .int .i64 y.out, .int .i64 y.kh, .int .i64 y.kw, .int .i64 y.st, .int .i64 y.pad, .slice y.Ak y.kern.length y.ck, .slice y.Ag y.grs.length y.cg]
     rw [hW7, hgb]
     clear hW7 hgb
     (try (go_wp2_with fail))
     refine hK.out _ _ (by with_reducible first | exact ⟨HG.out.cb (k := 1) rfl, Blk.cb (HG.out.o.1 _ (List.mem_singleton_self _)), HLC.out _ HG.out.o.2⟩ | exact ⟨HG.out.drew.cb (k := 1) rfl, Blk.cb (HG.out.drew.o.1 _ (List.mem_singleton_self _)), HLC.out _ HG.out.drew.o.2⟩) (fun hHeld => ?_)
     clear hK K
     try simp only [p1, p2, p3, p4]
     obtain ⟨A2, c2, W8, hrun, HG2⟩ := GL.appG (k := 0) (cells := lacells) zdE zep rfl (by decide) (by decide) HG.out rfl (y : LaV) rfl (zfk y) HG.out.n.1 (by have := Hlsb.out; omega)
     refine gC 9 rfl (by kernel_rfl) (by rfl) (fun K hK => ?_)
     clear hHeld
     simp only [q1, q2, q3]
     refine zeC (.tmp 35) (.tmp 42) 22 _ _ _ rfl rfl rfl hrun ?_
     clear hrun
     replace HG := zmZ HG2
     clear HG2
     refine hK.out _ _ (by with_reducible first | exact ⟨HG.out.cb (k := 1) rfl, Blk.cb (HG.out.o.1 _ (List.mem_singleton_self _)), HLC.out _ HG.out.o.2⟩ | exact ⟨HG.out.drew.cb (k := 1) rfl, Blk.cb (HG.out.drew.o.1 _ (List.mem_singleton_self _)), HLC.out _ HG.out.drew.o.2⟩) (fun hHeld => ?_)
     clear hK K
     try simp only [p1, p2, p3, p4]
     refine gTa 10 44 hHeld ?_
     have cc := HG.out.cb (k := 1) rfl
     refine gL rfl (by kernel_rfl) (by kernel_rfl) (by rfl) (fun K hK => ?_)
     clear hHeld
     simp only [q1, q2, q3]
     go_simp
     (try (go_wp2_with fail))
     refine hK.out _ _ ?_
     clear hK K
     try simp only [p1, p2, p3, p4]
     refine NoPanic.normal ?_
     clear cc
     have HG3 := HG.out.putc (k := 1) (i := 1) rfl (by decide) (.slice A2 (List.length (ls ++ [y])) c2)
     replace HG := zmZ (show GL w (⟨36, 13, .slice A2 (List.length (ls ++ [y])) c2, List.map lacells (ls ++ [y])⟩ :: bow g6 24 2 #[.int .i64 f.inputs, .slice A2 (List.length (ls ++ [y])) c2] :: bow (w.heap.size + 1) 24 2 #[.int .i64 0, .slice none 0 0] :: []) (fun V => (∀ b ∈ [(⟨w.heap.size, 24, #[.int .i64 f.inputs, .slice f.A nl f.c]⟩ : Bo)], Blk V b.g b.t b.cs) ∧ NeD n f V) (fun V => ∀ zl ∈ (ls ++ [y]), (zl ∈ f.las ∧ ¬ zl.kind = 2) ∨ LaN zl V) _ from HG3.imp (fun _ h => h) (fun V h => fun zl hz => (List.mem_append.1 hz).elim (fun hz => h.2.2 zl hz) (fun hz => by rw [List.mem_singleton.1 hz]; exact .inr h.2.1.2)))
     clear HG3
     have HMN := zmZ (HM2.out y (HYQ.out.trans HQ.out.symm))
     obtain ⟨ls1, hls1⟩ : ∃ x, x = (ls ++ [y]) := ⟨_, rfl⟩
    rotate_left
    focus
     have HQ := zmZ (show zlD l = l.q from if_neg hk2)
     have HK2 := zmZ hk2
     have e0 : (l.kind == 2) = false := by simp [hk2]
     go_upto_region 10 with fail
     clear c0 cf e0 hk2
     refine wp_region_noPanic ?_
     refine zaX 10 (fun V => CB g6 #[.int .i64 f.inputs, .slice Al (List.length ls) cl] V ∧ CB (w.heap.size) #[.int .i64 f.inputs, .slice f.A nl f.c] V ∧ LC f.A i l V) (by kernel_rfl) (by with_reducible first | exact ⟨HG.out.cb (k := 1) rfl, Blk.cb (HG.out.o.1 _ (List.mem_singleton_self _)), HLC.out _ HG.out.o.2⟩ | exact ⟨HG.out.drew.cb (k := 1) rfl, Blk.cb (HG.out.drew.o.1 _ (List.mem_singleton_self _)), HLC.out _ HG.out.drew.o.2⟩) (fun hHeld => ?_)
     refine gTa 0 45 hHeld ?_
     refine gTa 1 46 hHeld ?_
     refine gTa 2 47 hHeld ?_
     refine gTa 3 48 hHeld ?_
     refine gTa 4 49 hHeld ?_
     refine gTa 5 50 hHeld ?_
     refine gTa 6 51 hHeld ?_
     refine gC 7 rfl (by kernel_rfl) (by rfl) (fun K hK => ?_)
     clear hHeld
     simp only [q1, q2, q3]
     go_simp
     (try (go_wp2_with fail))
     obtain ⟨W7, gb, hW7, hgb, HG⟩ := HG.out.al 36 #[.int .u8 l.kind, .slice l.Ar l.rows.length l.cr, .slice l.Ab l.bias.length l.cb, .int .i64 l.ch, .int .i64 l.high, .int .i64 l.wide, .int .i64 l.out, .int .i64 l.kh, .int .i64 l.kw, .int .i64 l.st, .int .i64 l.pad, .slice l.Ak l.kern.length l.ck, .slice l.Ag l.grs.length l.cg]
     rw [hW7, hgb]
     clear hW7 hgb
     replace HG := zmZ HG.out.drew
     (try (go_wp2_with fail))
     refine hK.out _ _ (by with_reducible first | exact ⟨HG.out.cb (k := 1) rfl, Blk.cb (HG.out.o.1 _ (List.mem_singleton_self _)), HLC.out _ HG.out.o.2⟩ | exact ⟨HG.out.drew.cb (k := 1) rfl, Blk.cb (HG.out.drew.o.1 _ (List.mem_singleton_self _)), HLC.out _ HG.out.drew.o.2⟩) (fun hHeld => ?_)
     clear hK K
     try simp only [p1, p2, p3, p4]
     obtain ⟨A2, c2, W8, hrun, HG2⟩ := GL.appG (k := 0) (cells := lacells) zdE zep rfl (by decide) (by decide) HG.out rfl (l : LaV) rfl (zfk l) HG.out.n.1 (by have := Hlsb.out; omega)
     refine gC 8 rfl (by kernel_rfl) (by rfl) (fun K hK => ?_)
     clear hHeld
     simp only [q1, q2, q3]
     refine zeC (.tmp 46) (.tmp 52) 22 _ _ _ rfl rfl rfl hrun ?_
     clear hrun
     replace HG := zmZ HG2
     clear HG2
     refine hK.out _ _ (by with_reducible first | exact ⟨HG.out.cb (k := 1) rfl, Blk.cb (HG.out.o.1 _ (List.mem_singleton_self _)), HLC.out _ HG.out.o.2⟩ | exact ⟨HG.out.drew.cb (k := 1) rfl, Blk.cb (HG.out.drew.o.1 _ (List.mem_singleton_self _)), HLC.out _ HG.out.drew.o.2⟩) (fun hHeld => ?_)
     clear hK K
     try simp only [p1, p2, p3, p4]
     refine gTa 9 54 hHeld ?_
     have cc := HG.out.cb (k := 1) rfl
     refine gL rfl (by kernel_rfl) (by kernel_rfl) (by rfl) (fun K hK => ?_)
     clear hHeld
     simp only [q1, q2, q3]
     go_simp
     (try (go_wp2_with fail))
     refine hK.out _ _ ?_
     clear hK K
     try simp only [p1, p2, p3, p4]
     refine NoPanic.normal ?_
     clear cc
     have HG3 := HG.out.putc (k := 1) (i := 1) rfl (by decide) (.slice A2 (List.length (ls ++ [l])) c2)
     replace HG := zmZ (show GL w (⟨36, 13, .slice A2 (List.length (ls ++ [l])) c2, List.map lacells (ls ++ [l])⟩ :: bow g6 24 2 #[.int .i64 f.inputs, .slice A2 (List.length (ls ++ [l])) c2] :: bow (w.heap.size + 1) 24 2 #[.int .i64 0, .slice none 0 0] :: []) (fun V => (∀ b ∈ [(⟨w.heap.size, 24, #[.int .i64 f.inputs, .slice f.A nl f.c]⟩ : Bo)], Blk V b.g b.t b.cs) ∧ NeD n f V) (fun V => ∀ zl ∈ (ls ++ [l]), (zl ∈ f.las ∧ ¬ zl.kind = 2) ∨ LaN zl V) _ from HG3.imp (fun _ h => h) (fun V h => fun zl hz => (List.mem_append.1 hz).elim (fun hz => h.2 zl hz) (fun hz => by rw [List.mem_singleton.1 hz]; exact .inl ⟨Hm.out, HK2.out⟩)))
     clear HG3
     have HMN := zmZ (HM2.out l (HQ.out.symm))
     obtain ⟨ls1, hls1⟩ : ∃ x, x = (ls ++ [l]) := ⟨_, rfl⟩
    rotate_left
    all_goals
     have hlen1 : List.length ls + 1 = List.length ls1 := by rw [hls1]; simp
     have HMN2 := zmZ (show ls1.map LaG.q = (f.las.take (i + 1)).map zlD from by rw [hls1, List.map_append]; exact HMN.out)
     rw [← hls1] at HG
     rw [hlen1]
     clear hls1 hlen1 HMN
     go_wp2_with fail
     go_roundw
     case rel => exact ⟨i + 1, A2, c2, ls1, by go_num, by omega, HMN2, HG⟩
     case measure => (simp [intOf] <;> omega)
   ·obtain rfl : i = nl := by omega
    have c6 := HG.out.cb (k := 1) rfl
    have c2 := HG.out.cb (k := 2) rfl
    go_wp2_with fail
    have hG := (HG.out.putc (k := 2) (i := 0) rfl (by decide) (.int .i64 f.inputs)).putc (k := 2) (i := 1) rfl (by decide) (.slice Al (List.length ls) cl)
    replace c2 := hG.cb (k := 2) rfl
    exact bodyPost_ret (v := .tuple #[.agg #[.int .i64 f.inputs, .slice Al (List.length ls) cl], .int .i64 0]) (by simp [results, Tryz.results18, go_sem, c2]) rfl (.inr ⟨HN.out, Al, cl, ls, rfl, by rw [HM.out, Hn.out, List.take_length], ((hG.els9 (k := 0) rfl).and (hG.rsn.mono fun _ h => h.1)).imp fun V h => ⟨h.1, h.2⟩, hG.bel⟩)
 ·have H0 := zmZ h0
  have h1 : (err != 0) = true := by simp [h0]
  clear h0
  go_wp2_with fail
  have hE := HE.out.put2 (.int .i64 0) (.slice none 0 0)
  replace c := Env.c2 hE
  exact bodyPost_ret (v := .tuple #[.agg #[.int .i64 0, .slice none 0 0], .int .i64 err]) (by simp [results, Tryz.results18, go_sem, c]) rfl (.inl ⟨err, H0.out, HN.out, rfl, hE.bel⟩)

def shR (d : Nat) (r : RV) : Prop := r.num.k ≤ d ∧ r.den.k ≤ d
def wdN (q : Rat) : Wd := ⟨decide (q.num < 0), decide (dn q < 0), digs B64 q.num.natAbs, digs B64 (dn q).natAbs⟩
theorem zmM {q : Rat} {n : Nat} (hs : Sz q n) : (dn q).natAbs < B64 ^ n := by
 unfold dn
 split
 ·exact Nat.pow_pos za0
 ·rw [Int.natAbs_natCast]; exact hs.2
theorem RatN.w {r : RV} {q : Rat} {V : World} {n : Nat} (h : RatN r q V) (hs : Sz q n) (hn : n ≤ 1000000) : RawW r (wdN q) V :=
 ⟨⟨h.num.neg, h.num.k, h.num.rd, h.den.neg, h.den.k, h.den.rd⟩, Nat.le_trans (zbj hs.1) hn, Nat.le_trans (zbj (zmM hs)) hn⟩
theorem RatD.w {r : RV} {q : Rat} {V : World} {n : Nat} (h : RatD r q n V) (hn : n ≤ 1000000) : ∃ x : Wd, RawW r x V := by
 obtain ⟨x, d, ⟨⟨l, hk, hr, -, -⟩, -, hl⟩, ⟨⟨m, mk, mr, -, -⟩, -, ml⟩, -⟩ := h.ex
 exact ⟨⟨r.num.neg, r.den.neg, l, m⟩, ⟨rfl, hk, hr, rfl, mk, mr⟩, by dsimp only; omega, by dsimp only; omega⟩
theorem RatD.short {r : RV} {q : Rat} {V : World} {n d : Nat} (h : RatD r q n V) (hs : shR d r) : RatD r q d V := by
 obtain ⟨x, y, hx, hy, e⟩ := h.ex
 exact ⟨⟨x, y, ⟨hx.ex, hx.cap, hs.1⟩, ⟨hy.ex, hy.cap, hs.2⟩, e⟩⟩
theorem zba (V : World) : ∃ g : RV → Wd, ∀ r, (∃ x, RawW r x V) → RawW r (g r) V := by
 refine Classical.axiomOfChoice (r := fun r y => (∃ x, RawW r x V) → RawW r y V) fun r => ?_
 by_cases h : ∃ x, RawW r x V
 ·obtain ⟨x, hx⟩ := h
  exact ⟨x, fun _ => hx⟩
 ·exact ⟨⟨false, false, [], []⟩, fun h' => absurd h' h⟩
def laF (f : RV → Rat → Wd) (l : LaV) : LaW :=
 ⟨l.kind, l.Ar, l.cr, l.rows.map fun v => ⟨v.A, v.c, v.ts.map fun t => ⟨t.pl, t.r, f t.r t.q⟩⟩, l.Ab, l.cb, l.bias.map fun p => (p.1, f p.1 p.2), l.ch, l.high, l.wide, l.out, l.kh, l.kw, l.st, l.pad, l.Ak, l.ck, l.kern.map fun p => (p.1, f p.1 p.2), l.Ag, l.cg, l.grs⟩
theorem zi8 (f : RV → Rat → Wd) (l : LaV) : lacells (laF f l) = lacells l := by simp [lacells, laF]
theorem zge {f : RV → Rat → Wd} {okR : RV × Rat → World → Prop} {A : Option Addr} {ps : List (RV × Rat)} {V : World} (h : LsR 4 rtcells okR A ps V) (hp : ∀ p ∈ ps, okR p V → RawW p.1 (f p.1 p.2) V) : LsR 4 zns nwD A (ps.map fun p => (p.1, f p.1 p.2)) V := by
 refine ⟨?_, fun x hx => ?_⟩
 ·have e : (ps.map fun p => ((p.1, f p.1 p.2) : RV × Wd)).map zns = ps.map rtcells := by rw [List.map_map]; rfl
  rw [e]; exact h.el
 ·obtain ⟨p, hm, rfl⟩ := List.mem_map.1 hx
  exact hp p hm (h.ok p hm)
theorem zmt {f : RV → Rat → Wd} {okT : TeV → World → Prop} {A : Option Addr} {ts : List TeV} {V : World} (h : LsR 5 tecells okT A ts V) (hp : ∀ t ∈ ts, okT t V → RawW t.r (f t.r t.q) V) : LsR 5 znu twD A (ts.map fun t => ⟨t.pl, t.r, f t.r t.q⟩) V := by
 refine ⟨?_, fun x hx => ?_⟩
 ·have e : (ts.map fun t => (⟨t.pl, t.r, f t.r t.q⟩ : TwV)).map znu = ts.map tecells := by rw [List.map_map]; rfl
  rw [e]; exact h.el
 ·obtain ⟨p, hm, rfl⟩ := List.mem_map.1 hx
  exact hp p hm (h.ok p hm)
theorem zm7 {f : RV → Rat → Wd} {okT : TeV → World → Prop} {okR : RV × Rat → World → Prop} {l : LaV} {V : World} (h : LaF okT okR l V) (hT : ∀ v ∈ l.rows, ∀ t ∈ v.ts, okT t V → RawW t.r (f t.r t.q) V) (hB : ∀ p ∈ l.bias, okR p V → RawW p.1 (f p.1 p.2) V) (hK : ∀ p ∈ l.kern, okR p V → RawW p.1 (f p.1 p.2) V) : LwD (laF f l) V := by
 refine ⟨⟨?_, fun x hx => ?_⟩, zge h.bias hB, zge h.kern hK, h.grs⟩
 ·have e : (l.rows.map fun v => (⟨v.A, v.c, v.ts.map fun t => ⟨t.pl, t.r, f t.r t.q⟩⟩ : VwV)).map znh = l.rows.map vecells := by
   rw [List.map_map]
   exact List.map_congr_left fun v _ => by simp [znh, vecells]
  show El V 1 l.Ar _
  exact e ▸ h.rows.el
 ·obtain ⟨v, hm, rfl⟩ := List.mem_map.1 hx
  exact zmt (show LsR 5 tecells okT v.A v.ts V from h.rows.ok v hm) (hT v hm)
def neF (f : RV → Rat → Wd) (n : NeV) : NeW := ⟨n.inputs, n.A, n.c, n.las.map (laF f)⟩
theorem zjf {f : RV → Rat → Wd} {A : Option Addr} {ls : List LaV} {V : World} (h : El V 13 A (ls.map lacells)) (hl : ∀ l ∈ ls, LwD (laF f l) V) : LsR 13 lacells LwD A (ls.map (laF f)) V := by
 refine ⟨?_, fun x hx => ?_⟩
 ·have e : (ls.map (laF f)).map lacells = ls.map lacells := by
   rw [List.map_map]
   exact List.map_congr_left fun l _ => zi8 f l
  rw [e]; exact h
 ·obtain ⟨l, hm, rfl⟩ := List.mem_map.1 hx
  exact hl l hm
def LQ.w (q : LQ) : WQ := ⟨q.kind, q.rows.map (fun r => r.map fun p => (p.1, wdN p.2)), q.bias.map wdN, q.dims, q.kern.map wdN, q.grs⟩
def fN (_ : RV) (q : Rat) : Wd := wdN q
theorem zjT (l : LaV) : (laF fN l).wq = l.q.w := by
 unfold LaG.wq laF LaG.q LQ.w
 simp only [List.map_map]
 congr 1
 refine List.map_congr_left fun v _ => ?_
 show vwq _ = List.map _ (List.map plq v.ts)
 unfold vwq
 rw [List.map_map, List.map_map]
 rfl
structure LQ.Sz' (n : Nat) (q : LQ) : Prop where
 rows : ∀ r ∈ q.rows, ∀ p ∈ r, Sz p.2 n
 bias : ∀ x ∈ q.bias, Sz x n
 kern : ∀ x ∈ q.kern, Sz x n
theorem LaN.w {l : LaV} {V : World} {n : Nat} (h : LaN l V) (hs : l.q.Sz' n) (hn : n ≤ 1000000) : LwD (laF fN l) V :=
 zm7 h (fun v hv t ht ht' => RatN.w ht' (hs.rows (v.ts.map plq) (List.mem_map_of_mem (f := fun v : VeV => v.ts.map plq) hv) (plq t) (List.mem_map_of_mem (f := plq) ht)) hn)
  (fun p hp hp' => RatN.w hp' (hs.bias p.2 (List.mem_map_of_mem (f := Prod.snd) hp)) hn) (fun p hp hp' => RatN.w hp' (hs.kern p.2 (List.mem_map_of_mem (f := Prod.snd) hp)) hn)
theorem LaD.w {l : LaV} {V : World} {n : Nat} {g : RV → Wd} (hg : ∀ r, (∃ x, RawW r x V) → RawW r (g r) V) (h : LaD n l V) (hn : n ≤ 1000000) : LwD (laF (fun r _ => g r) l) V :=
 zm7 h (fun _ _ _ _ ht' => hg _ (RatD.w ht' hn)) (fun _ _ hp' => hg _ (RatD.w hp' hn)) (fun _ _ hp' => hg _ (RatD.w hp' hn))
theorem NeD.w {f : NeV} {V : World} {n : Nat} (h : NeD n f V) (hn : n ≤ 1000000) : ∃ g : RV → Wd, NwD (neF (fun r _ => g r) f) V := by
 obtain ⟨g, hg⟩ := zba V
 exact ⟨g, zjf h.el fun l hl => LaD.w hg (h.ok l hl) hn⟩
theorem LaD.sz {l : LaV} {V : World} {n : Nat} (h : LaD n l V) (h1 : 1 ≤ n) : l.q.Sz' n := by
 refine ⟨fun r hr p hp => ?_, fun x hx => ?_, fun x hx => ?_⟩
 ·obtain ⟨v, hv, rfl⟩ := List.mem_map.1 hr
  obtain ⟨t, ht, rfl⟩ := List.mem_map.1 hp
  exact RatD.sz (show RatD t.r t.q n V from (show LsR 5 tecells (teD n) v.A v.ts V from h.rows.ok v hv).ok t ht) h1
 ·obtain ⟨p, hp, rfl⟩ := List.mem_map.1 hx
  exact RatD.sz (show RatD p.1 p.2 n V from h.bias.ok p hp) h1
 ·obtain ⟨p, hp, rfl⟩ := List.mem_map.1 hx
  exact RatD.sz (show RatD p.1 p.2 n V from h.kern.ok p hp) h1
theorem zjd {l : LaV} {n : Nat} (h : l.q.Sz' n) (h1 : 1 ≤ n) : (zbY l).Sz' n := by
 refine ⟨fun r hr p hp => ?_, fun x hx => ?_, fun x hx => by cases hx⟩
 ·obtain ⟨k, -, rfl⟩ := List.mem_map.1 hr
  obtain ⟨i, -, -, e⟩ := zdC (List.mem_filter.1 hp).1
  rw [e]
  exact zed h1 h.kern _
 ·obtain ⟨k, -, rfl⟩ := List.mem_map.1 hx
  exact zed h1 h.bias _
theorem LwS.of {l m : LaW} (h : LwS l) (e : l.wq = m.wq) : LwS m := by
 unfold LaG.wq at e
 injection e with e1 e2 e3 e4 e5 e6
 have a2 := congrArg List.length e2
 have a3 := congrArg List.length e3
 have a5 := congrArg List.length e5
 have a6 := congrArg List.length e6
 simp only [List.length_map] at a2 a3 a5 a6
 refine ⟨by have := h.rows; omega, fun v hv => ?_, by have := h.bias; omega, by have := h.kern; omega, by have := h.grs; omega, fun g hg => ?_⟩
 ·have hm : vwq v ∈ l.rows.map vwq := by rw [e2]; exact List.mem_map_of_mem (f := vwq) hv
  obtain ⟨u, hu, e⟩ := List.mem_map.1 hm
  have := congrArg List.length e
  unfold vwq at this
  simp only [List.length_map] at this
  have := h.row u hu
  omega
 ·have hm : g.l ∈ l.grs.map GrV.l := by rw [e6]; exact List.mem_map_of_mem (f := GrV.l) hg
  obtain ⟨u, hu, e⟩ := List.mem_map.1 hm
  have := h.gr u hu
  rw [← e]
  exact this
theorem zeP (pl : Nat → Option Int) (K : Nat → Rat) (n : Nat) : (zcP pl K n).length ≤ n := by
 have h := List.length_filterMap_le (fun k => (pl k).map fun a => (a, K k)) (List.range n)
 rwa [List.length_range] at h
structure LQ.Ln (q : LQ) : Prop where
 rows : q.rows.length ≤ 100000
 row : ∀ r ∈ q.rows, r.length ≤ 1000
 bias : q.bias.length ≤ 100000
 kern : q.kern.length ≤ 100000
 grs : q.grs.length ≤ 100000
 gr : ∀ g ∈ q.grs, g.length ≤ 1000
theorem LQ.Ln.w {l : LaV} (h : l.q.Ln) (f : RV → Rat → Wd) : LwS (laF f l) := by
 refine ⟨?_, fun v hv => ?_, ?_, ?_, ?_, fun g hg => ?_⟩
 ·have h1 := h.rows
  show (l.rows.map _).length ≤ _
  rw [show l.q.rows.length = l.rows.length from List.length_map _] at h1
  rw [List.length_map]; omega
 ·obtain ⟨v, hm, rfl⟩ := List.mem_map.1 (show _ ∈ l.rows.map _ from hv)
  have h1 := h.row (v.ts.map plq) (List.mem_map_of_mem (f := fun v : VeV => v.ts.map plq) hm)
  rw [List.length_map] at h1 ⊢; omega
 ·have h1 := h.bias
  show (l.bias.map _).length ≤ _
  rw [show l.q.bias.length = l.bias.length from List.length_map _] at h1
  rw [List.length_map]; omega
 ·have h1 := h.kern
  show (l.kern.map _).length ≤ _
  rw [show l.q.kern.length = l.kern.length from List.length_map _] at h1
  rw [List.length_map]; omega
 ·have h1 := h.grs
  rw [show l.q.grs.length = l.grs.length from List.length_map _] at h1
  show l.grs.length ≤ _; omega
 ·have h1 := h.gr g.l (List.mem_map_of_mem (f := GrV.l) hg)
  omega
theorem zja {l : LaV} (h : ConvS l) : (zbY l).Ln := by
 have hs := h.s.nn
 obtain ⟨C, hC⟩ := zal (z := l.ch) (by omega)
 obtain ⟨O, hO⟩ := zal (z := l.out) (by omega)
 obtain ⟨KH, hKH⟩ := zal (z := l.kh) (by omega)
 obtain ⟨KW, hKW⟩ := zal (z := l.kw) (by omega)
 have hh := h.h
 have hp := h.pad
 have hz := h.s
 unfold sidesP side at hz
 obtain ⟨H, hH⟩ := zal (z := l.high) (by omega)
 obtain ⟨W, hW⟩ := zal (z := l.wide) (by omega)
 obtain ⟨ST, hST⟩ := zal (z := l.st) (by omega)
 obtain ⟨PD, hPD⟩ := zal (z := l.pad) (by omega)
 have hu := h.u
 have hk := h.k
 have he := h.e
 unfold zbA zbx at hu
 have hE : C * KH * KW ≤ 1000 := by
  have h9 : (l.kern.length : Int) = ((O * (C * KH * KW) : Nat) : Int) := by rw [hk, hO, hC, hKH, hKW]; simp only [Int.natCast_mul]
  have h8 : 1 * (C * KH * KW) ≤ O * (C * KH * KW) := Nat.mul_le_mul_right _ (by omega)
  omega
 rw [hH, hPD, hKH] at hh
 have hR : ((nRows l : Nat) : Int) = (l.high + 2 * l.pad - l.kh) / l.st + 1 := by
  have h8 : ((H + 2 * PD - KH : Nat) : Int) = (H : Int) + 2 * (PD : Int) - (KH : Int) := by omega
  unfold nRows
  rw [hH, hPD, hKH, hST]
  simp only [Int.toNat_natCast]
  rw [Int.natCast_add, Int.natCast_ediv, h8]; rfl
 have hQ : ((nCols l : Nat) : Int) = (l.wide + 2 * l.pad - l.kw) / l.st + 1 := by
  have h8 : ((W + 2 * PD - KW : Nat) : Int) = (W : Int) + 2 * (PD : Int) - (KW : Int) := by have := h.h.2; omega
  unfold nCols
  rw [hW, hPD, hKW, hST]
  simp only [Int.toNat_natCast]
  rw [Int.natCast_add, Int.natCast_ediv, h8]; rfl
 have hun : O * nRows l * nCols l ≤ 256 := by
  have h9 : ((O * nRows l * nCols l : Nat) : Int) ≤ 256 := by rw [Int.natCast_mul, Int.natCast_mul, hR, hQ, ← hO]; exact hu
  omega
 have hun' : l.out.toNat * nRows l * nCols l ≤ 256 := by rw [hO, Int.toNat_natCast]; exact hun
 have hE' : l.ch.toNat * l.kh.toNat * l.kw.toNat ≤ 1000 := by rw [hC, hKH, hKW]; simp only [Int.toNat_natCast]; exact hE
 refine ⟨?_, fun r hr => ?_, ?_, Nat.zero_le _, Nat.zero_le _, fun g hg => by cases hg⟩
 ·show ((List.range (l.out.toNat * nRows l * nCols l)).map _).length ≤ _
  rw [List.length_map, List.length_range]; omega
 ·obtain ⟨k, -, rfl⟩ := List.mem_map.1 (show r ∈ (List.range (l.out.toNat * nRows l * nCols l)).map _ from hr)
  exact Nat.le_trans (List.length_filter_le _ _) (Nat.le_trans (zeP _ _ _) hE')
 ·show ((List.range (l.out.toNat * nRows l * nCols l)).map _).length ≤ _
  rw [List.length_map, List.length_range]; omega
end Go.Proofs.YtikmgoefjbhcjaaGreatDoor
