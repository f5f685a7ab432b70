/-
 lower.Lower. tripwireref14.Lower. tripwirelow: what is looked at (ShortRats, ShortVecs, SmallNet). Nets of numbers as nets of words; what stays small when a net is lowered.
-/
import Derived.Test.YtikmgoefjbhcjaaGreatDoorNO
import Derived.Test.YtikmgoefjbhcjaaGreatDoorMD
import Derived.Test.YtikmgoefjbhcjaaGreatDoorNH
namespace Go.Proofs.YtikmgoefjbhcjaaGreatDoor
set_option maxHeartbeats 16000000
open Go.RowKit

structure ConvS (l : LaV) : Prop where
 s : sidesP l
 pad : 0 ≤ l.pad ∧ l.pad < l.kh ∧ l.pad < l.kw
 h : 0 ≤ l.high + 2 * l.pad - l.kh ∧ 0 ≤ l.wide + 2 * l.pad - l.kw
 k : (l.kern.length : Int) = l.out * (l.ch * l.kh * l.kw)
 b : (l.bias.length : Int) = l.out
 u : l.out * zbA l * zbx l ≤ 256
 e : l.kern.length ≤ 1000
def nRows (l : LaV) : Nat := (l.high.toNat + 2 * l.pad.toNat - l.kh.toNat) / l.st.toNat + 1
def nCols (l : LaV) : Nat := (l.wide.toNat + 2 * l.pad.toNat - l.kw.toNat) / l.st.toNat + 1
def zbY (l : LaV) : LQ := zjx l.ch.toNat l.high.toNat l.wide.toNat l.out.toNat l.kh.toNat l.kw.toNat l.st.toNat l.pad.toNat (nRows l) (nCols l) (l.kern.map Prod.snd) (l.bias.map Prod.snd)
def lowQ (l : LaV) : LQ := if l.kind = 2 then zbY l else zcp l
structure LowOk (l : LaV) : Prop where
 s : LaS l
 r : ∀ v ∈ l.rows, Rise v.ts
 c : l.kind = 2 → ConvS l
theorem zal {z : Int} (h : 0 ≤ z) : ∃ n : Nat, z = n := ⟨z.toNat, by omega⟩
theorem zlS (w : World) (n : Nat) (hn : n ≤ 100000) (h1n : 1 ≤ n) (l : LaV) (h : LaD n l w) (hT : Tz w) (nr nb nk ng : Nat) (HL : Hid (Lens l nr nb nk ng)) (hc : ConvS l) : Calls Tryz.prog 29 #[.agg #[.int .u8 l.kind, .slice l.Ar nr l.cr, .slice l.Ab nb l.cb, .int .i64 l.ch, .int .i64 l.high, .int .i64 l.wide, .int .i64 l.out, .int .i64 l.kh, .int .i64 l.kw, .int .i64 l.st, .int .i64 l.pad, .slice l.Ak nk l.ck, .slice l.Ag ng l.cg]] w (zgh (zbY l) w) := by
 have hn9 := hc.s.nn
 have hp9 := hc.pad
 have hh9 := hc.h
 obtain ⟨C, hC⟩ := zal (z := l.ch) (by omega)
 obtain ⟨H, hH⟩ := zal (z := l.high) (by omega)
 obtain ⟨W, hW⟩ := zal (z := l.wide) (by omega)
 obtain ⟨O, hO⟩ := zal (z := l.out) (by omega)
 obtain ⟨KH, hKH⟩ := zal (z := l.kh) (by omega)
 obtain ⟨KW, hKW⟩ := zal (z := l.kw) (by omega)
 obtain ⟨ST, hST⟩ := zal (z := l.st) (by omega)
 obtain ⟨PD, hPD⟩ := zal (z := l.pad) (by omega)
 have hk9 := hc.k
 have hb9 := hc.b
 have hu9 := hc.u
 have he9 := hc.e
 unfold zbA zbx at hu9
 rw [hC, hH, hW, hO, hKH, hKW, hST] at hn9
 rw [hPD, hKH, hKW] at hp9
 rw [hH, hW, hPD, hKH, hKW] at hh9
 rw [hO, hC, hKH, hKW] at hk9
 rw [hO] at hb9
 rw [hO, hH, hW, hPD, hKH, hKW, hST] at hu9
 have hkn : l.kern.length = O * (C * KH * KW) := by
  have h9 : (l.kern.length : Int) = ((O * (C * KH * KW) : Nat) : Int) := by rw [hk9]; simp only [Int.natCast_mul]
  omega
 have hEn : C * KH * KW ≤ 1000 := by
  have h8 : 1 * (C * KH * KW) ≤ O * (C * KH * KW) := Nat.mul_le_mul_right _ (by have := hc.s.2.2.2.1; unfold side at this; omega)
  omega
 have hR9 : ((((H + 2 * PD - KH) / ST + 1 : Nat) : Nat) : Int) = ((H : Int) + 2 * (PD : Int) - (KH : Int)) / (ST : Int) + 1 := by
  have h8 : ((H + 2 * PD - KH : Nat) : Int) = (H : Int) + 2 * (PD : Int) - (KH : Int) := by omega
  rw [Int.natCast_add, Int.natCast_ediv, h8]; rfl
 have hQ9 : ((((W + 2 * PD - KW) / ST + 1 : Nat) : Nat) : Int) = ((W : Int) + 2 * (PD : Int) - (KW : Int)) / (ST : Int) + 1 := by
  have h8 : ((W + 2 * PD - KW : Nat) : Int) = (W : Int) + 2 * (PD : Int) - (KW : Int) := by omega
  rw [Int.natCast_add, Int.natCast_ediv, h8]; rfl
 have hun : O * ((H + 2 * PD - KH) / ST + 1) * ((W + 2 * PD - KW) / ST + 1) ≤ 256 := by
  have h9 : ((O * ((H + 2 * PD - KH) / ST + 1) * ((W + 2 * PD - KW) / ST + 1) : Nat) : Int) ≤ 256 := by
   rw [Int.natCast_mul, Int.natCast_mul, hR9, hQ9]; exact hu9
  omega
 have key := zjH w n hn h1n l h hT nr nb nk ng HL.out.k HL.out.b C H W O KH KW ST PD ((H + 2 * PD - KH) / ST + 1) ((W + 2 * PD - KW) / ST + 1) (by omega) (by omega) (by omega) (by omega) rfl rfl (by rw [HL.out.k, hkn]) (by rw [HL.out.b]; omega) hEn (by omega)
 unfold zbY nRows nCols
 rw [hC, hH, hW, hO, hKH, hKW, hST, hPD]
 simp only [Int.toNat_natCast]
 exact key
set_option maxRecDepth 100000 in
theorem zm2 (w : World) (n : Nat) (hn : n ≤ 100000) (h1n : 1 ≤ n) (l : LaV) (h : LaD n l w) (hT : Tz w) (nr nb nk ng : Nat) (HL : Hid (Lens l nr nb nk ng)) (hc : ConvS l) (hk : l.kind = 2) : Calls Tryz.prog 28 #[lA l nr nb nk ng] w (zgh (lowQ l) w) := by
 unfold lowQ
 rw [if_pos hk]
 have e0 : (l.kind == 2) = true := by simp [hk]
 have Hc := zmZ hc
 clear hk hc
 have HE := zmZ (zkL l nr nb nk ng (((LaD.old l w h)).and (hT.old)))
 have c := Env.c2 HE.out
 have dd := Env.d2 HE.out
 clear h hT
 unfold lA
 go_enter Tryz.func28, Tryz.ntmps28
 go_wp2_with fail
 refine (zlS _ n hn h1n l HE.out.o.1 HE.out.o.2 nr nb nk ng HL Hc.out).mono ?_
 rintro e w1 ⟨y, rfl, hy, hk, hb⟩
 have HY := zmZ hy
 replace HE := zmZ (Env.ret HE.out hk hb)
 replace c := Env.c2 HE.out
 clear hy hk hb
 go_wp2_with fail
 have hE := HE.out.put13 (.int .u8 y.kind) (.slice y.Ar y.rows.length y.cr) (.slice y.Ab y.bias.length y.cb) (.int .i64 y.ch) (.int .i64 y.high) (.int .i64 y.wide) (.int .i64 y.out) (.int .i64 y.kh) (.int .i64 y.kw) (.int .i64 y.st) (.int .i64 y.pad) (.slice y.Ak y.kern.length y.ck) (.slice y.Ag y.grs.length y.cg)
 replace c := Env.c2 hE
 exact bodyPost_ret (v := .agg #[.int .u8 y.kind, .slice y.Ar y.rows.length y.cr, .slice y.Ab y.bias.length y.cb, .int .i64 y.ch, .int .i64 y.high, .int .i64 y.wide, .int .i64 y.out, .int .i64 y.kh, .int .i64 y.kw, .int .i64 y.st, .int .i64 y.pad, .slice y.Ak y.kern.length y.ck, .slice y.Ag y.grs.length y.cg]) (by simp [results, Tryz.results28, go_sem, c]) rfl ⟨y, rfl, HY.out, (hE.rsn.imp fun _ h => h.1).mono fun _ h => h.1, hE.bel⟩
set_option maxRecDepth 100000 in
theorem zlw (w : World) (n : Nat) (hn : n ≤ 100000) (h1n : 1 ≤ n) (l : LaV) (h : LaD n l w) (hT : Tz w) (nr nb nk ng : Nat) (HL : Hid (Lens l nr nb nk ng)) (hs : LaS l) (hr : ∀ v ∈ l.rows, Rise v.ts) (hk : ¬ l.kind = 2) : Calls Tryz.prog 28 #[lA l nr nb nk ng] w (zgh (lowQ l) w) := by
 unfold lowQ
 rw [if_neg hk]
 have e0 : (l.kind == 2) = false := by simp [hk]
 have Hs := zmZ hs
 have Hr := zmZ hr
 clear hk hs hr
 have HE := zmZ (zkL l nr nb nk ng (((LaD.old l w h)).and (hT.old)))
 have c := Env.c2 HE.out
 have dd := Env.d2 HE.out
 clear h hT
 unfold lA
 go_enter Tryz.func28, Tryz.ntmps28
 go_wp2_with fail
 refine (zjh _ n hn h1n l HE.out.o.1 Hs.out Hr.out HE.out.o.2 nr nb nk ng HL).mono ?_
 rintro e w1 ⟨y, rfl, hy, hk, hb⟩
 have HY := zmZ hy
 replace HE := zmZ (Env.ret HE.out hk hb)
 replace c := Env.c2 HE.out
 clear hy hk hb
 go_wp2_with fail
 have hE := HE.out.put13 (.int .u8 y.kind) (.slice y.Ar y.rows.length y.cr) (.slice y.Ab y.bias.length y.cb) (.int .i64 y.ch) (.int .i64 y.high) (.int .i64 y.wide) (.int .i64 y.out) (.int .i64 y.kh) (.int .i64 y.kw) (.int .i64 y.st) (.int .i64 y.pad) (.slice y.Ak y.kern.length y.ck) (.slice y.Ag y.grs.length y.cg)
 replace c := Env.c2 hE
 exact bodyPost_ret (v := .agg #[.int .u8 y.kind, .slice y.Ar y.rows.length y.cr, .slice y.Ab y.bias.length y.cb, .int .i64 y.ch, .int .i64 y.high, .int .i64 y.wide, .int .i64 y.out, .int .i64 y.kh, .int .i64 y.kw, .int .i64 y.st, .int .i64 y.pad, .slice y.Ak y.kern.length y.ck, .slice y.Ag y.grs.length y.cg]) (by simp [results, Tryz.results28, go_sem, c]) rfl ⟨y, rfl, HY.out, (hE.rsn.imp fun _ h => h.1).mono fun _ h => h.1, hE.bel⟩
theorem zlC (w : World) (n : Nat) (hn : n ≤ 100000) (h1n : 1 ≤ n) (l : LaV) (h : LaD n l w) (hl : LowOk l) (hT : Tz w) : Calls Tryz.prog 28 #[yA l] w (zgh (lowQ l) w) := by
 by_cases hk : l.kind = 2
 ·exact zm2 w n hn h1n l h hT _ _ _ _ (zmZ (Lens.of l)) (hl.c hk) hk
 ·exact zlw w n hn h1n l h hT _ _ _ _ (zmZ (Lens.of l)) hl.s hl.r hk
set_option maxRecDepth 100000 in
theorem zmD (w : World) (n : Nat) (hn : n ≤ 100000) (h1n : 1 ≤ n) (A : Option Addr) (c : Nat) (l : List LaV) (h : LsR 13 lacells (LaD n) A l w) (hl : l.length ≤ 100000) (hT : Tz w) (hv : ∀ la ∈ l, LowOk la) (nl : Nat) (hnl : nl = l.length) :
 Calls Tryz.prog 27 #[.slice A nl c, .func (.func 28) #[] #[]] w (CpRes 13 (lacells : LaV → Array Value) LaC (LaG.q) (l.map (lowQ)) w) := by
 have sl1 := h.sl
 rw [← hnl] at sl1
 have hsz2 := zb5
 have hadd := za3
 have Hn := zmZ hnl
 have Hl := zmZ hl
 have hnb : nl ≤ 100000 := by omega
 have Hv := zmZ hv
 clear hv
 have HG := zmZ ((GL.start (Env.start ((h.old LaD.old).and hT.old))).new_ 36 13)
 clear h hnl hl
 go_enter Tryz.func27, Tryz.ntmps27
 go_wp2_with fail
 go_loopw [5, 10] (fun ov iv wr => ∃ (Ao : Option Addr) (co i : Nat) (os : List (LaV)), ov = .slice Ao os.length co ∧ iv = .int .i64 (i : Int) ∧ i ≤ nl ∧ Hid (os.map (LaG.q) = (l.take i).map (lowQ)) ∧ Hid (GL w [⟨36, 13, .slice Ao os.length co, os.map lacells⟩] (fun V => LsR 13 lacells (LaD n) A l V ∧ Tz V) (fun V => ∀ y ∈ os, (LaC) y V) wr)) (fun _ iv _ => nl - (intOf iv).toNat)
 case atStart => exact ⟨none, 0, 0, [], rfl, rfl, Nat.zero_le _, zmZ rfl, zmZ (HG.out.imp (fun _ h => h.2) (fun _ _ => by simp))⟩
 case round =>
  clear HG
  obtain ⟨Ao, co, i, os, rfl, rfl, hi, HM, HG⟩ := hrel
  by_cases hlt : i < nl
  ·have hlt2 : i < l.length := by rw [← Hn.out]; exact hlt
   have HE := zmZ HG.out.env
   have c0 := HE.out.o.1.1.lac i hlt2
   have HM2 := zmZ (fun (y : LQ) (hy : y = (lowQ) l[i]) => zau HM.out hlt2 hy)
   have hos := congrArg List.length HM.out
   rw [List.length_map, List.length_map, List.length_take] at hos
   have hosl : os.length ≤ 100000 := by have := Hl.out; omega
   clear hos
   obtain ⟨p, hp⟩ : ∃ p, p = l[i] := ⟨_, rfl⟩
   rw [← hp] at c0 HM2
   have Hm := zmZ (show p ∈ l by rw [hp]; exact List.getElem_mem hlt2)
   clear hp
   go_upto_region 5 with fail
   obtain ⟨W2, gt, hW2, hgt, HE⟩ := Env.al HE.out 36 #[.int .u8 p.kind, .slice p.Ar p.rows.length p.cr, .slice p.Ab p.bias.length p.cb, .int .i64 p.ch, .int .i64 p.high, .int .i64 p.wide, .int .i64 p.out, .int .i64 p.kh, .int .i64 p.kw, .int .i64 p.st, .int .i64 p.pad, .slice p.Ak p.kern.length p.ck, .slice p.Ag p.grs.length p.cg]
   rw [hW2, hgt]
   clear hW2 hgt c0
   have cb := Env.c1 HE.out
   go_wp2_with fail
   refine (zlC _ n hn h1n p (HE.out.o.1.1.ok p Hm.out) (Hv.out p Hm.out) HE.out.o.1.2).mono ?_
   rintro e w3 ⟨y, rfl, hy, hk, hb⟩
   have HM3 := zmZ (HM2.out _ hy)
   replace HE := zmZ (Env.ret HE.out hk hb)
   obtain ⟨A', c', w8, hrun, hG⟩ := GL.appX (cells := lacells) zdE zep rfl (by decide) (by decide) HG.out HE.out y rfl (zfk y) (by omega)
   have Hrun := zmZ hrun
   have HG2 := zmZ hG
   clear hrun hG hk hb hy
   go_wp2_with (at_builtin; refine za1 rfl (.tmp 14) (.tmp 18) 22 _ _ _ rfl rfl rfl Hrun.out ?_)
   clear Hrun
   go_wp2_with fail
   go_roundw
   case rel => exact ⟨A', c', i + 1, os ++ [y], by simp, by go_num, by omega, zmZ (by rw [List.map_append]; exact HM3.out), zmZ (HG2.out.imp (fun _ h => h) (fun V h p hp => by
    rcases List.mem_append.1 hp with hp | hp
    ·exact h.2 p hp
    ·rw [List.mem_singleton.1 hp]; exact h.1.1))⟩
   case measure => (simp [intOf] <;> omega)
  ·obtain rfl : i = nl := by omega
   obtain ⟨A', c', hv, hc, hr⟩ := HG.out.tell (cells := lacells) (ok := LaC) (l := os) (fun V h => h)
   obtain ⟨rfl, rfl⟩ : Ao = A' ∧ co = c' := by simpa using hv
   have Hr := zmZ hr
   have Hc := zmZ hc
   have Hbel := zmZ HG.out.bel
   clear hr hv HG hc
   go_wp2_with fail
   go_ret
   exact ⟨Ao, co, os, rfl, Hc.out, by rw [HM.out, Hn.out, List.take_length], Hr.out, Hbel.out⟩
theorem zd9 {w : World} : ∀ {ls : List LaV} {N : Int}, zc0 w ls N → (∀ l ∈ ls, LaS l ∧ l.kern.length ≤ 1000) → ∀ l ∈ ls, LowOk l
 | [], _, _, _, l, hl => by cases hl
 | l :: ls, N, h, hs, x, hx => by
  rcases List.mem_cons.1 hx with rfl | hx
  ·obtain ⟨hF, hu, -⟩ := h
   have h1 := hs x (List.mem_cons_self ..)
   refine ⟨h1.1, fun v hv => ?_, fun hk => ?_⟩
   ·rcases hF with ⟨-, h⟩ | ⟨-, h⟩ | ⟨-, -, h, -⟩ | ⟨-, h⟩
    ·exact (h.er v hv).rise
    ·rw [h.e.1] at hv; cases hv
    ·rw [h] at hv; cases hv
    ·rw [h.r.1] at hv; cases hv
   ·rcases hF with ⟨h, -⟩ | ⟨-, h⟩ | ⟨h, -⟩ | ⟨h, -⟩
    ·omega
    ·unfold zae at hu
     rw [if_neg (by omega), if_pos hk] at hu
     exact ⟨h.s, h.pad, h.h, h.k, h.b, hu, h1.2⟩
    ·omega
    ·omega
  ·exact zd9 h.2.2 (fun l hl => hs l (List.mem_cons_of_mem _ hl)) x hx
def zmR (f : NeV) (w : World) (e : Ending) (w' : World) : Prop :=
 (∃ err : Int, err ≠ 0 ∧ NetP w f err ∧ e = .returned (.tuple #[.agg #[.int .i64 0, .slice none 0 0], .int .i64 err]) ∧ Below w.heap.size w w') ∨
 (NetP w f 0 ∧ ∃ (A : Option Addr) (c : Nat) (ls : List LaV), e = .returned (.tuple #[.agg #[.int .i64 f.inputs, .slice A (List.length ls) c], .int .i64 0]) ∧ (List.length ls ≤ c ∧ ∀ l ∈ ls, CapG l) ∧ ls.map LaG.q = f.las.map lowQ ∧ Rests w' (w.heap.size ≤ ·) (LsR 13 lacells LaN A ls) ∧ Below w.heap.size w w')
set_option maxRecDepth 100000 in
theorem zcy (w : World) (n : Nat) (hn : n ≤ 100000) (h1n : 1 ≤ n) (f : NeV) (h : NeD n f w) (hs : NeS f) (hk : ∀ l ∈ f.las, l.kern.length ≤ 1000) (hT : Tz w) (nl : Nat) (hnl : nl = f.las.length) : Calls Tryz.prog 9 #[.agg #[.int .i64 f.inputs, .slice f.A nl f.c]] w (zmR f w) := by
 have Hs := zmZ hs
 have Hk := zmZ hk
 have Hl := zmZ hnl
 obtain ⟨W0, hW0⟩ : ∃ W0, W0 = ((w.alloc (.cells #[.int .i64 f.inputs, .slice f.A nl f.c] 24)).alloc (.cells #[.int .i64 0, .slice none 0 0] 24)) := ⟨_, rfl⟩
 have HE := zmZ (Env.lay2 (Env.start ((h.old).and ((hT.old).and ((NeD.iffR h))))) hW0)
 subst hW0
 have c := Env.c2 HE.out
 have dd := Env.d2 HE.out
 clear h hs hT hnl hk
 go_enter Tryz.func9, Tryz.ntmps9
 go_wp2_with fail
 refine (zc4 _ n (by omega) h1n f HE.out.o.1 Hs.out HE.out.o.2.1 nl Hl.out).mono ?_
 rintro e w1 ⟨⟨err, rfl, hN⟩, hb⟩
 have HN := zmZ ((HE.out.o.2.2 err).1 hN)
 replace HE := zmZ (Env.call HE.out hb)
 replace c := Env.c2 HE.out
 clear hN hb
 by_cases h0 : err = 0
 ·subst h0
  have HO := zmZ (show ∀ l ∈ f.las, LowOk l from by
   rcases HN.out with ⟨-, h9⟩ | ⟨-, h9⟩
   ·omega
   ·exact zd9 h9.fits (fun l hl => ⟨Hs.out.la l hl, Hk.out l hl⟩))
  go_wp2_with fail
  refine (zmD _ n hn h1n f.A f.c f.las HE.out.o.1 Hs.out.n HE.out.o.2.1 HO.out nl Hl.out).mono ?_
  rintro e w2 ⟨A2, c2, ls, rfl, hc, hm, hk, hb⟩
  have HM := zmZ hm
  have Hc := zmZ (show List.length ls ≤ c2 ∧ ∀ l ∈ ls, CapG l from ⟨hc, fun l hl => (hk.now.ok l hl).1⟩)
  replace HE := zmZ (Env.ret HE.out hk hb)
  replace c := Env.c2 HE.out
  clear hm hc hk hb
  go_wp2_with fail
  have hE := HE.out.put2 (.int .i64 f.inputs) (.slice A2 (List.length ls) c2)
  replace c := Env.c2 hE
  exact bodyPost_ret (v := .tuple #[.agg #[.int .i64 f.inputs, .slice A2 (List.length ls) c2], .int .i64 0]) (by simp [results, Tryz.results9, go_sem, c]) rfl (.inr ⟨HN.out, A2, c2, ls, rfl, Hc.out, HM.out, (hE.rsn.imp fun _ h => ⟨h.1.el, fun l hl => (h.1.ok l hl).2⟩).mono fun _ h => h.1, hE.bel⟩)
 ·have H0 := zmZ h0
  have h1 : (err != 0) = true := by simp [h0]
  clear h0
  go_wp2_with fail
  have hE := HE.out.put2 (.int .i64 0) (.slice none 0 0)
  replace c := Env.c2 hE
  exact bodyPost_ret (v := .tuple #[.agg #[.int .i64 0, .slice none 0 0], .int .i64 err]) (by simp [results, Tryz.results9, go_sem, c]) rfl (.inl ⟨err, H0.out, HN.out, rfl, hE.bel⟩)

def zlD (l : LaV) : LQ := if l.kind = 2 then zbY l else l.q
def zcE (P : Prop) (e : Ending) : Prop := ∃ B, e = .returned (.bool B) ∧ (B = true → P)
theorem zai {P : Prop} : zcE P (.returned (.bool false)) := ⟨false, rfl, fun h => absurd h (by decide)⟩
theorem zcd {P : Prop} (h : P) : zcE P (.returned (.bool true)) := ⟨true, rfl, fun _ => h⟩
def shR (d : Nat) (r : RV) : Prop := r.num.k ≤ d ∧ r.den.k ≤ d
set_option maxRecDepth 100000 in
theorem zfr (w : World) (r : RV) (d : Nat) (hk : ¬ r.num.k ≤ d) : Calls Tryz.prog 33 #[rA r, .int .i64 (d : Int)] w fun e w' => zcE (shR d r) e ∧ Below w.heap.size w w' := by
 have HE := zmZ (lyR r (Rests.pure trivial w _))
 have c := Env.c1 HE.out
 unfold rA
 go_enter Tryz.func33, Tryz.ntmps33
 have h9 : ¬ r.num.k ≤ d := hk
 go_wp2_with fail
 go_ret
 exact ⟨zai, HE.out.bel⟩
set_option maxRecDepth 100000 in
theorem zfg (w : World) (r : RV) (d : Nat) (hk : r.num.k ≤ d) : Calls Tryz.prog 33 #[rA r, .int .i64 (d : Int)] w fun e w' => zcE (shR d r) e ∧ Below w.heap.size w w' := by
 have HE := zmZ (lyR r (Rests.pure trivial w _))
 have c := Env.c1 HE.out
 unfold rA
 go_enter Tryz.func33, Tryz.ntmps33
 have h9 : r.num.k ≤ d := hk
 go_wp2_with fail
 go_ret
 exact ⟨⟨_, rfl, fun h => ⟨by omega, by simpa using h⟩⟩, HE.out.bel⟩
theorem zcL (w : World) (r : RV) (d : Nat) : Calls Tryz.prog 33 #[rA r, .int .i64 (d : Int)] w fun e w' => zcE (shR d r) e ∧ Below w.heap.size w w' := by
 by_cases hk : r.num.k ≤ d
 ·exact zfg w r d hk
 ·exact zfr w r d hk
set_option maxRecDepth 100000 in
theorem zcR (w : World) {ok : RV × Rat → World → Prop} (hok : ∀ p W, ok p W → Rests W (· < W.heap.size) (ok p)) (A : Option Addr) (c : Nat) (l : List (RV × Rat)) (h : LsR 4 rtcells ok A l w) (hl : l.length ≤ 9223372036854775807) (U d : Nat) (nl : Nat) (hnl : nl = l.length) :
 Calls Tryz.prog 12 #[.slice A nl c, .int .i64 (U : Int), .int .i64 (d : Int)] w fun e w' => zcE (l.length ≤ U ∧ ∀ p ∈ l, shR d p.1) e ∧ Below w.heap.size w w' := by
 have sl1 := h.sl
 rw [← hnl] at sl1
 have hsz2 := zak
 have hadd := za3
 have hnb : nl ≤ 9223372036854775807 := by omega
 have Hn := zmZ hnl
 have Ho := zmZ (h.old hok)
 have Hb := zmZ (Below.refl w.heap.size w)
 clear h hnl hl
 go_enter Tryz.func12, Tryz.ntmps12
 go_upto_region 1 with fail
 by_cases q0 : U < nl
 ·go_wp2_with fail
  go_ret
  exact ⟨zai, Hb.out⟩
 ·have H0 := zmZ q0
  go_wp2_with fail
  clear q0
  go_loopw [7] (fun iv wr => ∃ i : Nat, iv = .int .i64 (i : Int) ∧ i ≤ nl ∧ Hid (∀ p ∈ l.take i, shR d p.1) ∧ Hid (Below w.heap.size w wr)) (fun iv _ => nl - (intOf iv).toNat)
  case atStart => exact ⟨0, rfl, Nat.zero_le _, zmZ (by simp), Hb⟩
  case round =>
   clear Hb
   obtain ⟨i, rfl, hi, HP, Hb⟩ := hrel
   by_cases hlt : i < nl
   ·have hlt2 : i < l.length := by rw [← Hn.out]; exact hlt
    have HL := zmZ (Ho.out.below Hb.out).now
    have c0 := HL.out.rc i hlt2
    obtain ⟨v, hv⟩ : ∃ v, v = l[i] := ⟨_, rfl⟩
    rw [← hv] at c0
    have Hv := zmZ hv
    have Hm := zmZ (show v ∈ l by rw [hv]; exact List.getElem_mem hlt2)
    clear hv
    go_wp2_with fail
    refine (zcL _ v.1 d).mono ?_
    rintro e w3 ⟨⟨B, rfl, hB⟩, hb⟩
    have HB := zmZ hB
    replace Hb := zmZ (Below.after Hb.out hb)
    clear hb hB c0
    cases B
    ·go_wp2_with fail
     go_ret
     exact ⟨zai, Hb.out⟩
    ·go_wp2_with fail
     go_roundw
     case rel => exact ⟨i + 1, by go_num, by omega, zmZ (zaB HP.out hlt2 (by rw [← Hv.out]; exact HB.out (by first | rfl | trivial))), Hb⟩
     case measure => (simp [intOf] <;> omega)
   ·obtain rfl : i = nl := by omega
    have HP2 := zmZ (show ∀ p ∈ l, shR d p.1 by have := HP.out; rw [Hn.out, List.take_length] at this; exact this)
    go_wp2_with fail
    go_ret
    exact ⟨zcd ⟨by have := H0.out; have := Hn.out; omega, HP2.out⟩, Hb.out⟩
set_option maxRecDepth 100000 in
theorem zgS (w : World) {ok : TeV → World → Prop} (hok : ∀ p W, ok p W → Rests W (· < W.heap.size) (ok p)) (A : Option Addr) (c : Nat) (l : List (TeV)) (h : LsR 5 tecells ok A l w) (hl : l.length ≤ 9223372036854775807) (U d : Nat) (nl : Nat) (hnl : nl = l.length) :
 Calls Tryz.prog 40 #[.slice A nl c, .int .i64 (U : Int), .int .i64 (d : Int)] w fun e w' => zcE (l.length ≤ U ∧ ∀ p ∈ l, shR d p.r) e ∧ Below w.heap.size w w' := by
 have sl1 := h.sl
 rw [← hnl] at sl1
 have hsz2 := zas
 have hadd := za3
 have hnb : nl ≤ 9223372036854775807 := by omega
 have Hn := zmZ hnl
 have Ho := zmZ (h.old hok)
 have Hb := zmZ (Below.refl w.heap.size w)
 clear h hnl hl
 go_enter Tryz.func40, Tryz.ntmps40
 go_upto_region 1 with fail
 by_cases q0 : U < nl
 ·go_wp2_with fail
  go_ret
  exact ⟨zai, Hb.out⟩
 ·have H0 := zmZ q0
  go_wp2_with fail
  clear q0
  go_loopw [7] (fun iv wr => ∃ i : Nat, iv = .int .i64 (i : Int) ∧ i ≤ nl ∧ Hid (∀ p ∈ l.take i, shR d p.r) ∧ Hid (Below w.heap.size w wr)) (fun iv _ => nl - (intOf iv).toNat)
  case atStart => exact ⟨0, rfl, Nat.zero_le _, zmZ (by simp), Hb⟩
  case round =>
   clear Hb
   obtain ⟨i, rfl, hi, HP, Hb⟩ := hrel
   by_cases hlt : i < nl
   ·have hlt2 : i < l.length := by rw [← Hn.out]; exact hlt
    have HL := zmZ (Ho.out.below Hb.out).now
    have c0 := HL.out.tc i hlt2
    obtain ⟨v, hv⟩ : ∃ v, v = l[i] := ⟨_, rfl⟩
    rw [← hv] at c0
    have Hv := zmZ hv
    have Hm := zmZ (show v ∈ l by rw [hv]; exact List.getElem_mem hlt2)
    clear hv
    go_wp2_with fail
    refine (zcL _ v.r d).mono ?_
    rintro e w3 ⟨⟨B, rfl, hB⟩, hb⟩
    have HB := zmZ hB
    replace Hb := zmZ (Below.after Hb.out hb)
    clear hb hB c0
    cases B
    ·go_wp2_with fail
     go_ret
     exact ⟨zai, Hb.out⟩
    ·go_wp2_with fail
     go_roundw
     case rel => exact ⟨i + 1, by go_num, by omega, zmZ (zaB HP.out hlt2 (by rw [← Hv.out]; exact HB.out (by first | rfl | trivial))), Hb⟩
     case measure => (simp [intOf] <;> omega)
   ·obtain rfl : i = nl := by omega
    have HP2 := zmZ (show ∀ p ∈ l, shR d p.r by have := HP.out; rw [Hn.out, List.take_length] at this; exact this)
    go_wp2_with fail
    go_ret
    exact ⟨zcd ⟨by have := H0.out; have := Hn.out; omega, HP2.out⟩, Hb.out⟩
set_option maxRecDepth 100000 in
theorem zgp (w : World) {ok : TeV → World → Prop} (hte : ∀ p W, ok p W → Rests W (· < W.heap.size) (ok p)) (A : Option Addr) (c : Nat) (l : List (VeV)) (h : LsR 1 vecells (veF ok) A l w) (hl : l.length ≤ 9223372036854775807) (U V d : Nat) (hv : ∀ v ∈ l, v.ts.length ≤ 9223372036854775807) (nl : Nat) (hnl : nl = l.length) :
 Calls Tryz.prog 20 #[.slice A nl c, .int .i64 (U : Int), .int .i64 (V : Int), .int .i64 (d : Int)] w fun e w' => zcE (l.length ≤ U ∧ ∀ p ∈ l, (p.ts.length ≤ V ∧ ∀ t ∈ p.ts, shR d t.r)) e ∧ Below w.heap.size w w' := by
 have sl1 := h.sl
 rw [← hnl] at sl1
 have hsz2 := zb9
 have hadd := za3
 have hnb : nl ≤ 9223372036854775807 := by omega
 have Hn := zmZ hnl
 have Hv2 := zmZ hv
 clear hv
 have Ho := zmZ (h.old (zei hte))
 have Hb := zmZ (Below.refl w.heap.size w)
 clear h hnl hl
 go_enter Tryz.func20, Tryz.ntmps20
 go_upto_region 1 with fail
 by_cases q0 : U < nl
 ·go_wp2_with fail
  go_ret
  exact ⟨zai, Hb.out⟩
 ·have H0 := zmZ q0
  go_wp2_with fail
  clear q0
  go_loopw [9] (fun iv wr => ∃ i : Nat, iv = .int .i64 (i : Int) ∧ i ≤ nl ∧ Hid (∀ p ∈ l.take i, (p.ts.length ≤ V ∧ ∀ t ∈ p.ts, shR d t.r)) ∧ Hid (Below w.heap.size w wr)) (fun iv _ => nl - (intOf iv).toNat)
  case atStart => exact ⟨0, rfl, Nat.zero_le _, zmZ (by simp), Hb⟩
  case round =>
   clear Hb
   obtain ⟨i, rfl, hi, HP, Hb⟩ := hrel
   by_cases hlt : i < nl
   ·have hlt2 : i < l.length := by rw [← Hn.out]; exact hlt
    have HL := zmZ (Ho.out.below Hb.out).now
    have c0 := HL.out.vc i hlt2
    obtain ⟨v, hv⟩ : ∃ v, v = l[i] := ⟨_, rfl⟩
    rw [← hv] at c0
    have Hv := zmZ hv
    have Hm := zmZ (show v ∈ l by rw [hv]; exact List.getElem_mem hlt2)
    clear hv
    go_wp2_with fail
    refine (zgS _ hte v.A v.c v.ts (HL.out.ok v Hm.out) (Hv2.out v Hm.out) V d _ rfl).mono ?_
    rintro e w3 ⟨⟨B, rfl, hB⟩, hb⟩
    have HB := zmZ hB
    replace Hb := zmZ (Below.after Hb.out hb)
    clear hb hB c0
    cases B
    ·go_wp2_with fail
     go_ret
     exact ⟨zai, Hb.out⟩
    ·go_wp2_with fail
     go_roundw
     case rel => exact ⟨i + 1, by go_num, by omega, zmZ (zaB HP.out hlt2 (by rw [← Hv.out]; exact HB.out (by first | rfl | trivial))), Hb⟩
     case measure => (simp [intOf] <;> omega)
   ·obtain rfl : i = nl := by omega
    have HP2 := zmZ (show ∀ p ∈ l, (p.ts.length ≤ V ∧ ∀ t ∈ p.ts, shR d t.r) by have := HP.out; rw [Hn.out, List.take_length] at this; exact this)
    go_wp2_with fail
    go_ret
    exact ⟨zcd ⟨by have := H0.out; have := Hn.out; omega, HP2.out⟩, Hb.out⟩
structure SmL (U d : Nat) (l : LaV) : Prop where
 rows : l.rows.length ≤ U ∧ ∀ v ∈ l.rows, v.ts.length ≤ U ∧ ∀ t ∈ v.ts, shR d t.r
 bias : l.bias.length ≤ U ∧ ∀ p ∈ l.bias, shR d p.1
 kern : l.kern.length ≤ 4 * U ∧ ∀ p ∈ l.kern, shR d p.1
 grs : l.grs.length ≤ U
 dims : l.out ≤ U ∧ l.ch ≤ U ∧ l.high ≤ U ∧ l.wide ≤ U
 gr : ∀ g ∈ l.grs, g.l.length ≤ U
structure LaM (l : LaV) : Prop where
 rows : l.rows.length ≤ 9223372036854775807
 row : ∀ v ∈ l.rows, v.ts.length ≤ 9223372036854775807
 bias : l.bias.length ≤ 9223372036854775807
 kern : l.kern.length ≤ 9223372036854775807
 grs : l.grs.length ≤ 9223372036854775807
 gr : ∀ g ∈ l.grs, g.l.length ≤ 9223372036854775807
 gc : ∀ g ∈ l.grs, g.l.length ≤ g.c
set_option maxRecDepth 100000 in
theorem zd1 (w : World) (n : Nat) (f : NeV) (h : NeD n f w) (hm : ∀ l ∈ f.las, LaM l) (hml : f.las.length ≤ 9223372036854775807) (X U d : Nat) (hU : U ≤ 1000) (nl : Nat) (hnl : nl = f.las.length) : Calls Tryz.prog 6 #[.agg #[.int .i64 f.inputs, .slice f.A nl f.c], .int .i64 (X : Int), .int .i64 (U : Int), .int .i64 (d : Int)] w fun e w' => zcE (f.las.length ≤ X ∧ ∀ l ∈ f.las, SmL U d l) e ∧ Below w.heap.size w w' := by
 have sl1 := h.sl
 rw [← hnl] at sl1
 have hsz1 := zb5
 have hszg := zbt
 have hszi := zaF
 have hadd := za3
 have hnb : nl ≤ 9223372036854775807 := by omega
 have Hl := zmZ hnl
 have Hm := zmZ hm
 obtain ⟨W0, hW0⟩ : ∃ W0, W0 = (w.alloc (.cells #[.int .i64 f.inputs, .slice f.A nl f.c] 24)) := ⟨_, rfl⟩
 have HE := zmZ (Env.lay1 (Env.start (h.old)) hW0)
 subst hW0
 have c := Env.c1 HE.out
 clear h hnl hm
 go_enter Tryz.func6, Tryz.ntmps6
 go_upto_region 1 with fail
 by_cases q0 : X < nl
 ·go_wp2_with fail
  go_ret
  exact ⟨zai, HE.out.bel⟩
 ·have H0 := zmZ q0
  go_wp2_with fail
  clear q0 c
  go_loopw [9] (fun iv wr => ∃ i : Nat, iv = .int .i64 (i : Int) ∧ i ≤ nl ∧ Hid (∀ l ∈ f.las.take i, SmL U d l) ∧ Hid (Env w [⟨w.heap.size, 24, #[.int .i64 f.inputs, .slice f.A nl f.c]⟩] (NeD n f) (fun _ => True) wr)) (fun iv _ => nl - (intOf iv).toNat)
  case atStart => exact ⟨0, rfl, Nat.zero_le _, zmZ (by simp), HE⟩
  case round =>
   clear HE
   obtain ⟨i, rfl, hi, HP, HE⟩ := hrel
   have c := Env.c1 HE.out
   by_cases hlt : i < nl
   ·have hlt2 : i < f.las.length := by rw [← Hl.out]; exact hlt
    have cl := HE.out.o.lac i hlt2
    obtain ⟨l, hl⟩ : ∃ l, l = f.las[i] := ⟨_, rfl⟩
    rw [← hl] at cl
    have Hv := zmZ hl
    have Hmm := zmZ (show l ∈ f.las by rw [hl]; exact List.getElem_mem hlt2)
    clear hl
    have HLM := zmZ (Hm.out l Hmm.out)
    obtain ⟨nr, hnr⟩ : ∃ k, k = l.rows.length := ⟨_, rfl⟩
    obtain ⟨nb, hnbb⟩ : ∃ k, k = l.bias.length := ⟨_, rfl⟩
    obtain ⟨nk, hnk⟩ : ∃ k, k = l.kern.length := ⟨_, rfl⟩
    obtain ⟨ng, hng⟩ : ∃ k, k = l.grs.length := ⟨_, rfl⟩
    dsimp only [LC] at cl
    rw [← hnr, ← hnbb, ← hnk, ← hng] at cl
    have Hnr := zmZ hnr
    have Hnb := zmZ hnbb
    have Hnk := zmZ hnk
    have Hng := zmZ hng
    have slg := (HE.out.o.ok l Hmm.out).grs.sl
    rw [← hng] at slg
    have hngb : ng ≤ 9223372036854775807 := by rw [hng]; exact HLM.out.grs
    clear hnr hnbb hnk hng
    go_upto_region 7 with fail
    obtain ⟨W2, gl, hW2, hgl, HE2⟩ := Env.al HE.out 36 #[.int .u8 l.kind, .slice l.Ar nr l.cr, .slice l.Ab nb l.cb, .int .i64 l.ch, .int .i64 l.high, .int .i64 l.wide, .int .i64 l.out, .int .i64 l.kh, .int .i64 l.kw, .int .i64 l.st, .int .i64 l.pad, .slice l.Ak nk l.ck, .slice l.Ag ng l.cg]
    rw [hW2, hgl]
    clear hW2 hgl cl c
    have c := Env.c2 HE2.out
    go_wp2_with fail
    refine (zgp _ zb2 l.Ar l.cr l.rows (HE2.out.o.ok l Hmm.out).rows HLM.out.rows U U d HLM.out.row nr Hnr.out).mono ?_
    rintro e w3 ⟨⟨B, rfl, hB⟩, hb⟩
    have HB1 := zmZ hB
    replace HE2 := zmZ (Env.call HE2.out hb)
    replace c := Env.c2 HE2.out
    clear hb hB
    cases B
    ·go_wp2_with fail
     go_ret
     exact ⟨zai, HE2.out.bel⟩
    ·go_wp2_with fail
     refine (zcR _ zaq l.Ab l.cb l.bias (HE2.out.o.ok l Hmm.out).bias HLM.out.bias U d nb Hnb.out).mono ?_
     rintro e w3 ⟨⟨B, rfl, hB⟩, hb⟩
     have HB2 := zmZ hB
     replace HE2 := zmZ (Env.call HE2.out hb)
     replace c := Env.c2 HE2.out
     clear hb hB
     cases B
     ·go_wp2_with fail
      go_ret
      exact ⟨zai, HE2.out.bel⟩
     ·have hw4 : IntKind.i64.wrap (4 * (U : Int)) = ((4 * U : Nat) : Int) := by rw [IntKind.wrap_i64]; omega
      obtain ⟨U4, hU4⟩ : ∃ k, k = 4 * U := ⟨_, rfl⟩
      rw [← hU4] at hw4
      have HU4 := zmZ hU4
      clear hU4
      go_wp2_with fail
      refine (zcR _ zaq l.Ak l.ck l.kern (HE2.out.o.ok l Hmm.out).kern HLM.out.kern U4 d nk Hnk.out).mono ?_
      rintro e w3 ⟨⟨B, rfl, hB⟩, hb⟩
      have HB3 := zmZ hB
      replace HE2 := zmZ (Env.call HE2.out hb)
      replace c := Env.c2 HE2.out
      clear hb hB
      cases B
      ·go_wp2_with fail
       go_ret
       exact ⟨zai, HE2.out.bel⟩
      ·have hsk := trivial
       clear hsk
       by_cases q1 : U < ng
       ·go_wp2_with fail
        go_ret
        exact ⟨zai, HE2.out.bel⟩
       ·have hsk := trivial
        clear hsk
        by_cases q2 : l.out > (U : Int)
        ·go_wp2_with fail
         go_ret
         exact ⟨zai, HE2.out.bel⟩
        ·have hsk := trivial
         clear hsk
         by_cases q3 : l.ch > (U : Int)
         ·go_wp2_with fail
          go_ret
          exact ⟨zai, HE2.out.bel⟩
         ·have hsk := trivial
          clear hsk
          by_cases q4 : l.high > (U : Int)
          ·go_wp2_with fail
           go_ret
           exact ⟨zai, HE2.out.bel⟩
          ·have hsk := trivial
           clear hsk
           by_cases q5 : l.wide > (U : Int)
           ·go_wp2_with fail
            go_ret
            exact ⟨zai, HE2.out.bel⟩
           ·have hsk := trivial
            clear hsk
            have R0 := zmZ q1
            have R1 := zmZ (And.intro q2 (And.intro q3 (And.intro q4 q5)))
            go_wp2_with fail
            clear q1 q2 q3 q4 q5 c
            go_loopw [11] (fun iv wr => ∃ j : Nat, iv = .int .i64 (j : Int) ∧ j ≤ ng ∧ Hid (∀ g ∈ l.grs.take j, g.l.length ≤ U) ∧ Hid (Env w [⟨gl, 36, #[.int .u8 l.kind, .slice l.Ar nr l.cr, .slice l.Ab nb l.cb, .int .i64 l.ch, .int .i64 l.high, .int .i64 l.wide, .int .i64 l.out, .int .i64 l.kh, .int .i64 l.kw, .int .i64 l.st, .int .i64 l.pad, .slice l.Ak nk l.ck, .slice l.Ag ng l.cg]⟩, ⟨w.heap.size, 24, #[.int .i64 f.inputs, .slice f.A nl f.c]⟩] (NeD n f) (fun _ => True) wr)) (fun iv _ => ng - (intOf iv).toNat)
            case atStart => exact ⟨0, rfl, Nat.zero_le _, zmZ (by simp), HE2⟩
            case round =>
             clear HE HE2
             obtain ⟨j, rfl, hj, HG, HE⟩ := hrel
             have c := Env.c2 HE.out
             by_cases hlj : j < ng
             ·have hlj2 : j < l.grs.length := by rw [← Hng.out]; exact hlj
              have cg := (HE.out.o.ok l Hmm.out).grs.gc j hlj2
              obtain ⟨g, hg⟩ : ∃ g, g = l.grs[j] := ⟨_, rfl⟩
              rw [← hg] at cg
              have Hg := zmZ hg
              clear hg
              obtain ⟨k, hk⟩ : ∃ k, k = g.l.length := ⟨_, rfl⟩
              rw [← hk] at cg
              have Hk := zmZ hk
              clear hk
              by_cases q6 : U < k
              ·go_wp2_with fail
               go_ret
               exact ⟨zai, HE.out.bel⟩
              ·have H6 := zmZ q6
               go_wp2_with fail
               go_roundw
               case rel => exact ⟨j + 1, by go_num, by omega, zmZ (zaB HG.out hlj2 (by rw [← Hg.out, ← Hk.out]; have := H6.out; omega)), HE⟩
               case measure => (simp [intOf] <;> omega)
             ·obtain rfl : j = ng := by omega
              have HG2 := zmZ (show ∀ g ∈ l.grs, g.l.length ≤ U by have := HG.out; rw [Hng.out, List.take_length] at this; exact this)
              go_wp2_with fail
              go_roundw
              case rel => exact ⟨i + 1, by go_num, by omega, zmZ (zaB HP.out hlt2 (by rw [← Hv.out]; exact ⟨HB1.out (by first | rfl | trivial), HB2.out (by first | rfl | trivial), by have h9 := HB3.out (by first | rfl | trivial); rw [HU4.out] at h9; exact h9, by have := R0.out; have := Hng.out; omega, by have := R1.out; omega, HG2.out⟩)), zmZ HE.out.drop⟩
              case measure => (simp [intOf] <;> omega)
   ·obtain rfl : i = nl := by omega
    have HP2 := zmZ (show ∀ l ∈ f.las, SmL U d l by have := HP.out; rw [Hl.out, List.take_length] at this; exact this)
    go_wp2_with fail
    go_ret
    exact ⟨zcd ⟨by have := H0.out; have := Hl.out; omega, HP2.out⟩, HE.out.bel⟩

def wdN (q : Rat) : Wd := ⟨decide (q.num < 0), decide (dn q < 0), digs B64 q.num.natAbs, digs B64 (dn q).natAbs⟩
theorem zmM {q : Rat} {n : Nat} (hs : Sz q n) : (dn q).natAbs < B64 ^ n := by
 unfold dn
 split
 ·exact Nat.pow_pos za0
 ·rw [Int.natAbs_natCast]; exact hs.2
theorem RatN.w {r : RV} {q : Rat} {V : World} {n : Nat} (h : RatN r q V) (hs : Sz q n) (hn : n ≤ 1000000) : RawW r (wdN q) V :=
 ⟨⟨h.num.neg, h.num.k, h.num.rd, h.den.neg, h.den.k, h.den.rd⟩, Nat.le_trans (zbj hs.1) hn, Nat.le_trans (zbj (zmM hs)) hn⟩
theorem RatD.w {r : RV} {q : Rat} {V : World} {n : Nat} (h : RatD r q n V) (hn : n ≤ 1000000) : ∃ x : Wd, RawW r x V := by
 obtain ⟨x, d, ⟨⟨l, hk, hr, -, -⟩, -, hl⟩, ⟨⟨m, mk, mr, -, -⟩, -, ml⟩, -⟩ := h.ex
 exact ⟨⟨r.num.neg, r.den.neg, l, m⟩, ⟨rfl, hk, hr, rfl, mk, mr⟩, by dsimp only; omega, by dsimp only; omega⟩
theorem RatD.short {r : RV} {q : Rat} {V : World} {n d : Nat} (h : RatD r q n V) (hs : shR d r) : RatD r q d V := by
 obtain ⟨x, y, hx, hy, e⟩ := h.ex
 exact ⟨⟨x, y, ⟨hx.ex, hx.cap, hs.1⟩, ⟨hy.ex, hy.cap, hs.2⟩, e⟩⟩
theorem zba (V : World) : ∃ g : RV → Wd, ∀ r, (∃ x, RawW r x V) → RawW r (g r) V := by
 refine Classical.axiomOfChoice (r := fun r y => (∃ x, RawW r x V) → RawW r y V) fun r => ?_
 by_cases h : ∃ x, RawW r x V
 ·obtain ⟨x, hx⟩ := h
  exact ⟨x, fun _ => hx⟩
 ·exact ⟨⟨false, false, [], []⟩, fun h' => absurd h' h⟩
def laF (f : RV → Rat → Wd) (l : LaV) : LaW :=
 ⟨l.kind, l.Ar, l.cr, l.rows.map fun v => ⟨v.A, v.c, v.ts.map fun t => ⟨t.pl, t.r, f t.r t.q⟩⟩, l.Ab, l.cb, l.bias.map fun p => (p.1, f p.1 p.2), l.ch, l.high, l.wide, l.out, l.kh, l.kw, l.st, l.pad, l.Ak, l.ck, l.kern.map fun p => (p.1, f p.1 p.2), l.Ag, l.cg, l.grs⟩
theorem zi8 (f : RV → Rat → Wd) (l : LaV) : lacells (laF f l) = lacells l := by simp [lacells, laF]
theorem zge {f : RV → Rat → Wd} {okR : RV × Rat → World → Prop} {A : Option Addr} {ps : List (RV × Rat)} {V : World} (h : LsR 4 rtcells okR A ps V) (hp : ∀ p ∈ ps, okR p V → RawW p.1 (f p.1 p.2) V) : LsR 4 nwcells nwD A (ps.map fun p => (p.1, f p.1 p.2)) V := by
 refine ⟨?_, fun x hx => ?_⟩
 ·have e : (ps.map fun p => ((p.1, f p.1 p.2) : RV × Wd)).map nwcells = ps.map rtcells := by rw [List.map_map]; rfl
  rw [e]; exact h.el
 ·obtain ⟨p, hm, rfl⟩ := List.mem_map.1 hx
  exact hp p hm (h.ok p hm)
theorem zmt {f : RV → Rat → Wd} {okT : TeV → World → Prop} {A : Option Addr} {ts : List TeV} {V : World} (h : LsR 5 tecells okT A ts V) (hp : ∀ t ∈ ts, okT t V → RawW t.r (f t.r t.q) V) : LsR 5 twcells twD A (ts.map fun t => ⟨t.pl, t.r, f t.r t.q⟩) V := by
 refine ⟨?_, fun x hx => ?_⟩
 ·have e : (ts.map fun t => (⟨t.pl, t.r, f t.r t.q⟩ : TwV)).map twcells = ts.map tecells := by rw [List.map_map]; rfl
  rw [e]; exact h.el
 ·obtain ⟨p, hm, rfl⟩ := List.mem_map.1 hx
  exact hp p hm (h.ok p hm)
theorem zm7 {f : RV → Rat → Wd} {okT : TeV → World → Prop} {okR : RV × Rat → World → Prop} {l : LaV} {V : World} (h : LaF okT okR l V) (hT : ∀ v ∈ l.rows, ∀ t ∈ v.ts, okT t V → RawW t.r (f t.r t.q) V) (hB : ∀ p ∈ l.bias, okR p V → RawW p.1 (f p.1 p.2) V) (hK : ∀ p ∈ l.kern, okR p V → RawW p.1 (f p.1 p.2) V) : LwD (laF f l) V := by
 refine ⟨⟨?_, fun x hx => ?_⟩, zge h.bias hB, zge h.kern hK, h.grs⟩
 ·have e : (l.rows.map fun v => (⟨v.A, v.c, v.ts.map fun t => ⟨t.pl, t.r, f t.r t.q⟩⟩ : VwV)).map vwcells = l.rows.map vecells := by
   rw [List.map_map]
   exact List.map_congr_left fun v _ => by simp [vwcells, vecells]
  show El V 1 l.Ar _
  exact e ▸ h.rows.el
 ·obtain ⟨v, hm, rfl⟩ := List.mem_map.1 hx
  exact zmt (show LsR 5 tecells okT v.A v.ts V from h.rows.ok v hm) (hT v hm)
def neF (f : RV → Rat → Wd) (n : NeV) : NeW := ⟨n.inputs, n.A, n.c, n.las.map (laF f)⟩
theorem zjf {f : RV → Rat → Wd} {A : Option Addr} {ls : List LaV} {V : World} (h : El V 13 A (ls.map lacells)) (hl : ∀ l ∈ ls, LwD (laF f l) V) : LsR 13 lacells LwD A (ls.map (laF f)) V := by
 refine ⟨?_, fun x hx => ?_⟩
 ·have e : (ls.map (laF f)).map lacells = ls.map lacells := by
   rw [List.map_map]
   exact List.map_congr_left fun l _ => zi8 f l
  rw [e]; exact h
 ·obtain ⟨l, hm, rfl⟩ := List.mem_map.1 hx
  exact hl l hm
def LQ.w (q : LQ) : WQ := ⟨q.kind, q.rows.map (fun r => r.map fun p => (p.1, wdN p.2)), q.bias.map wdN, q.dims, q.kern.map wdN, q.grs⟩
def fN (_ : RV) (q : Rat) : Wd := wdN q
theorem zjT (l : LaV) : (laF fN l).wq = l.q.w := by
 unfold LaG.wq laF LaG.q LQ.w
 simp only [List.map_map]
 congr 1
 refine List.map_congr_left fun v _ => ?_
 show vwq _ = List.map _ (List.map plq v.ts)
 unfold vwq
 rw [List.map_map, List.map_map]
 rfl
structure LQ.Sz' (n : Nat) (q : LQ) : Prop where
 rows : ∀ r ∈ q.rows, ∀ p ∈ r, Sz p.2 n
 bias : ∀ x ∈ q.bias, Sz x n
 kern : ∀ x ∈ q.kern, Sz x n
theorem LaN.w {l : LaV} {V : World} {n : Nat} (h : LaN l V) (hs : l.q.Sz' n) (hn : n ≤ 1000000) : LwD (laF fN l) V :=
 zm7 h (fun v hv t ht ht' => RatN.w ht' (hs.rows (v.ts.map plq) (List.mem_map_of_mem (f := fun v : VeV => v.ts.map plq) hv) (plq t) (List.mem_map_of_mem (f := plq) ht)) hn)
  (fun p hp hp' => RatN.w hp' (hs.bias p.2 (List.mem_map_of_mem (f := Prod.snd) hp)) hn) (fun p hp hp' => RatN.w hp' (hs.kern p.2 (List.mem_map_of_mem (f := Prod.snd) hp)) hn)
theorem LaD.w {l : LaV} {V : World} {n : Nat} {g : RV → Wd} (hg : ∀ r, (∃ x, RawW r x V) → RawW r (g r) V) (h : LaD n l V) (hn : n ≤ 1000000) : LwD (laF (fun r _ => g r) l) V :=
 zm7 h (fun _ _ _ _ ht' => hg _ (RatD.w ht' hn)) (fun _ _ hp' => hg _ (RatD.w hp' hn)) (fun _ _ hp' => hg _ (RatD.w hp' hn))
theorem NeD.w {f : NeV} {V : World} {n : Nat} (h : NeD n f V) (hn : n ≤ 1000000) : ∃ g : RV → Wd, NwD (neF (fun r _ => g r) f) V := by
 obtain ⟨g, hg⟩ := zba V
 exact ⟨g, zjf h.el fun l hl => LaD.w hg (h.ok l hl) hn⟩
theorem LaD.sz {l : LaV} {V : World} {n : Nat} (h : LaD n l V) (h1 : 1 ≤ n) : l.q.Sz' n := by
 refine ⟨fun r hr p hp => ?_, fun x hx => ?_, fun x hx => ?_⟩
 ·obtain ⟨v, hv, rfl⟩ := List.mem_map.1 hr
  obtain ⟨t, ht, rfl⟩ := List.mem_map.1 hp
  exact RatD.sz (show RatD t.r t.q n V from (show LsR 5 tecells (teD n) v.A v.ts V from h.rows.ok v hv).ok t ht) h1
 ·obtain ⟨p, hp, rfl⟩ := List.mem_map.1 hx
  exact RatD.sz (show RatD p.1 p.2 n V from h.bias.ok p hp) h1
 ·obtain ⟨p, hp, rfl⟩ := List.mem_map.1 hx
  exact RatD.sz (show RatD p.1 p.2 n V from h.kern.ok p hp) h1
theorem zjd {l : LaV} {n : Nat} (h : l.q.Sz' n) (h1 : 1 ≤ n) : (zbY l).Sz' n := by
 refine ⟨fun r hr p hp => ?_, fun x hx => ?_, fun x hx => by cases hx⟩
 ·obtain ⟨k, -, rfl⟩ := List.mem_map.1 hr
  obtain ⟨i, -, -, e⟩ := zdC (List.mem_filter.1 hp).1
  rw [e]
  exact zed h1 h.kern _
 ·obtain ⟨k, -, rfl⟩ := List.mem_map.1 hx
  exact zed h1 h.bias _
theorem ziV {l : LaV} {n : Nat} (h : l.q.Sz' n) : (zcp l).Sz' n := by
 refine ⟨fun r hr p hp => ?_, h.bias, h.kern⟩
 obtain ⟨v, hv, rfl⟩ := List.mem_map.1 hr
 exact h.rows _ (List.mem_map_of_mem (f := fun v : VeV => v.ts.map plq) hv) p (List.mem_filter.1 hp).1
theorem zhd {l : LaV} {n : Nat} (h : l.q.Sz' n) (h1 : 1 ≤ n) : (lowQ l).Sz' n := by
 unfold lowQ
 split
 ·exact zjd h h1
 ·exact ziV h
theorem zio {w : World} : ∀ {ls : List LaV} {N : Int}, zc0 w ls N → ∀ l ∈ ls, ∃ m, Fits w l m
 | [], _, _, l, hl => by cases hl
 | x :: ls, N, h, l, hl => by
  rcases List.mem_cons.1 hl with rfl | hl
  ·exact ⟨N, h.1⟩
  ·exact zio h.2.2 l hl
theorem zjN {w : World} {l : LaV} {m : Int} (h : Fits w l m) : zlD l = lowQ l := by
 unfold zlD lowQ
 split
 ·rfl
 ·rename_i hk
  have hf : ∀ v ∈ l.rows, (v.ts.map plq).filter nzP = v.ts.map plq := fun v hv => by
   rcases h with ⟨-, h⟩ | ⟨h, -⟩ | ⟨-, -, h, -⟩ | ⟨-, h⟩
   ·rw [← zdL, List.filter_eq_self.2 (h.er v hv).nz]
   ·exact absurd h hk
   ·rw [h] at hv; cases hv
   ·rw [h.r.1] at hv; cases hv
  unfold LaG.q zcp
  rw [List.map_congr_left hf]
theorem SmL.t {U d : Nat} {l : LaV} (h : SmL U d l) (hU : U ≤ 100) : LaT l :=
 { rows := by have := h.rows.1; omega, row := fun v hv => by have := (h.rows.2 v hv).1; omega, bias := by have := h.bias.1; omega, kern := by have := h.kern.1; omega, grs := by have := h.grs; omega, gr := fun g hg => by have := h.gr g hg; omega, row1 := fun v hv => by have := (h.rows.2 v hv).1; omega }
theorem SmL.d {U d n : Nat} {l : LaV} {V : World} (h : SmL U d l) (hl : LaD n l V) : LaD d l V :=
 ⟨hl.rows.imp fun v hv hv' => LsR.imp hv' fun t ht ht' => RatD.short (n := n) ht' ((h.rows.2 v hv).2 t ht), hl.bias.imp fun p hp hp' => RatD.short (n := n) hp' (h.bias.2 p hp), hl.kern.imp fun p hp hp' => RatD.short (n := n) hp' (h.kern.2 p hp), hl.grs⟩
theorem SmL.lw2 {U d : Nat} {l : LaV} (h : SmL U d l) (hU : U ≤ 1000) (f : RV → Rat → Wd) : LwS2 (laF f l) := by
 refine ⟨?_, fun v hv => ?_, ?_, ?_, ?_, fun g hg => ?_⟩
 ·show (l.rows.map _).length ≤ _
  rw [List.length_map]; have := h.rows.1; omega
 ·obtain ⟨v, hm, rfl⟩ := List.mem_map.1 (show _ ∈ l.rows.map _ from hv)
  rw [List.length_map]; have := (h.rows.2 v hm).1; omega
 ·show (l.bias.map _).length ≤ _
  rw [List.length_map]; have := h.bias.1; omega
 ·show (l.kern.map _).length ≤ _
  rw [List.length_map]; have := h.kern.1; omega
 ·have := h.grs; show l.grs.length ≤ _; omega
 ·have := h.gr g hg; omega
theorem LwS2.s {l : LaW} (h : LwS2 l) : LwS l := ⟨by have := h.rows; omega, fun v hv => by have := h.row v hv; omega, by have := h.bias; omega, by have := h.kern; omega, by have := h.grs; omega, fun g hg => by have := h.gr g hg; omega⟩
theorem LwS.of {l m : LaW} (h : LwS l) (e : l.wq = m.wq) : LwS m := by
 unfold LaG.wq at e
 injection e with e1 e2 e3 e4 e5 e6
 have a2 := congrArg List.length e2
 have a3 := congrArg List.length e3
 have a5 := congrArg List.length e5
 have a6 := congrArg List.length e6
 simp only [List.length_map] at a2 a3 a5 a6
 refine ⟨by have := h.rows; omega, fun v hv => ?_, by have := h.bias; omega, by have := h.kern; omega, by have := h.grs; omega, fun g hg => ?_⟩
 ·have hm : vwq v ∈ l.rows.map vwq := by rw [e2]; exact List.mem_map_of_mem (f := vwq) hv
  obtain ⟨u, hu, e⟩ := List.mem_map.1 hm
  have := congrArg List.length e
  unfold vwq at this
  simp only [List.length_map] at this
  have := h.row u hu
  omega
 ·have hm : g.l ∈ l.grs.map GrV.l := by rw [e6]; exact List.mem_map_of_mem (f := GrV.l) hg
  obtain ⟨u, hu, e⟩ := List.mem_map.1 hm
  have := h.gr u hu
  rw [← e]
  exact this
theorem zeP (pl : Nat → Option Int) (K : Nat → Rat) (n : Nat) : (zcP pl K n).length ≤ n := by
 have h := List.length_filterMap_le (fun k => (pl k).map fun a => (a, K k)) (List.range n)
 rwa [List.length_range] at h
structure LQ.Ln (q : LQ) : Prop where
 rows : q.rows.length ≤ 100000
 row : ∀ r ∈ q.rows, r.length ≤ 1000
 bias : q.bias.length ≤ 100000
 kern : q.kern.length ≤ 100000
 grs : q.grs.length ≤ 100000
 gr : ∀ g ∈ q.grs, g.length ≤ 1000
theorem LaS.ln {l : LaV} (h : LaS l) : l.q.Ln := by
 refine ⟨?_, fun r hr => ?_, ?_, ?_, ?_, fun g hg => ?_⟩
 ·show (l.rows.map _).length ≤ _
  rw [List.length_map]; exact h.rows
 ·obtain ⟨v, hv, rfl⟩ := List.mem_map.1 hr
  rw [List.length_map]; exact h.row v hv
 ·show (l.bias.map _).length ≤ _
  rw [List.length_map]; exact h.bias
 ·show (l.kern.map _).length ≤ _
  rw [List.length_map]; exact h.kern
 ·show (l.grs.map _).length ≤ _
  rw [List.length_map]; exact h.grs
 ·obtain ⟨v, hv, rfl⟩ := List.mem_map.1 hg
  exact h.gr v hv
theorem LQ.Ln.w {l : LaV} (h : l.q.Ln) (f : RV → Rat → Wd) : LwS (laF f l) := by
 refine ⟨?_, fun v hv => ?_, ?_, ?_, ?_, fun g hg => ?_⟩
 ·have h1 := h.rows
  show (l.rows.map _).length ≤ _
  rw [show l.q.rows.length = l.rows.length from List.length_map _] at h1
  rw [List.length_map]; omega
 ·obtain ⟨v, hm, rfl⟩ := List.mem_map.1 (show _ ∈ l.rows.map _ from hv)
  have h1 := h.row (v.ts.map plq) (List.mem_map_of_mem (f := fun v : VeV => v.ts.map plq) hm)
  rw [List.length_map] at h1 ⊢; omega
 ·have h1 := h.bias
  show (l.bias.map _).length ≤ _
  rw [show l.q.bias.length = l.bias.length from List.length_map _] at h1
  rw [List.length_map]; omega
 ·have h1 := h.kern
  show (l.kern.map _).length ≤ _
  rw [show l.q.kern.length = l.kern.length from List.length_map _] at h1
  rw [List.length_map]; omega
 ·have h1 := h.grs
  rw [show l.q.grs.length = l.grs.length from List.length_map _] at h1
  show l.grs.length ≤ _; omega
 ·have h1 := h.gr g.l (List.mem_map_of_mem (f := GrV.l) hg)
  omega
theorem zja {l : LaV} (h : ConvS l) : (zbY l).Ln := by
 have hs := h.s.nn
 obtain ⟨C, hC⟩ := zal (z := l.ch) (by omega)
 obtain ⟨O, hO⟩ := zal (z := l.out) (by omega)
 obtain ⟨KH, hKH⟩ := zal (z := l.kh) (by omega)
 obtain ⟨KW, hKW⟩ := zal (z := l.kw) (by omega)
 have hh := h.h
 have hp := h.pad
 have hz := h.s
 unfold sidesP side at hz
 obtain ⟨H, hH⟩ := zal (z := l.high) (by omega)
 obtain ⟨W, hW⟩ := zal (z := l.wide) (by omega)
 obtain ⟨ST, hST⟩ := zal (z := l.st) (by omega)
 obtain ⟨PD, hPD⟩ := zal (z := l.pad) (by omega)
 have hu := h.u
 have hk := h.k
 have he := h.e
 unfold zbA zbx at hu
 have hE : C * KH * KW ≤ 1000 := by
  have h9 : (l.kern.length : Int) = ((O * (C * KH * KW) : Nat) : Int) := by rw [hk, hO, hC, hKH, hKW]; simp only [Int.natCast_mul]
  have h8 : 1 * (C * KH * KW) ≤ O * (C * KH * KW) := Nat.mul_le_mul_right _ (by omega)
  omega
 rw [hH, hPD, hKH] at hh
 have hR : ((nRows l : Nat) : Int) = (l.high + 2 * l.pad - l.kh) / l.st + 1 := by
  have h8 : ((H + 2 * PD - KH : Nat) : Int) = (H : Int) + 2 * (PD : Int) - (KH : Int) := by omega
  unfold nRows
  rw [hH, hPD, hKH, hST]
  simp only [Int.toNat_natCast]
  rw [Int.natCast_add, Int.natCast_ediv, h8]; rfl
 have hQ : ((nCols l : Nat) : Int) = (l.wide + 2 * l.pad - l.kw) / l.st + 1 := by
  have h8 : ((W + 2 * PD - KW : Nat) : Int) = (W : Int) + 2 * (PD : Int) - (KW : Int) := by have := h.h.2; omega
  unfold nCols
  rw [hW, hPD, hKW, hST]
  simp only [Int.toNat_natCast]
  rw [Int.natCast_add, Int.natCast_ediv, h8]; rfl
 have hun : O * nRows l * nCols l ≤ 256 := by
  have h9 : ((O * nRows l * nCols l : Nat) : Int) ≤ 256 := by rw [Int.natCast_mul, Int.natCast_mul, hR, hQ, ← hO]; exact hu
  omega
 have hun' : l.out.toNat * nRows l * nCols l ≤ 256 := by rw [hO, Int.toNat_natCast]; exact hun
 have hE' : l.ch.toNat * l.kh.toNat * l.kw.toNat ≤ 1000 := by rw [hC, hKH, hKW]; simp only [Int.toNat_natCast]; exact hE
 refine ⟨?_, fun r hr => ?_, ?_, Nat.zero_le _, Nat.zero_le _, fun g hg => by cases hg⟩
 ·show ((List.range (l.out.toNat * nRows l * nCols l)).map _).length ≤ _
  rw [List.length_map, List.length_range]; omega
 ·obtain ⟨k, -, rfl⟩ := List.mem_map.1 (show r ∈ (List.range (l.out.toNat * nRows l * nCols l)).map _ from hr)
  exact Nat.le_trans (List.length_filter_le _ _) (Nat.le_trans (zeP _ _ _) hE')
 ·show ((List.range (l.out.toNat * nRows l * nCols l)).map _).length ≤ _
  rw [List.length_map, List.length_range]; omega
theorem zjk {l : LaV} (h : l.q.Ln) : (zcp l).Ln := by
 refine ⟨?_, fun r hr => ?_, h.bias, h.kern, h.grs, h.gr⟩
 ·have h1 := h.rows
  rw [show l.q.rows.length = l.rows.length from List.length_map _] at h1
  show (l.rows.map _).length ≤ _
  rw [List.length_map]; exact h1
 ·obtain ⟨v, hv, rfl⟩ := List.mem_map.1 hr
  exact Nat.le_trans (List.length_filter_le _ _) (h.row (v.ts.map plq) (List.mem_map_of_mem (f := fun v : VeV => v.ts.map plq) hv))
theorem zhM {l : LaV} (h : LowOk l) : (lowQ l).Ln := by
 unfold lowQ
 split
 ·rename_i hk; exact zja (h.c hk)
 ·exact zjk h.s.ln
end Go.Proofs.YtikmgoefjbhcjaaGreatDoor
