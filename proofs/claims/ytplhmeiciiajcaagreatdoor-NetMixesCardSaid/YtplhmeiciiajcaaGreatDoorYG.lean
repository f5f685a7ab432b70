/-
 net.says. net.Trace.
-/
import Derived.Test.YtplhmeiciiajcaaGreatDoorYE
import Derived.Test.YtplhmeiciiajcaaGreatDoorMI
namespace Go.Proofs.YtplhmeiciiajcaaGreatDoor
set_option maxHeartbeats 16000000
open Go.RowKit

def vecR (xs : List Rat) : List (Int × Rat) := ((List.range xs.length).map fun k : Nat => ((k : Int), xQ xs (k : Int))).filter nzP
theorem vecQ_R (xs : List (RV × Rat)) : vecQ xs = vecR (xs.map Prod.snd) := by
 unfold vecQ vecR ofT
 refine congrArg _ (List.ext_getElem (by simp) fun i h1 h2 => ?_)
 have hi : i < xs.length := by simpa using h1
 rw [List.getElem_map, List.getElem_map, List.getElem_map, List.getElem_range, xQ_at hi]
 simp [plq]
def affR (q : LQ) (xs : List Rat) (i : Nat) : Rat := dotQ ((q.rows[i]?).getD []) (vecR xs) + (q.bias[i]?).getD 0
def dN (q : LQ) (i : Nat) : Nat := ((q.dims[i]?).getD 0).toNat
def qR (q : LQ) : Nat := (dN q 1 + 2 * dN q 7 - dN q 4) / dN q 6 + 1
def qC (q : LQ) : Nat := (dN q 2 + 2 * dN q 7 - dN q 5) / dN q 6 + 1
def convK (q : LQ) (xs : List Rat) (k j : Nat) : Rat := convP (dN q 4) (dN q 5) (dN q 1) (dN q 2) (dN q 6) (dN q 7) (qR q) (qC q) (dN q 0 * dN q 4 * dN q 5) q.kern q.bias xs k j
def convR (q : LQ) (xs : List Rat) : List Rat := (List.range (dN q 3 * qR q * qC q)).map fun k => convK q xs k (dN q 0 * dN q 4 * dN q 5)
def poolR (q : LQ) (xs : List Rat) (i : Nat) : Rat := poolK xs ((q.grs[i]?).getD []) (((q.grs[i]?).getD []).length - 1)
def saysR (q : LQ) (xs : List Rat) : List Rat :=
 if q.kind = 1 then (List.range q.rows.length).map (affR q xs)
 else if q.kind = 2 then convR q xs
 else if q.kind = 4 then (List.range q.grs.length).map (poolR q xs)
 else (List.range xs.length).map fun j => maxQ ((xs[j]?).getD 0) 0
structure StOk (N : Nat) (l : LaV) (xs : List Rat) : Prop where
 x : xs.length ≤ 1000
 z : ∀ q ∈ xs, Sz q N
 a : l.kind = 1 → l.rows.length = l.bias.length ∧ l.rows.length ≤ 100000 ∧ (∀ v ∈ l.rows, Rise v.ts ∧ v.ts.length ≤ 100) ∧ ∀ r ∈ l.q.rows, Sz (dotQ r (vecR xs)) N
 c : l.kind = 2 → ConvS l ∧ (xs.length : Int) = l.ch * l.high * l.wide ∧ (∀ k j, Sz (convK l.q xs k j) N) ∧ ∀ (i : Nat) (a : Int), Sz ((l.q.kern[i]?).getD 0 * xQ xs a) N
 p : l.kind = 4 → l.grs.length ≤ 100000 ∧ ∀ g ∈ l.grs, (g.l ≠ [] ∧ ∀ z ∈ g.l, 0 ≤ z ∧ z < (xs.length : Int)) ∧ g.l.length ≤ g.c ∧ g.l.length ≤ 100000
theorem affP_R (l : LaV) (xs : List (RV × Rat)) : affP l.rows l.bias xs = affR l.q (xs.map Prod.snd) := by
 funext i
 unfold affP affR
 rw [vecQ_R]
 show _ = dotQ (((l.rows.map fun v => v.ts.map plq)[i]?).getD []) _ + ((l.bias.map Prod.snd)[i]?).getD 0
 rw [List.getElem?_map, List.getElem?_map]
theorem poolP_R (l : LaV) (xs : List Rat) : poolP l.grs xs = poolR l.q xs := by
 funext i
 unfold poolP poolR
 show _ = poolK xs (((l.grs.map GrV.l)[i]?).getD []) ((((l.grs.map GrV.l)[i]?).getD []).length - 1)
 rw [List.getElem?_map]
theorem convK_l (l : LaV) (xs : List Rat) (k j : Nat) : convK l.q xs k j = convP l.kh.toNat l.kw.toNat l.high.toNat l.wide.toNat l.st.toNat l.pad.toNat ((l.high.toNat + 2 * l.pad.toNat - l.kh.toNat) / l.st.toNat + 1) ((l.wide.toNat + 2 * l.pad.toNat - l.kw.toNat) / l.st.toNat + 1) (l.ch.toNat * l.kh.toNat * l.kw.toNat) (l.kern.map Prod.snd) (l.bias.map Prod.snd) xs k j := rfl
theorem convR_l (l : LaV) (xs : List Rat) : convR l.q xs = (List.range (l.out.toNat * ((l.high.toNat + 2 * l.pad.toNat - l.kh.toNat) / l.st.toNat + 1) * ((l.wide.toNat + 2 * l.pad.toNat - l.kw.toNat) / l.st.toNat + 1))).map fun k => convK l.q xs k (l.ch.toNat * l.kh.toNat * l.kw.toNat) := rfl
theorem nconv_r (w : World) (n N : Nat) (hnN : n ≤ N) (hN : N ≤ 100000) (h1n : 1 ≤ n) (l : LaV) (h : LaD n l w) (hT : Tz w) (nr nb nk ng : Nat) (HL : Hid (Lens l nr nb nk ng)) (Ax : Option Addr) (cx : Nat) (xs : List (RV × Rat)) (nx : Nat) (hx : LsR 4 rtcells (roD N) Ax xs w) (hnx : nx = xs.length) (hc : ConvS l) (hxl : (xs.length : Int) = l.ch * l.high * l.wide) (hs1 : ∀ k j, Sz (convK l.q (xs.map Prod.snd) k j) N) (hs2 : ∀ (i : Nat) (a : Int), Sz ((l.q.kern[i]?).getD 0 * xQ (xs.map Prod.snd) a) N) : Calls Tryz.prog 79 #[.agg #[.int .u8 l.kind, .slice l.Ar nr l.cr, .slice l.Ab nb l.cb, .int .i64 l.ch, .int .i64 l.high, .int .i64 l.wide, .int .i64 l.out, .int .i64 l.kh, .int .i64 l.kw, .int .i64 l.st, .int .i64 l.pad, .slice l.Ak nk l.ck, .slice l.Ag ng l.cg, .slice Ax nx cx]] w (CpRes 4 (rtcells : RV × Rat → Array Value) roN Prod.snd (convR l.q (xs.map Prod.snd)) w) := by
 have hn9 := hc.s.nn
 have hp9 := hc.pad
 have hh9 := hc.h
 obtain ⟨C, hC⟩ := nat_of (z := l.ch) (by omega)
 obtain ⟨H, hH⟩ := nat_of (z := l.high) (by omega)
 obtain ⟨W, hW⟩ := nat_of (z := l.wide) (by omega)
 obtain ⟨O, hO⟩ := nat_of (z := l.out) (by omega)
 obtain ⟨KH, hKH⟩ := nat_of (z := l.kh) (by omega)
 obtain ⟨KW, hKW⟩ := nat_of (z := l.kw) (by omega)
 obtain ⟨ST, hST⟩ := nat_of (z := l.st) (by omega)
 obtain ⟨PD, hPD⟩ := nat_of (z := l.pad) (by omega)
 have hk9 := hc.k
 have hb9 := hc.b
 have hu9 := hc.u
 have he9 := hc.e
 unfold rowsQ colsQ at hu9
 rw [hC, hH, hW, hO, hKH, hKW, hST] at hn9
 rw [hPD, hKH, hKW] at hp9
 rw [hH, hW, hPD, hKH, hKW] at hh9
 rw [hO, hC, hKH, hKW] at hk9
 rw [hO] at hb9
 rw [hC, hH, hW] at hxl
 rw [hO, hH, hW, hPD, hKH, hKW, hST] at hu9
 have hkn : l.kern.length = O * (C * KH * KW) := by
  have h9 : (l.kern.length : Int) = ((O * (C * KH * KW) : Nat) : Int) := by rw [hk9]; simp only [Int.natCast_mul]
  omega
 have hxn : xs.length = C * H * W := by
  have h9 : (xs.length : Int) = ((C * H * W : Nat) : Int) := by rw [hxl]; simp only [Int.natCast_mul]
  omega
 have hEn : C * KH * KW ≤ 1000 := by
  have h8 : 1 * (C * KH * KW) ≤ O * (C * KH * KW) := Nat.mul_le_mul_right _ (by have := hc.s.2.2.2.1; unfold side at this; omega)
  omega
 have hR9 : (((H + 2 * PD - KH) / ST + 1 : Nat) : Int) = ((H : Int) + 2 * (PD : Int) - (KH : Int)) / (ST : Int) + 1 := by
  have h8 : ((H + 2 * PD - KH : Nat) : Int) = (H : Int) + 2 * (PD : Int) - (KH : Int) := by omega
  rw [Int.natCast_add, Int.natCast_ediv, h8]; rfl
 have hQ9 : (((W + 2 * PD - KW) / ST + 1 : Nat) : Int) = ((W : Int) + 2 * (PD : Int) - (KW : Int)) / (ST : Int) + 1 := by
  have h8 : ((W + 2 * PD - KW : Nat) : Int) = (W : Int) + 2 * (PD : Int) - (KW : Int) := by omega
  rw [Int.natCast_add, Int.natCast_ediv, h8]; rfl
 have hun : O * ((H + 2 * PD - KH) / ST + 1) * ((W + 2 * PD - KW) / ST + 1) ≤ 256 := by
  have h9 : ((O * ((H + 2 * PD - KH) / ST + 1) * ((W + 2 * PD - KW) / ST + 1) : Nat) : Int) ≤ 256 := by
   rw [Int.natCast_mul, Int.natCast_mul, hR9, hQ9]; exact hu9
  omega
 have hs1' : ∀ k j, Sz (convP KH KW H W ST PD ((H + 2 * PD - KH) / ST + 1) ((W + 2 * PD - KW) / ST + 1) (C * KH * KW) (l.kern.map Prod.snd) (l.bias.map Prod.snd) (xs.map Prod.snd) k j) N := by
  intro k j
  have h9 := hs1 k j
  rw [convK_l, hC, hH, hW, hKH, hKW, hST, hPD] at h9
  simpa only [Int.toNat_natCast] using h9
 have key := nconv_any w n N hnN (by omega) h1n l h hT nr nb nk ng HL.out.k HL.out.b C H W O KH KW ST PD ((H + 2 * PD - KH) / ST + 1) ((W + 2 * PD - KW) / ST + 1) (by omega) (by omega) (by omega) (by omega) rfl rfl (by rw [HL.out.k, hkn]) (by rw [HL.out.b]; omega) hEn (by omega) Ax cx xs nx hx hnx (by rw [hnx, hxn]) hs1' hs2
 rw [convR_l]
 simp only [convK_l]
 rw [hC, hH, hW, hO, hKH, hKW, hST, hPD]
 simp only [Int.toNat_natCast]
 exact key
theorem CpRes.ks {β κ : Type} {k : Nat} {cells : β → Array Value} {ok : β → World → Prop} {g : β → κ} {ks ks' : List κ} {w w' : World} {e : Ending} (h : CpRes k cells ok g ks w e w') (hk : ks' = ks) : CpRes k cells ok g ks' w e w' := by rw [hk]; exact h
set_option maxRecDepth 100000 in
theorem says_1 (w : World) (n N : Nat) (hnN : n ≤ N) (hN : N ≤ 100000) (h1n : 1 ≤ n) (l : LaV) (h : LaD n l w) (hT : Tz w) (nr nb nk ng : Nat) (HL : Hid (Lens l nr nb nk ng)) (Ax : Option Addr) (cx : Nat) (xs : List (RV × Rat)) (nx : Nat) (hx : LsR 4 rtcells (roD N) Ax xs w) (hnx : nx = xs.length) (hs : StOk N l (xs.map Prod.snd)) (hk : l.kind = 1) : Calls Tryz.prog 44 #[lA l nr nb nk ng, .slice Ax nx cx] w (CpRes 4 (rtcells : RV × Rat → Array Value) roN Prod.snd (saysR l.q (xs.map Prod.snd)) w) := by
 have Hs := Lib.hid hs
 have Hn := Lib.hid hnx
 have Hk := Lib.hid hk
 have e1 : (l.kind == 1) = true := by simp [hk]
 have e2 : (l.kind == 2) = false := by simp [hk]
 have e4 : (l.kind == 4) = false := by simp [hk]
 obtain ⟨W0, hW0⟩ : ∃ W0, W0 = ((w.alloc (.cells #[.int .u8 l.kind, .slice l.Ar nr l.cr, .slice l.Ab nb l.cb, .int .i64 l.ch, .int .i64 l.high, .int .i64 l.wide, .int .i64 l.out, .int .i64 l.kh, .int .i64 l.kw, .int .i64 l.st, .int .i64 l.pad, .slice l.Ak nk l.ck, .slice l.Ag ng l.cg] 42)).alloc (.cells #[.int .u8 l.kind, .slice l.Ar nr l.cr, .slice l.Ab nb l.cb, .int .i64 l.ch, .int .i64 l.high, .int .i64 l.wide, .int .i64 l.out, .int .i64 l.kh, .int .i64 l.kw, .int .i64 l.st, .int .i64 l.pad, .slice l.Ak nk l.ck, .slice l.Ag ng l.cg, .slice Ax nx cx] 104)) := ⟨_, rfl⟩
 have HE := Lib.hid (Env.lay2 (Env.start (((LaD.old l w h)).and (((hx.old roD_old)).and (hT.old)))) hW0)
 subst hW0
 have c := Env.c2 HE.out
 have dd := Env.d2 HE.out
 clear h hx hT hs hnx hk
 unfold lA
 go_enter Tryz.func44, Tryz.ntmps44
 go_wp2_with fail
 refine (naff_any _ n N hnN hN (by omega) l HE.out.o.1 nr nb nk ng HL.out.r HL.out.b (by rw [HL.out.r, HL.out.b]; exact (Hs.out.a Hk.out).1) (by rw [HL.out.r]; exact (Hs.out.a Hk.out).2.1) (Hs.out.a Hk.out).2.2.1 Ax cx xs HE.out.o.2.1 nx Hn.out (by have := Hs.out.x; rw [List.length_map] at this; exact this) (fun i hi => by rw [vecQ_R]; exact (Hs.out.a Hk.out).2.2.2 _ (List.mem_map_of_mem (List.getElem_mem hi))) HE.out.o.2.2).mono ?_
 intro e w1 hr
 have HR := Lib.hid (hr.up HE.out.bel)
 obtain ⟨A, c, os, rfl, -⟩ := hr
 go_wp2_with fail
 go_ret
 refine CpRes.ks HR.out ?_
 exact (by unfold saysR; rw [if_pos (show l.q.kind = 1 from Hk.out), ← affP_R]; show List.map _ (List.range ((l.rows.map fun v => v.ts.map plq).length)) = _; rw [List.length_map])
set_option maxRecDepth 100000 in
theorem says_2 (w : World) (n N : Nat) (hnN : n ≤ N) (hN : N ≤ 100000) (h1n : 1 ≤ n) (l : LaV) (h : LaD n l w) (hT : Tz w) (nr nb nk ng : Nat) (HL : Hid (Lens l nr nb nk ng)) (Ax : Option Addr) (cx : Nat) (xs : List (RV × Rat)) (nx : Nat) (hx : LsR 4 rtcells (roD N) Ax xs w) (hnx : nx = xs.length) (hs : StOk N l (xs.map Prod.snd)) (hk : l.kind = 2) : Calls Tryz.prog 44 #[lA l nr nb nk ng, .slice Ax nx cx] w (CpRes 4 (rtcells : RV × Rat → Array Value) roN Prod.snd (saysR l.q (xs.map Prod.snd)) w) := by
 have Hs := Lib.hid hs
 have Hn := Lib.hid hnx
 have Hk := Lib.hid hk
 have e1 : (l.kind == 1) = false := by simp [hk]
 have e2 : (l.kind == 2) = true := by simp [hk]
 have e4 : (l.kind == 4) = false := by simp [hk]
 obtain ⟨W0, hW0⟩ : ∃ W0, W0 = ((w.alloc (.cells #[.int .u8 l.kind, .slice l.Ar nr l.cr, .slice l.Ab nb l.cb, .int .i64 l.ch, .int .i64 l.high, .int .i64 l.wide, .int .i64 l.out, .int .i64 l.kh, .int .i64 l.kw, .int .i64 l.st, .int .i64 l.pad, .slice l.Ak nk l.ck, .slice l.Ag ng l.cg] 42)).alloc (.cells #[.int .u8 l.kind, .slice l.Ar nr l.cr, .slice l.Ab nb l.cb, .int .i64 l.ch, .int .i64 l.high, .int .i64 l.wide, .int .i64 l.out, .int .i64 l.kh, .int .i64 l.kw, .int .i64 l.st, .int .i64 l.pad, .slice l.Ak nk l.ck, .slice l.Ag ng l.cg, .slice Ax nx cx] 104)) := ⟨_, rfl⟩
 have HE := Lib.hid (Env.lay2 (Env.start (((LaD.old l w h)).and (((hx.old roD_old)).and (hT.old)))) hW0)
 subst hW0
 have c := Env.c2 HE.out
 have dd := Env.d2 HE.out
 clear h hx hT hs hnx hk
 unfold lA
 go_enter Tryz.func44, Tryz.ntmps44
 go_wp2_with fail
 refine (nconv_r _ n N hnN hN h1n l HE.out.o.1 HE.out.o.2.2 nr nb nk ng HL Ax cx xs nx HE.out.o.2.1 Hn.out (Hs.out.c Hk.out).1 (by have := (Hs.out.c Hk.out).2.1; rw [List.length_map] at this; exact this) (Hs.out.c Hk.out).2.2.1 (Hs.out.c Hk.out).2.2.2).mono ?_
 intro e w1 hr
 have HR := Lib.hid (hr.up HE.out.bel)
 obtain ⟨A, c, os, rfl, -⟩ := hr
 go_wp2_with fail
 go_ret
 refine CpRes.ks HR.out ?_
 exact (by unfold saysR; rw [if_neg (show ¬ l.q.kind = 1 from by rw [show l.q.kind = 2 from Hk.out]; decide), if_pos (show l.q.kind = 2 from Hk.out)])
set_option maxRecDepth 100000 in
theorem says_4 (w : World) (n N : Nat) (hnN : n ≤ N) (hN : N ≤ 100000) (h1n : 1 ≤ n) (l : LaV) (h : LaD n l w) (hT : Tz w) (nr nb nk ng : Nat) (HL : Hid (Lens l nr nb nk ng)) (Ax : Option Addr) (cx : Nat) (xs : List (RV × Rat)) (nx : Nat) (hx : LsR 4 rtcells (roD N) Ax xs w) (hnx : nx = xs.length) (hs : StOk N l (xs.map Prod.snd)) (hk : l.kind = 4) : Calls Tryz.prog 44 #[lA l nr nb nk ng, .slice Ax nx cx] w (CpRes 4 (rtcells : RV × Rat → Array Value) roN Prod.snd (saysR l.q (xs.map Prod.snd)) w) := by
 have Hs := Lib.hid hs
 have Hn := Lib.hid hnx
 have Hk := Lib.hid hk
 have e1 : (l.kind == 1) = false := by simp [hk]
 have e2 : (l.kind == 2) = false := by simp [hk]
 have e4 : (l.kind == 4) = true := by simp [hk]
 obtain ⟨W0, hW0⟩ : ∃ W0, W0 = ((w.alloc (.cells #[.int .u8 l.kind, .slice l.Ar nr l.cr, .slice l.Ab nb l.cb, .int .i64 l.ch, .int .i64 l.high, .int .i64 l.wide, .int .i64 l.out, .int .i64 l.kh, .int .i64 l.kw, .int .i64 l.st, .int .i64 l.pad, .slice l.Ak nk l.ck, .slice l.Ag ng l.cg] 42)).alloc (.cells #[.int .u8 l.kind, .slice l.Ar nr l.cr, .slice l.Ab nb l.cb, .int .i64 l.ch, .int .i64 l.high, .int .i64 l.wide, .int .i64 l.out, .int .i64 l.kh, .int .i64 l.kw, .int .i64 l.st, .int .i64 l.pad, .slice l.Ak nk l.ck, .slice l.Ag ng l.cg, .slice Ax nx cx] 104)) := ⟨_, rfl⟩
 have HE := Lib.hid (Env.lay2 (Env.start (((LaD.old l w h)).and (((hx.old roD_old)).and (hT.old)))) hW0)
 subst hW0
 have c := Env.c2 HE.out
 have dd := Env.d2 HE.out
 clear h hx hT hs hnx hk
 unfold lA
 go_enter Tryz.func44, Tryz.ntmps44
 go_wp2_with fail
 refine (npool_any _ n N (by omega) (by omega) l HE.out.o.1 nr nb nk ng HL.out.g (by rw [HL.out.g]; exact (Hs.out.p Hk.out).1) Ax cx xs HE.out.o.2.1 nx Hn.out (fun g hg => by have h9 := ((Hs.out.p Hk.out).2 g hg).1; rw [List.length_map, ← Hn.out] at h9; exact h9) (fun g hg => ((Hs.out.p Hk.out).2 g hg).2.1) (fun g hg => ((Hs.out.p Hk.out).2 g hg).2.2) HE.out.o.2.2).mono ?_
 intro e w1 hr
 have HR := Lib.hid (hr.up HE.out.bel)
 obtain ⟨A, c, os, rfl, -⟩ := hr
 go_wp2_with fail
 go_ret
 refine CpRes.ks HR.out ?_
 exact (by unfold saysR; rw [if_neg (show ¬ l.q.kind = 1 from by rw [show l.q.kind = 4 from Hk.out]; decide), if_neg (show ¬ l.q.kind = 2 from by rw [show l.q.kind = 4 from Hk.out]; decide), if_pos (show l.q.kind = 4 from Hk.out), ← poolP_R]; show List.map _ (List.range ((l.grs.map GrV.l).length)) = _; rw [List.length_map])
set_option maxRecDepth 100000 in
theorem says_0 (w : World) (n N : Nat) (hnN : n ≤ N) (hN : N ≤ 100000) (h1n : 1 ≤ n) (l : LaV) (h : LaD n l w) (hT : Tz w) (nr nb nk ng : Nat) (_HL : Hid (Lens l nr nb nk ng)) (Ax : Option Addr) (cx : Nat) (xs : List (RV × Rat)) (nx : Nat) (hx : LsR 4 rtcells (roD N) Ax xs w) (hnx : nx = xs.length) (hs : StOk N l (xs.map Prod.snd)) (hk : ¬ l.kind = 1 ∧ ¬ l.kind = 2 ∧ ¬ l.kind = 4) : Calls Tryz.prog 44 #[lA l nr nb nk ng, .slice Ax nx cx] w (CpRes 4 (rtcells : RV × Rat → Array Value) roN Prod.snd (saysR l.q (xs.map Prod.snd)) w) := by
 have Hs := Lib.hid hs
 have Hn := Lib.hid hnx
 have Hk := Lib.hid hk
 have e1 : (l.kind == 1) = false := by simp <;> omega
 have e2 : (l.kind == 2) = false := by simp <;> omega
 have e4 : (l.kind == 4) = false := by simp <;> omega
 obtain ⟨W0, hW0⟩ : ∃ W0, W0 = ((w.alloc (.cells #[.int .u8 l.kind, .slice l.Ar nr l.cr, .slice l.Ab nb l.cb, .int .i64 l.ch, .int .i64 l.high, .int .i64 l.wide, .int .i64 l.out, .int .i64 l.kh, .int .i64 l.kw, .int .i64 l.st, .int .i64 l.pad, .slice l.Ak nk l.ck, .slice l.Ag ng l.cg] 42)).alloc (.cells #[.int .u8 l.kind, .slice l.Ar nr l.cr, .slice l.Ab nb l.cb, .int .i64 l.ch, .int .i64 l.high, .int .i64 l.wide, .int .i64 l.out, .int .i64 l.kh, .int .i64 l.kw, .int .i64 l.st, .int .i64 l.pad, .slice l.Ak nk l.ck, .slice l.Ag ng l.cg, .slice Ax nx cx] 104)) := ⟨_, rfl⟩
 have HE := Lib.hid (Env.lay2 (Env.start (((LaD.old l w h)).and (((hx.old roD_old)).and (hT.old)))) hW0)
 subst hW0
 have c := Env.c2 HE.out
 have dd := Env.d2 HE.out
 clear h hx hT hs hnx hk
 unfold lA
 go_enter Tryz.func44, Tryz.ntmps44
 go_wp2_with fail
 refine (relu_any _ l nr nb nk ng N (by omega) (by omega) Ax cx xs HE.out.o.2.1 nx Hn.out (by rw [Hn.out]; have := Hs.out.x; rw [List.length_map] at this; omega) HE.out.o.2.2).mono ?_
 intro e w1 hr
 have HR := Lib.hid (hr.up HE.out.bel)
 obtain ⟨A, c, os, rfl, -⟩ := hr
 go_wp2_with fail
 go_ret
 refine CpRes.ks HR.out ?_
 exact (by unfold saysR; rw [if_neg (show ¬ l.q.kind = 1 from Hk.out.1), if_neg (show ¬ l.q.kind = 2 from Hk.out.2.1), if_neg (show ¬ l.q.kind = 4 from Hk.out.2.2), List.length_map])
theorem says_any (w : World) (n N : Nat) (hnN : n ≤ N) (hN : N ≤ 100000) (h1n : 1 ≤ n) (l : LaV) (h : LaD n l w) (hT : Tz w) (nr nb nk ng : Nat) (HL : Hid (Lens l nr nb nk ng)) (Ax : Option Addr) (cx : Nat) (xs : List (RV × Rat)) (nx : Nat) (hx : LsR 4 rtcells (roD N) Ax xs w) (hnx : nx = xs.length) (hs : StOk N l (xs.map Prod.snd)) : Calls Tryz.prog 44 #[lA l nr nb nk ng, .slice Ax nx cx] w (CpRes 4 (rtcells : RV × Rat → Array Value) roN Prod.snd (saysR l.q (xs.map Prod.snd)) w) := by
 by_cases h1 : l.kind = 1
 ·exact says_1 w n N hnN hN h1n l h hT nr nb nk ng HL Ax cx xs nx hx hnx hs h1
 by_cases h2 : l.kind = 2
 ·exact says_2 w n N hnN hN h1n l h hT nr nb nk ng HL Ax cx xs nx hx hnx hs h2
 by_cases h4 : l.kind = 4
 ·exact says_4 w n N hnN hN h1n l h hT nr nb nk ng HL Ax cx xs nx hx hnx hs h4
 exact says_0 w n N hnN hN h1n l h hT nr nb nk ng HL Ax cx xs nx hx hnx hs ⟨h1, h2, h4⟩

structure RsV where
 A : Option Addr
 c : Nat
 l : List (RV × Rat)
def rscells (v : RsV) : Array Value := #[.slice v.A v.l.length v.c]
def rsN (v : RsV) (W : World) : Prop := LsR 4 rtcells roN v.A v.l W
def RsV.q (v : RsV) : List Rat := v.l.map Prod.snd
theorem rscells_one (v : RsV) : ∀ u ∈ (rscells v).toList, u.oneCell' = true := by simp [rscells, Value.oneCell']
theorem size_rs9 (w : World) : (sizeOf (Tryz.prog.elem 47)).run Tryz.prog w = .ok 1 w := by kernel_rfl
theorem under_rs9 : Tryz.prog.underlying 47 = some (.slice 25) := by kernel_rfl
theorem info_rs9 : (Tryz.prog.info? 25).map (fun i => (i.zero, i.size, i.bytes)) = some (some (.slice none 0 0), 1, 24) := by kernel_rfl
def trAt (qs : List LQ) (xs : List Rat) : Nat → List Rat
 | 0 => xs
 | i + 1 => match qs[i]? with
  | some q => saysR q (trAt qs xs i)
  | none => trAt qs xs i
theorem trAt_next {qs : List LQ} {xs : List Rat} {i : Nat} (h : i < qs.length) : trAt qs xs (i + 1) = saysR qs[i] (trAt qs xs i) := by
 rw [trAt, List.getElem?_eq_getElem h]
def trQ (qs : List LQ) (xs : List Rat) : List (List Rat) := (List.range (qs.length + 1)).map (trAt qs xs)
structure TrI (qs : List LQ) (xs : List Rat) (i : Nat) (os : List RsV) (v : RsV) : Prop where
 q : os.map RsV.q = (List.range (i + 1)).map (trAt qs xs)
 m : v ∈ os
 v : v.q = trAt qs xs i
theorem TrI.len {qs : List LQ} {xs : List Rat} {i : Nat} {os : List RsV} {v : RsV} (h : TrI qs xs i os v) : os.length = i + 1 := by simpa using congrArg List.length h.q
theorem TrI.next {qs : List LQ} {xs : List Rat} {i : Nat} {os : List RsV} {v : RsV} (h : TrI qs xs i os v) (hi : i < qs.length) {y : RsV} (hy : y.q = saysR qs[i] (trAt qs xs i)) : TrI qs xs (i + 1) (os ++ [y]) y :=
 ⟨by rw [List.map_append, h.q, List.range_succ (n := i + 1), List.map_append, List.map_singleton, List.map_singleton, hy, trAt_next hi], List.mem_append.2 (.inr (List.mem_singleton.2 rfl)), by rw [hy, trAt_next hi]⟩
def TrRes (f : NeV) (xs : List Rat) (w : World) (e : Ending) (w' : World) : Prop :=
 (∃ err : Int, e = .returned (.tuple #[.slice none 0 0, .int .i64 err]) ∧ ((err ≠ 0 ∧ NetP w f err) ∨ (err = 22 ∧ NetP w f 0 ∧ f.inputs ≠ (xs.length : Int))) ∧ Below w.heap.size w w') ∨
 (NetP w f 0 ∧ f.inputs = (xs.length : Int) ∧ ∃ (A : Option Addr) (c : Nat) (os : List RsV), e = .returned (.tuple #[.slice A (List.length os) c, .int .i64 0]) ∧ os.map RsV.q = trQ (f.las.map LaG.q) xs ∧ Rests w' (w.heap.size ≤ ·) (LsR 1 rscells rsN A os) ∧ Below w.heap.size w w')
set_option maxRecDepth 100000 in
theorem trace_any (w : World) (n N : Nat) (hnN : n ≤ N) (hN : N ≤ 100000) (h1n : 1 ≤ n) (f : NeV) (h : NeD n f w) (hs : NeS f) (hT : Tz w) (nl : Nat) (hnl : nl = f.las.length) (Ax : Option Addr) (cx : Nat) (xs : List (RV × Rat)) (nx : Nat) (hx : LsR 4 rtcells (roD N) Ax xs w) (hnx : nx = xs.length) (hxb : nx ≤ 1000) (hst : NetP w f 0 → f.inputs = (xs.length : Int) → ∀ i (hi : i < f.las.length), StOk N f.las[i] (trAt (f.las.map LaG.q) (xs.map Prod.snd) i)) : Calls Tryz.prog 16 #[.agg #[.int .i64 f.inputs, .slice f.A nl f.c], .slice Ax nx cx] w (TrRes f (xs.map Prod.snd) w) := by
 have Hst := Lib.hid hst
 have Hs := Lib.hid hs
 have slx := hx.sl
 rw [← hnx] at slx
 have sll := h.sl
 rw [← hnl] at sll
 have szl := size_las
 have szr := size_rats
 have hadd := adr_add
 have Hn := Lib.hid hnx
 have Hl := Lib.hid hnl
 have hnb : nx ≤ 1000 := hxb
 have hlb : nl ≤ 100000 := by have := hs.n; omega
 have HXZ := Lib.hid (show ∀ p ∈ xs, Sz p.2 N from fun p hp => RatD.sz (show RatD p.1 p.2 N w from hx.ok p hp) (by omega))
 obtain ⟨W0, hW0⟩ : ∃ W0, W0 = (w.alloc (.cells #[.int .i64 f.inputs, .slice f.A nl f.c] 24)) := ⟨_, rfl⟩
 have HE := Lib.hid (Env.lay1 (Env.start ((h.old).and (((hx.old roD_old)).and ((hT.old).and ((NeD.iffR h)))))) hW0)
 subst hW0
 have c := Env.c1 HE.out
 clear h hx hT hs hst hnx hnl hxb
 go_enter Tryz.func16, Tryz.ntmps16
 go_wp2_with fail
 refine (check_any _ n (by omega) h1n f HE.out.o.1 Hs.out HE.out.o.2.2.1 nl Hl.out).mono ?_
 rintro e w1 ⟨⟨err, rfl, hN9⟩, hb9⟩
 have HN := Lib.hid ((HE.out.o.2.2.2 err).1 hN9)
 replace HE := Lib.hid (Env.call HE.out hb9)
 replace c := Env.c1 HE.out
 clear hN9 hb9
 by_cases h0 : err = 0
 ·subst h0
  by_cases hi0 : f.inputs = (nx : Int)
  ·have e0 : (((nx : Int) != f.inputs)) = false := by simp [hi0]
   have Hi := Lib.hid hi0
   clear hi0
   go_wp2_with fail
   have HG := Lib.hid (GL.start HE.out)
   clear HE
   rw [make_rats99 _ nx (by omega)]
   obtain ⟨W4, gx, hW4, hgx, HG2⟩ := HG.out.al4 nx (by omega)
   rw [hW4, hgx]
   clear hW4 hgx HG c
   obtain ⟨Ao, hAo⟩ : ∃ A : Option Addr, A = some ⟨gx, 0, none⟩ := ⟨_, rfl⟩
   rw [← hAo] at HG2 ⊢
   have HAo := Lib.hid hAo
   have slo : Sl Ao nx := by rw [hAo]; exact Sl.some_ _ _ _
   clear hAo
   have HG := Lib.hid (show GL w (⟨30, 4, .slice Ao nx nx, List.map rtcells (zerosX nx)⟩ :: []) (fun V => (∀ b ∈ [(⟨w.heap.size, 24, #[.int .i64 f.inputs, .slice f.A nl f.c]⟩ : Bo)], Blk V b.g b.t b.cs) ∧ NeD n f V ∧ LsR 4 rtcells (roD N) Ax xs V ∧ Tz V) (fun V => ∀ zp ∈ (zerosX nx), roN zp V) _ from HG2.out.imp (fun _ h => ⟨h.1, h.2.1, h.2.2.1, h.2.2.2.1⟩) (fun V _ => roN_zeros nx V))
   clear HG2 e0
   go_upto_region 8 with fail
   go_loopw [28] (fun iv wr => ∃ (i : Nat) (os : List (RV × Rat)), iv = .int .i64 (i : Int) ∧ i ≤ nx ∧ Hid (SetI (fun j => ((xs.map Prod.snd)[j]?).getD 0) nx i os) ∧ Hid (GL w (⟨30, 4, .slice Ao nx nx, List.map rtcells os⟩ :: []) (fun V => (∀ b ∈ [(⟨w.heap.size, 24, #[.int .i64 f.inputs, .slice f.A nl f.c]⟩ : Bo)], Blk V b.g b.t b.cs) ∧ NeD n f V ∧ LsR 4 rtcells (roD N) Ax xs V ∧ Tz V) (fun V => ∀ zp ∈ os, roN zp V) wr)) (fun iv _ => nx - (intOf iv).toNat)
   case atStart => exact ⟨0, zerosX nx, rfl, Nat.zero_le _, Lib.hid (SetI.start _ _), HG⟩
   case round =>
    clear HG
    obtain ⟨i, os, rfl, hi, HI, HG⟩ := hrel
    by_cases hlt : i < nx
    ·have hlx : i < xs.length := by rw [← Hn.out]; exact hlt
     have hlo : i < os.length := by rw [HI.out.n]; exact hlt
     have c0 := HG.out.o.2.2.1.rc i hlx
     have HF := Lib.hid (show (xs[i]).2 = (fun j => ((xs.map Prod.snd)[j]?).getD 0) i from by simp [hlx])
     have HD := Lib.hid (show ∀ V, LsR 4 rtcells (roD N) Ax xs V → RatD (xs[i]).1 (xs[i]).2 N V from fun V h => h.ok _ (List.getElem_mem hlx))
     obtain ⟨p, hp⟩ : ∃ p, p = xs[i] := ⟨_, rfl⟩
     rw [← hp] at c0 HF HD
     clear hp
     dsimp only [RC] at c0
     go_upto_region 10 with fail
     obtain ⟨W5, gp, hW5, hgp, HG2⟩ := HG.out.al 30 #[.bool p.1.num.neg, .slice p.1.num.A p.1.num.k p.1.num.c, .bool p.1.den.neg, .slice p.1.den.A p.1.den.k p.1.den.c]
     rw [hW5, hgp]
     clear hW5 hgp HG c0
     have HG := HG2
     clear HG2
     have c5 := Blk.cb HG.out.n.1
     go_wp2_with fail
     refine (rnorm_any _ p.1 p.2 N (by omega) (by omega) (HD.out _ HG.out.o.2.2.1) HG.out.o.2.2.2).mono ?_
     rintro e wq ⟨r, rfl, hk9, hb9⟩
     rw [HF.out] at hk9
     replace HG := Lib.hid (HG.out.call hk9 hb9)
     clear hk9 hb9 c5
     have fr := HG.out.free HAo.out (k := 0) rfl
     have rcx := HG.out.rc (k := 0) rfl hlo
     have hadd2 : ∀ (n j : Nat), (⟨(adr Ao n).block, (adr Ao n).off + j, none⟩ : Addr) = adr Ao (n + j) := fun n j => by unfold adr; simp [Nat.add_assoc]
     have hs01 := cell_ne9 Ao (show i * 4 ≠ i * 4 + 1 by omega)
     have hs02 := cell_ne9 Ao (show i * 4 ≠ i * 4 + 2 by omega)
     have hs03 := cell_ne9 Ao (show i * 4 ≠ i * 4 + 3 by omega)
     have hs12 := cell_ne9 Ao (show i * 4 + 1 ≠ i * 4 + 2 by omega)
     have hs13 := cell_ne9 Ao (show i * 4 + 1 ≠ i * 4 + 3 by omega)
     have hs23 := cell_ne9 Ao (show i * 4 + 2 ≠ i * 4 + 3 by omega)
     go_upto_region 11 with fail
     have HG5 := HG.out.putR HAo.out (k := 0) rfl hlo r ((fun j => ((xs.map Prod.snd)[j]?).getD 0) i)
     obtain ⟨W9, hW9⟩ : ∃ W', ((((World.setCell wq (adr Ao (i * 4)) (.bool r.num.neg)).setCell (adr Ao (i * 4 + 1)) (.slice r.num.A r.num.k r.num.c)).setCell (adr Ao (i * 4 + 2)) (.bool r.den.neg)).setCell (adr Ao (i * 4 + 3)) (.slice r.den.A r.den.k r.den.c)) = W' := ⟨_, rfl⟩
     rw [hW9] at HG5 ⊢
     replace HG := Lib.hid HG5
     clear HG5 hW9 rcx fr hadd2 hs01 hs02 hs03 hs12 hs13 hs23
     go_wp2_with fail
     go_roundw
     case rel => exact ⟨i + 1, os.set i (r, (fun j => ((xs.map Prod.snd)[j]?).getD 0) i), by go_num, by omega, Lib.hid (HI.out.next rfl), Lib.hid (HG.out.imp (fun _ h => h) (fun V h => all_set8 (P := fun p => roN p V) h.2.2 h.1))⟩
     case measure => (simp [intOf] <;> omega)
    ·obtain rfl : i = nx := by omega
     have hol := HI.out.n
     have HQ := Lib.hid (show os.map Prod.snd = xs.map Prod.snd from by
      rw [HI.out.done]
      refine List.ext_getElem (by simp [Hn.out]) fun j h1 h2 => ?_
      rw [List.getElem_map, List.getElem_range]
      simp at h2
      simp [h2])
     have HG2 := Lib.hid (HG.out.dropL)
     clear HG hlt
     go_upto_region 12 with fail
     obtain ⟨v0, hv0⟩ : ∃ v0 : RsV, v0 = ⟨Ao, i, os⟩ := ⟨_, rfl⟩
     go_upto_region 13 with fail
     obtain ⟨W6, g6, hW6, hg6, HG3⟩ := HG2.out.alb 25 (rscells v0)
     rw [hv0, show rscells (⟨Ao, i, os⟩ : RsV) = #[.slice Ao (List.length os) i] from rfl, hol] at hW6
     rw [hW6, hg6]
     clear hW6 hg6 HG2
     have HG := Lib.hid (show GL w (⟨25, 1, .slice (some ⟨g6, 0, none⟩) (List.length [v0]) 1, List.map rscells [v0]⟩ :: []) (fun V => (∀ b ∈ [(⟨w.heap.size, 24, #[.int .i64 f.inputs, .slice f.A nl f.c]⟩ : Bo)], Blk V b.g b.t b.cs) ∧ NeD n f V ∧ Tz V) (fun V => ∀ zy ∈ [v0], rsN zy V) W6 from HG3.out.imp (fun _ h => ⟨h.1, h.2.1, h.2.2.2⟩) (fun V h => fun zy hz => by rw [List.mem_singleton.1 hz, hv0]; exact ⟨h.1, h.2⟩))
     clear HG3
     have HT := Lib.hid (show TrI (f.las.map LaG.q) (xs.map Prod.snd) 0 [v0] v0 from ⟨by rw [hv0]; show [os.map Prod.snd] = [xs.map Prod.snd]; rw [HQ.out], List.mem_singleton_self _, by rw [hv0]; exact HQ.out⟩)
     have hv9 : Value.slice Ao (i : Nat) i = .slice v0.A v0.l.length v0.c := by rw [hv0]; show _ = Value.slice Ao os.length i; rw [hol]
     rw [hv9]
     clear hv9 hv0 hol HQ HI
     have c := Blk.cb (HG.out.o.1 _ (List.mem_singleton_self _))
     go_upto_region 14 with fail
     go_loopw [7, 10, 44] (fun av ov kv wr => ∃ (k : Nat) (A : Option Addr) (cA : Nat) (ys : List RsV) (v : RsV), av = .slice v.A v.l.length v.c ∧ ov = .slice A ys.length cA ∧ kv = .int .i64 (k : Int) ∧ k ≤ nl ∧ Hid (TrI (f.las.map LaG.q) (xs.map Prod.snd) k ys v) ∧ Hid (GL w (⟨25, 1, .slice A (List.length ys) cA, List.map rscells ys⟩ :: []) (fun V => (∀ b ∈ [(⟨w.heap.size, 24, #[.int .i64 f.inputs, .slice f.A nl f.c]⟩ : Bo)], Blk V b.g b.t b.cs) ∧ NeD n f V ∧ Tz V) (fun V => ∀ zy ∈ ys, rsN zy V) wr)) (fun _ _ kv _ => nl - (intOf kv).toNat)
     case atStart => exact ⟨0, some ⟨g6, 0, none⟩, 1, [v0], v0, rfl, rfl, rfl, Nat.zero_le _, HT, HG⟩
     case round =>
      clear HG HT c
      obtain ⟨k, A, cA, ys, v, rfl, rfl, rfl, hk, HT, HG⟩ := hrel
      by_cases hlk : k < nl
      ·have hlk2 : k < f.las.length := by rw [← Hl.out]; exact hlk
       have HE := Lib.hid HG.out.env
       have c0 := HE.out.o.1.2.1.lac k hlk2
       have hlk3 : k < (f.las.map LaG.q).length := by rw [List.length_map]; exact hlk2
       have HT2 := Lib.hid (fun (y : RsV) (hy : y.q = saysR (f.las[k]).q (trAt (f.las.map LaG.q) (xs.map Prod.snd) k)) => HT.out.next hlk3 (show y.q = saysR ((f.las.map LaG.q)[k]) _ from by rw [List.getElem_map]; exact hy))
       have HST := Lib.hid (Hst.out HN.out (by rw [Hi.out, Hn.out]) k hlk2)
       have hyl : ys.length ≤ 100001 := by rw [HT.out.len]; omega
       have HVQ := Lib.hid (show v.l.map Prod.snd = _ from HT.out.v)
       have Hv := Lib.hid HT.out.m
       obtain ⟨p, hp⟩ : ∃ p, p = f.las[k] := ⟨_, rfl⟩
       rw [← hp] at c0 HT2 HST
       have Hm := Lib.hid (show p ∈ f.las by rw [hp]; exact List.getElem_mem hlk2)
       clear hp hlk3
       rw [← HVQ.out] at HT2 HST
       clear HVQ
       go_upto_region 16 with fail
       obtain ⟨W2, gt, hW2, hgt, HE⟩ := Env.al HE.out 42 #[.int .u8 p.kind, .slice p.Ar p.rows.length p.cr, .slice p.Ab p.bias.length p.cb, .int .i64 p.ch, .int .i64 p.high, .int .i64 p.wide, .int .i64 p.out, .int .i64 p.kh, .int .i64 p.kw, .int .i64 p.st, .int .i64 p.pad, .slice p.Ak p.kern.length p.ck, .slice p.Ag p.grs.length p.cg]
       rw [hW2, hgt]
       clear hW2 hgt c0
       have cb := Env.c1 HE.out
       go_wp2_with fail
       have HXX := Lib.hid (show ∀ V, (∀ zy ∈ ys, rsN zy V) → LsR 4 rtcells (roD N) v.A v.l V from fun V h9 => ⟨(h9 v Hv.out).el, fun z hz => ((h9 v Hv.out).ok z hz).rat (HST.out.z _ (List.mem_map_of_mem hz))⟩)
       refine (says_any _ n N hnN hN h1n p (HE.out.o.1.2.1.ok p Hm.out) HE.out.o.1.2.2 _ _ _ _ (Lib.hid (Lens.of p)) v.A v.c v.l _ (HXX.out _ HE.out.o.2) rfl HST.out).mono ?_
       rintro e w3 ⟨A9, c9, l9, rfl, hc9, hm9, hk9, hb9⟩
       have HT3 := Lib.hid (HT2.out ⟨A9, c9, l9⟩ hm9)
       replace HE := Lib.hid (Env.ret HE.out hk9 hb9)
       clear hc9 hm9 hk9 hb9
       go_upto_region 17 with fail
       obtain ⟨A', c', w8, hrun, hG⟩ := GL.appX (cells := rscells) under_rs9 info_rs9 rfl (by decide) (by decide) HG.out HE.out (⟨A9, c9, l9⟩ : RsV) rfl (rscells_one _) (by omega)
       have Hrun := Lib.hid hrun
       have HG2 := Lib.hid hG
       clear hrun hG
       go_wp2_with (at_builtin; refine wpList_append_eq rfl (.tmp 51) (.tmp 53) 47 _ _ _ rfl rfl rfl Hrun.out ?_)
       clear Hrun
       go_wp2_with fail
       go_roundw
       case rel => exact ⟨k + 1, A', c', ys ++ [⟨A9, c9, l9⟩], ⟨A9, c9, l9⟩, rfl, by simp, by go_num, by omega, HT3, Lib.hid (HG2.out.imp (fun _ h => h) (fun V h y hy => (List.mem_append.1 hy).elim (fun hy => h.2 y hy) (fun hy => by rw [List.mem_singleton.1 hy]; exact h.1.1)))⟩
       case measure => (simp [intOf] <;> omega)
      ·obtain rfl : k = nl := by omega
       have hyl := HT.out.len
       have Hr := Lib.hid ((HG.out.els9 (k := 0) rfl).and (HG.out.rsn.mono fun _ h => h.1))
       have Hb := Lib.hid HG.out.bel
       go_wp2_with fail
       exact bodyPost_ret (v := .tuple #[.slice A ys.length cA, .int .i64 0]) (by simp [results, Tryz.results16, go_sem]) rfl (.inr ⟨HN.out, by rw [Hi.out, Hn.out, List.length_map], A, cA, ys, rfl, by rw [HT.out.q, trQ, List.length_map, ← Hl.out], Hr.out.imp fun V h => ⟨h.1, h.2⟩, Hb.out⟩)
  ·have e0 : (((nx : Int) != f.inputs)) = true := by simp; exact fun h9 => hi0 h9.symm
   have Hi := Lib.hid hi0
   clear hi0
   go_wp2_with fail
   exact bodyPost_ret (v := .tuple #[.slice none 0 0, .int .i64 22]) (by simp [results, Tryz.results16, go_sem]) rfl ((.inl ⟨22, rfl, .inr ⟨rfl, HN.out, by rw [List.length_map, ← Hn.out]; exact Hi.out⟩, HE.out.bel⟩))
 ·have H0 := Lib.hid h0
  have h1 : (err != 0) = true := by simp [h0]
  clear h0
  go_wp2_with fail
  exact bodyPost_ret (v := .tuple #[.slice none 0 0, .int .i64 err]) (by simp [results, Tryz.results16, go_sem]) rfl ((.inl ⟨err, rfl, .inl ⟨H0.out, HN.out⟩, HE.out.bel⟩))
end Go.Proofs.YtplhmeiciiajcaaGreatDoor
