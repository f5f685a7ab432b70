/-
 tripwirelaw14.LowerSays. tripwirelaw13: whole, term. How far numbers are (plain laws). net.Score. tripwirelaw13: the chapter's network. tripwirelaw13.awake.
-/
import Derived.Test.YtplhmeiciiajcaaGreatDoorYL
import Derived.Test.YtplhmeiciiajcaaGreatDoorHL
import Derived.Test.YtplhmeiciiajcaaGreatDoorMI
import Derived.Test.YtplhmeiciiajcaaGreatDoorPG
namespace Go.Proofs.YtplhmeiciiajcaaGreatDoor
set_option maxHeartbeats 16000000
open Go.RowKit

theorem unitsL_len : ∀ (ls : List LaV) (n : Int), (unitsL ls n).length = ls.length + 1
 | [], _ => rfl
 | l :: ls, n => by rw [unitsL, List.length_cons, unitsL_len ls, List.length_cons]
theorem say_in {w : World} {n m : Nat} {f : NeV} {Ax : Option Addr} {xs : List (RV × Rat)} (h : NeD n f w) (hm : ∀ l ∈ f.las, LaM l) (hP : f.las.length ≤ 6 ∧ ∀ l ∈ f.las, SmL 24 1 l) (hx : LsR 4 rtcells (roD m) Ax xs w) (hX : xs.length ≤ 30 ∧ ∀ p ∈ xs, shR 1 p.1) : SayIn w f xs :=
 ⟨LsR.imp h fun l hl hl' => (hP.2 l hl).d hl', hP.1, fun l hl => (hP.2 l hl).say ((hP.2 l hl).d (h.ok l hl)), fun l hl => (hm l hl).gc, hX.1, fun p hp => RatD.sz (RatD.short (show RatD p.1 p.2 m w from hx.ok p hp) (hX.2 p hp)) (by decide)⟩
@[reducible] def W9 (W : World) (A : Option Addr) (k : Nat) (v : RsV) : Prop := W.cell? (adr A k) = some (.slice v.A v.l.length v.c)
end Go.Proofs.YtplhmeiciiajcaaGreatDoor
namespace Go.Proofs.YtplhmeiciiajcaaGreatDoor
set_option maxHeartbeats 16000000
open Go.RowKit

theorem size_i64s13 (w : World) : (sizeOf (Tryz.prog.elem 83)).run Tryz.prog w = .ok 1 w := by kernel_rfl
set_option maxRecDepth 100000 in
theorem whole13_any (w : World) (A : Option Addr) (c : Nat) (l : List Int) (h : LsR 1 icells okI A l w) (hr : ∀ z ∈ l, -9223372036854775808 ≤ z ∧ z ≤ 9223372036854775807) (hl : l.length ≤ 1000) (hT : Tz w) (nl : Nat) (hnl : nl = l.length) : Calls Tryz.prog 20 #[.slice A nl c] w (CpRes 4 (rtcells : RV × Rat → Array Value) roN Prod.snd (l.map fun z => Rat.divInt z 1) w) := by
 have sl1 := h.sl
 rw [← hnl] at sl1
 have hszi := size_i64s13
 have hadd := adr_add
 have Hn := Lib.hid hnl
 have Hr := Lib.hid hr
 have hnb : nl ≤ 1000 := by omega
 have HE := Lib.hid (Env.start (((h.old okI_old)).and (hT.old)))
 clear h hT hnl hr hl
 go_enter Tryz.func20, Tryz.ntmps20
 go_upto_region 3 with fail
 have HG := Lib.hid (((GL.start HE.out).new_ 30 4).imp (φ := fun V => (∀ b ∈ ([] : List Bo), Blk V b.g b.t b.cs) ∧ LsR 1 icells okI A l V ∧ Tz V) (ψ := fun V => ∀ zp ∈ ([] : List (RV × Rat)), roN zp V) (fun _ h => h) (fun _ _ => by simp))
 clear HE
 go_loopw [3, 4] (fun ov iv wr => ∃ (Ao : Option Addr) (co i : Nat) (os : List (RV × Rat)), ov = .slice Ao (List.length os) co ∧ iv = .int .i64 (i : Int) ∧ i ≤ nl ∧ Hid (os.map Prod.snd = (l.take i).map fun z => Rat.divInt z 1) ∧ Hid (GL w (⟨30, 4, .slice Ao (List.length os) co, List.map rtcells os⟩ :: []) (fun V => (∀ b ∈ ([] : List Bo), Blk V b.g b.t b.cs) ∧ LsR 1 icells okI A l V ∧ Tz V) (fun V => ∀ zp ∈ os, roN zp V) wr)) (fun _ iv _ => nl - (intOf iv).toNat)
 case atStart => exact ⟨none, 0, 0, [], rfl, rfl, Nat.zero_le _, Lib.hid rfl, HG⟩
 case round =>
  clear HG
  obtain ⟨Ao, co, i, os, rfl, rfl, hi, HM, HG⟩ := hrel
  by_cases hlt : i < nl
  ·have hlt2 : i < l.length := by rw [← Hn.out]; exact hlt
   have hos := congrArg List.length HM.out
   rw [List.length_map, List.length_map, List.length_take] at hos
   have hosb : os.length ≤ 1000 := by omega
   clear hos
   have HM2 := Lib.hid (fun (y : RV × Rat) (hy : y.2 = Rat.divInt l[i] 1) => map_next HM.out hlt2 hy)
   have c0 := HG.out.o.2.1.ic i hlt2
   have hz := Hr.out _ (List.getElem_mem hlt2)
   obtain ⟨z, hz0⟩ : ∃ z, z = l[i] := ⟨_, rfl⟩
   rw [← hz0] at c0 HM2 hz
   clear hz0
   go_wp2_with fail
   refine (rof_any _ z 1 hz.1 hz.2 (by decide) (by decide) HG.out.o.2.2).mono ?_
   rintro e w5 ⟨k, rfl, hk9, hb9⟩
   replace HG := Lib.hid (HG.out.call hk9 hb9)
   clear hk9 hb9 c0
   have HGa := HG.out.box 30 #[.bool k.num.neg, .slice k.num.A k.num.k k.num.c, .bool k.den.neg, .slice k.den.A k.den.k k.den.c]
   obtain ⟨A', c', w8, hrun, hG⟩ := GL.appG (k := 0) (cells := rtcells) under_rats info_rat rfl (by decide) (by decide) HGa rfl ((k, Rat.divInt z 1) : RV × Rat) rfl (rtcells_one _) HGa.n.1 (by omega)
   have Hrun := Lib.hid hrun
   have HG2 := Lib.hid hG
   clear hrun hG HGa HG
   go_wp2_with (at_builtin; refine wpList_append_eq rfl (.tmp 11) (.tmp 17) 25 _ _ _ rfl rfl rfl Hrun.out ?_)
   clear Hrun
   go_wp2_with fail
   go_roundw
   case rel => exact ⟨A', c', i + 1, os ++ [(k, Rat.divInt z 1)], by simp, by go_num, by omega, Lib.hid (by rw [List.map_append]; exact HM2.out (k, Rat.divInt z 1) rfl), Lib.hid (HG2.out.imp (fun _ h => h) (fun V h => fun zp hz => (List.mem_append.1 hz).elim (fun hz => h.2.2 zp hz) (fun hz => by rw [List.mem_singleton.1 hz]; exact h.2.1)))⟩
   case measure => (simp [intOf] <;> omega)
  ·obtain rfl : i = nl := by omega
   obtain ⟨A', c', hv, hc, hr⟩ := HG.out.tell (cells := rtcells) (ok := roN) (l := os) (fun V h => h)
   obtain ⟨rfl, rfl⟩ : Ao = A' ∧ co = c' := by simpa using hv
   have Hr2 := Lib.hid hr
   have Hc := Lib.hid hc
   have Hbel := Lib.hid HG.out.bel
   clear hr hv HG hc
   go_wp2_with fail
   go_ret
   exact ⟨Ao, co, os, rfl, Hc.out, by rw [HM.out, Hn.out, List.take_length], Hr2.out, Hbel.out⟩
set_option maxRecDepth 100000 in
theorem term13_any (w : World) (a x : Int) (q : Rat) (hq : Rat.divInt x 1 = q) (h1 : -9223372036854775808 ≤ x) (h2 : x ≤ 9223372036854775807) (hT : Tz w) : Calls Tryz.prog 47 #[.int .i64 a, .int .i64 x] w fun e w' => ∃ k, e = .returned (.agg #[.int .i64 a, .bool k.num.neg, .slice k.num.A k.num.k k.num.c, .bool k.den.neg, .slice k.den.A k.den.k k.den.c]) ∧ Rests w' (w.heap.size ≤ ·) (RatN k q) ∧ Below w.heap.size w w' := by
 subst hq
 obtain ⟨W0, hW0⟩ : ∃ W0, W0 = (w.alloc (.cells #[.int .i64 0, .bool false, .slice none 0 0, .bool false, .slice none 0 0] 86)) := ⟨_, rfl⟩
 have HE := Lib.hid (Env.lay1 (Env.start (hT.old)) hW0)
 subst hW0
 have c := Env.c1 HE.out
 clear hT
 go_enter Tryz.func47, Tryz.ntmps47
 go_wp2_with fail
 refine (rof_any _ x 1 h1 h2 (by decide) (by decide) HE.out.o).mono ?_
 rintro e w1 ⟨k, rfl, hk, hb⟩
 replace HE := Lib.hid (Env.ret HE.out hk hb)
 replace c := Env.c1 HE.out
 clear hk hb
 go_wp2_with fail
 have hE := show Env w (⟨w.heap.size, 86, #[.int .i64 a, .bool k.num.neg, .slice k.num.A k.num.k k.num.c, .bool k.den.neg, .slice k.den.A k.den.k k.den.c]⟩ :: []) _ _ _ from (((((HE.out.put 0 (.int .i64 a)).put 1 (.bool k.num.neg)).put 2 (.slice k.num.A k.num.k k.num.c)).put 3 (.bool k.den.neg)).put 4 (.slice k.den.A k.den.k k.den.c))
 replace c := Env.c1 hE
 exact bodyPost_ret (v := .agg #[.int .i64 a, .bool k.num.neg, .slice k.num.A k.num.k k.num.c, .bool k.den.neg, .slice k.den.A k.den.k k.den.c]) (by simp [results, Tryz.results47, go_sem, c]) rfl ⟨k, rfl, (hE.rsn.imp fun _ h => h.1).mono fun _ h => h.1, hE.bel⟩
end Go.Proofs.YtplhmeiciiajcaaGreatDoor
namespace Go.Proofs.YtplhmeiciiajcaaGreatDoor
set_option maxHeartbeats 16000000
open Go.RowKit

theorem rabs_if (a : Rat) : rabs a = if a < 0 then -a else a := by
 unfold rabs
 have h : a.num < 0 ↔ a < 0 := by
  rw [← Rat.not_le, ← Rat.num_nonneg]; omega
 by_cases h9 : a < 0
 ·rw [if_pos (h.2 h9), if_pos h9]
 ·rw [if_neg (fun e => h9 (h.1 e)), if_neg h9]
theorem maxQ_if (a b : Rat) : maxQ a b = if a < b then b else a := by
 unfold maxQ cmpQ
 by_cases h : a < b
 ·rw [if_pos h, if_pos h, if_pos (by decide)]
 ·rw [if_neg h, if_neg h]
  by_cases h2 : a = b
  ·rw [if_pos h2]; rfl
  ·rw [if_neg h2]; rfl
theorem rabs_nn (a : Rat) : 0 ≤ rabs a := by rw [rabs_if]; split <;> grind
theorem rabs_comm (a b : Rat) : rabs (a - b) = rabs (b - a) := by rw [rabs_if, rabs_if]; split <;> split <;> grind
theorem rabs_self (a : Rat) : rabs (a - a) = 0 := by rw [rabs_if]; split <;> grind
theorem rabs_tri (a b c : Rat) : rabs (a - c) ≤ rabs (a - b) + rabs (b - c) := by
 rw [rabs_if, rabs_if, rabs_if]; split <;> split <;> split <;> grind
def distK (o : Bool) (d : Nat → Rat) : Nat → Rat
 | 0 => 0
 | k + 1 => if o = true then distK o d k + d k else maxQ (distK o d k) (d k)
theorem distK_1 (o : Bool) (d : Nat → Rat) (k : Nat) : distK o d (k + 1) = if o = true then distK o d k + d k else maxQ (distK o d k) (d k) := rfl
theorem distK_congr {o : Bool} {d e : Nat → Rat} : ∀ {k : Nat}, (∀ i, i < k → d i = e i) → distK o d k = distK o e k
 | 0, _ => rfl
 | k + 1, h => by rw [distK_1, distK_1, distK_congr fun i hi => h i (by omega), h k (by omega)]
theorem distK_nn {o : Bool} {d : Nat → Rat} : ∀ {k : Nat}, (∀ i, i < k → 0 ≤ d i) → 0 ≤ distK o d k
 | 0, _ => Rat.le_refl
 | k + 1, h => by
  have h1 := distK_nn (o := o) (d := d) fun i (hi : i < k) => h i (by omega)
  have h2 := h k (by omega)
  rw [distK_1, maxQ_if]
  split
  ·grind
  ·split <;> assumption
theorem distK_zero {o : Bool} {d : Nat → Rat} : ∀ {k : Nat}, (∀ i, i < k → d i = 0) → distK o d k = 0
 | 0, _ => rfl
 | k + 1, h => by
  have h1 := distK_zero (o := o) (d := d) fun i (hi : i < k) => h i (by omega)
  rw [distK_1, maxQ_if, h1, h k (by omega)]
  split
  ·grind
  ·split <;> rfl
theorem distK_tri {o : Bool} {d e f : Nat → Rat} : ∀ {k : Nat}, (∀ i, i < k → d i ≤ e i + f i) → (∀ i, i < k → 0 ≤ e i ∧ 0 ≤ f i) → distK o d k ≤ distK o e k + distK o f k
 | 0, _, _ => by show (0 : Rat) ≤ 0 + 0; grind
 | k + 1, h, hp => by
  have h1 := distK_tri (o := o) (d := d) (e := e) (f := f) (fun i (hi : i < k) => h i (by omega)) (fun i hi => hp i (by omega))
  have h2 := h k (by omega)
  rw [distK_1, distK_1, distK_1, maxQ_if, maxQ_if, maxQ_if]
  split
  ·grind
  ·split <;> split <;> split <;> grind
theorem distK_le {d : Nat → Rat} : ∀ {k : Nat}, (∀ i, i < k → 0 ≤ d i) → distK false d k ≤ distK true d k
 | 0, _ => Rat.le_refl
 | k + 1, h => by
  have h1 := distK_le (d := d) fun i (hi : i < k) => h i (by omega)
  have h2 := h k (by omega)
  have h3 := distK_nn (o := true) (d := d) fun i (hi : i < k) => h i (by omega)
  rw [distK_1, distK_1, maxQ_if, if_neg (by decide), if_pos rfl]
  split <;> grind
end Go.Proofs.YtplhmeiciiajcaaGreatDoor
namespace Go.Proofs.YtplhmeiciiajcaaGreatDoor
set_option maxHeartbeats 16000000
open Go.RowKit

def bestK (qs : List Rat) (m : Nat) : Nat → Rat
 | 0 => (qs[if m = 0 then 1 else 0]?).getD 0
 | k + 1 => if k = m then bestK qs m k else maxQ (bestK qs m k) ((qs[k]?).getD 0)
def scoreQ (qs : List Rat) (m : Nat) : Rat := (qs[m]?).getD 0 - bestK qs m qs.length
theorem sz0 {N : Nat} (h : 1 ≤ N) : Sz 0 N := Sz.up (n := 1) ⟨by decide +kernel, by decide +kernel⟩ h
theorem getD_sz9 {qs : List Rat} {N : Nat} (h1 : 1 ≤ N) (h : ∀ q ∈ qs, Sz q N) (i : Nat) : Sz ((qs[i]?).getD 0) N := by
 cases e : qs[i]? with
 | none => exact sz0 h1
 | some q => exact h q (List.mem_of_getElem? e)
theorem maxQ_sz9 {a b : Rat} {n : Nat} (h : Sz a n) (h' : Sz b n) : Sz (maxQ a b) n := by unfold maxQ; split <;> assumption
theorem bestK_sz {qs : List Rat} {m N : Nat} (h1 : 1 ≤ N) (h : ∀ q ∈ qs, Sz q N) : ∀ k, Sz (bestK qs m k) N
 | 0 => getD_sz9 h1 h _
 | k + 1 => by
  unfold bestK
  split
  ·exact bestK_sz h1 h k
  ·exact maxQ_sz9 (bestK_sz h1 h k) (getD_sz9 h1 h k)
def ScRes (f : NeV) (xs : List Rat) (lab : Int) (w : World) (e : Ending) (w' : World) : Prop :=
 (∃ err : Int, e = .returned (.tuple #[.agg #[.bool false, .slice none 0 0, .bool false, .slice none 0 0], .int .i64 err]) ∧ (((err ≠ 0 ∧ NetP w f err) ∨ (err = 22 ∧ NetP w f 0 ∧ f.inputs ≠ (xs.length : Int))) ∨ (err = 24 ∧ NetP w f 0 ∧ f.inputs = (xs.length : Int) ∧ ((trAt (f.las.map LaG.q) xs f.las.length).length < 2 ∨ lab < 0 ∨ ((trAt (f.las.map LaG.q) xs f.las.length).length : Int) ≤ lab))) ∧ Below w.heap.size w w') ∨
 (NetP w f 0 ∧ f.inputs = (xs.length : Int) ∧ ∃ (m : Nat) (k : RV), lab = (m : Int) ∧ 2 ≤ (trAt (f.las.map LaG.q) xs f.las.length).length ∧ m < (trAt (f.las.map LaG.q) xs f.las.length).length ∧ e = .returned (.tuple #[.agg #[.bool k.num.neg, .slice k.num.A k.num.k k.num.c, .bool k.den.neg, .slice k.den.A k.den.k k.den.c], .int .i64 0]) ∧ Rests w' (w.heap.size ≤ ·) (RatN k (scoreQ (trAt (f.las.map LaG.q) xs f.las.length) m)) ∧ Below w.heap.size w w')
set_option maxRecDepth 100000 in
theorem score_any (w : World) (n N : Nat) (hnN : n ≤ N) (hN : N ≤ 100000) (h1n : 1 ≤ n) (f : NeV) (h : NeD n f w) (hs : NeS f) (hT : Tz w) (nl : Nat) (hnl : nl = f.las.length) (Ax : Option Addr) (cx : Nat) (xs : List (RV × Rat)) (nx : Nat) (hx : LsR 4 rtcells (roD N) Ax xs w) (hnx : nx = xs.length) (hxb : nx ≤ 1000) (hst : NetP w f 0 → f.inputs = (xs.length : Int) → ∀ i (hi : i < f.las.length), StOk N f.las[i] (trAt (f.las.map LaG.q) (xs.map Prod.snd) i)) (lab : Int)
 (hsz : NetP w f 0 → f.inputs = (xs.length : Int) → (trAt (f.las.map LaG.q) (xs.map Prod.snd) f.las.length).length ≤ 1000 ∧ ∀ q ∈ trAt (f.las.map LaG.q) (xs.map Prod.snd) f.las.length, Sz q N) : Calls Tryz.prog 24 #[.agg #[.int .i64 f.inputs, .slice f.A nl f.c], .slice Ax nx cx, .int .i64 lab] w (ScRes f (xs.map Prod.snd) lab w) := by
 have Hst := Lib.hid hst
 have Hs := Lib.hid hs
 have Hn := Lib.hid hnx
 have Hl := Lib.hid hnl
 have Hz := Lib.hid hsz
 have hszr := size_rats
 have hadd := adr_add
 have h1N : 1 ≤ N := by omega
 obtain ⟨W0, hW0⟩ : ∃ W0, W0 = ((w.alloc (.cells #[.int .i64 f.inputs, .slice f.A nl f.c] 24)).alloc (.cells #[.bool false, .slice none 0 0, .bool false, .slice none 0 0] 30)) := ⟨_, rfl⟩
 have HE := Lib.hid (Env.lay2 (Env.start ((h.old).and (((hx.old roD_old)).and ((hT.old).and (NeD.iffR h))))) hW0)
 subst hW0
 have c := Env.c2 HE.out
 have dd := Env.d2 HE.out
 clear h hx hT hs hst hnx hnl hsz
 go_enter Tryz.func24, Tryz.ntmps24
 go_wp2_with fail
 refine (run_any _ n N hnN hN h1n f HE.out.o.1 Hs.out HE.out.o.2.2.1 nl Hl.out Ax cx xs nx HE.out.o.2.1 Hn.out hxb (fun h0 hi => Hst.out ((HE.out.o.2.2.2 0).1 h0) hi)).mono ?_
 rintro e w1 (⟨err, rfl, hN9, hb9⟩ | ⟨hN9, hi9, A, c1, os, rfl, hq9, hr9, hb9⟩)
 ·have HN := Lib.hid (show (err ≠ 0 ∧ NetP w f err) ∨ (err = 22 ∧ NetP w f 0 ∧ f.inputs ≠ ((xs.map Prod.snd).length : Int)) from hN9.imp (fun h => ⟨h.1, (HE.out.o.2.2.2 err).1 h.2⟩) (fun h => ⟨h.1, (HE.out.o.2.2.2 0).1 h.2.1, h.2.2⟩))
  replace HE := Lib.hid (Env.call HE.out hb9)
  replace c := Env.c2 HE.out
  have h1 : (err != 0) = true := by rcases HN.out with h | h <;> simp [h.1]
  clear hN9 hb9
  go_wp2_with fail
  have hE := HE.out.put4 (.bool false) (.slice none 0 0) (.bool false) (.slice none 0 0)
  have c9 := Env.c2 hE
  exact bodyPost_ret (v := .tuple #[.agg #[.bool false, .slice none 0 0, .bool false, .slice none 0 0], .int .i64 err]) (by simp [results, Tryz.results24, go_sem, c9]) rfl (.inl ⟨err, rfl, .inl HN.out, hE.bel⟩)
 ·have HN := Lib.hid ((HE.out.o.2.2.2 0).1 hN9)
  have Hi := Lib.hid hi9
  have HQ := Lib.hid hq9
  have hol : (trAt (f.las.map LaG.q) (xs.map Prod.snd) f.las.length).length = os.length := by rw [← hq9, List.length_map]
  have HZ := Hz.out HN.out (by rw [hi9, List.length_map])
  replace HE := Lib.hid ((Env.ret HE.out hr9 hb9).imp (φ := fun V => LsR 4 rtcells (roD N) Ax xs V ∧ Tz V) (ψ := fun V => LsR 4 rtcells roN A os V) (fun _ h => ⟨h.2.1, h.2.2.1⟩) (fun _ h => h.1))
  replace c := Env.c2 HE.out
  obtain ⟨no, hno⟩ : ∃ no, no = os.length := ⟨_, rfl⟩
  obtain ⟨qs, hqs⟩ : ∃ qs, qs = trAt (f.las.map LaG.q) (xs.map Prod.snd) f.las.length := ⟨_, rfl⟩
  rw [← hqs, ← hno] at hol
  rw [← hqs] at HZ hq9
  have HX := Lib.hid (show ∀ p ∈ os, Sz p.2 N from fun p hp => HZ.2 p.2 (by rw [← hq9]; exact List.mem_map_of_mem (f := Prod.snd) hp))
  have HA := Lib.hid (show ∀ i (hi : i < os.length), (qs[i]?).getD 0 = (os[i]).2 from fun i hi => by
   rw [← hq9, List.getElem?_map, List.getElem?_eq_getElem hi]
   rfl)
  have HBS := Lib.hid (fun m k => bestK_sz (m := m) h1N HZ.2 k)
  have hnb : no ≤ 1000 := by have := HZ.1; omega
  have slo := HE.out.n.sl
  rw [← hno] at slo
  rw [← hno]
  have HOL := Lib.hid hol
  have Hno := Lib.hid hno
  have Hqs := Lib.hid hqs
  clear hN9 hi9 hq9 hr9 hb9 hno hqs HZ hol
  by_cases h2 : no < 2
  ·have h9 : (no : Int) < 2 := by omega
   go_wp2_with fail
   have hE := HE.out.put4 (.bool false) (.slice none 0 0) (.bool false) (.slice none 0 0)
   have c9 := Env.c2 hE
   exact bodyPost_ret (v := .tuple #[.agg #[.bool false, .slice none 0 0, .bool false, .slice none 0 0], .int .i64 24]) (by simp [results, Tryz.results24, go_sem, c9]) rfl (.inl ⟨24, rfl, .inr ⟨rfl, HN.out, Hi.out, by rw [← Hqs.out, HOL.out]; omega⟩, hE.bel⟩)
  ·have h29 : ¬ (no : Int) < 2 := by omega
   by_cases h3 : lab < 0
   ·go_wp2_with fail
    have hE := HE.out.put4 (.bool false) (.slice none 0 0) (.bool false) (.slice none 0 0)
    have c9 := Env.c2 hE
    exact bodyPost_ret (v := .tuple #[.agg #[.bool false, .slice none 0 0, .bool false, .slice none 0 0], .int .i64 24]) (by simp [results, Tryz.results24, go_sem, c9]) rfl (.inl ⟨24, rfl, .inr ⟨rfl, HN.out, Hi.out, by rw [← Hqs.out, HOL.out]; omega⟩, hE.bel⟩)
   ·by_cases h4 : (no : Int) ≤ lab
    ·go_wp2_with fail
     have hE := HE.out.put4 (.bool false) (.slice none 0 0) (.bool false) (.slice none 0 0)
     have c9 := Env.c2 hE
     exact bodyPost_ret (v := .tuple #[.agg #[.bool false, .slice none 0 0, .bool false, .slice none 0 0], .int .i64 24]) (by simp [results, Tryz.results24, go_sem, c9]) rfl (.inl ⟨24, rfl, .inr ⟨rfl, HN.out, Hi.out, by rw [← Hqs.out, HOL.out]; omega⟩, hE.bel⟩)
    ·obtain ⟨m, rfl⟩ : ∃ m : Nat, lab = (m : Int) := ⟨lab.toNat, by omega⟩
     have hm : m < no := by omega
     have h49 : ¬ (no : Int) ≤ (m : Int) := h4
     obtain ⟨F, hF⟩ : ∃ F : Nat, F = if m = 0 then 1 else 0 := ⟨_, rfl⟩
     have hFn : F < no := by rw [hF]; split <;> omega
     have HF := Lib.hid hF
     clear hF h2 h3 h4
     go_upto_if 39 with fail
     go_cut [10] (fun v wx => v = .int .i64 (F : Nat) ∧ w1 = wx)
     case first =>
      by_cases hm0 : m = 0
      ·have e0 : ((m : Int) == 0) = true := by simp [hm0]
       go_wp2_with fail
       go_meet
       exact ⟨by rw [HF.out, if_pos hm0]; rfl, rfl⟩
      ·have e0 : ((m : Int) == 0) = false := by simp [hm0]
       go_wp2_with fail
       go_meet
       exact ⟨by rw [HF.out, if_neg hm0]; rfl, rfl⟩
     case rest =>
      obtain ⟨rfl, rfl⟩ := hcut
      have hFo : F < os.length := by rw [← Hno.out]; exact hFn
      have c0 := HE.out.n.rc F hFo
      have HB0 := Lib.hid (show (os[F]).2 = bestK qs m 0 from by rw [← HA.out F hFo, HF.out]; rfl)
      have HR0 := Lib.hid (fun (V : World) (h : LsR 4 rtcells roN A os V) => (show RatN (os[F]).1 (os[F]).2 V from h.ok _ (List.getElem_mem hFo)))
      obtain ⟨p, hp⟩ : ∃ p, p = os[F] := ⟨_, rfl⟩
      rw [← hp] at c0 HB0 HR0
      rw [HB0.out] at HR0
      clear hp hFo HB0
      go_upto_region 10 with fail
      obtain ⟨W2, g, hW2, hg, HE2⟩ := Env.al HE.out 30 #[.bool p.1.num.neg, .slice p.1.num.A p.1.num.k p.1.num.c, .bool p.1.den.neg, .slice p.1.den.A p.1.den.k p.1.den.c]
      rw [hW2, hg]
      clear hW2 hg c0 c
      have HE := Lib.hid (HE2.out.imp (φ := fun V => LsR 4 rtcells (roD N) Ax xs V ∧ Tz V) (ψ := fun V => RatN p.1 (bestK qs m 0) V ∧ LsR 4 rtcells roN A os V) (fun _ h => h) (fun V h => ⟨HR0.out V h, h⟩))
      clear HE2 HR0
      go_upto_region 11 with fail
      go_loopw [46] (fun iv wr => ∃ (i : Nat) (k : RV), iv = .int .i64 (i : Int) ∧ i ≤ no ∧ Hid (Env w [⟨g, 30, #[.bool k.num.neg, .slice k.num.A k.num.k k.num.c, .bool k.den.neg, .slice k.den.A k.den.k k.den.c]⟩, ⟨w.heap.size + 1, 30, #[.bool false, .slice none 0 0, .bool false, .slice none 0 0]⟩, ⟨w.heap.size, 24, #[.int .i64 f.inputs, .slice f.A nl f.c]⟩] (fun V => LsR 4 rtcells (roD N) Ax xs V ∧ Tz V) (fun V => RatN k (bestK qs m i) V ∧ LsR 4 rtcells roN A os V) wr)) (fun iv _ => no - (intOf iv).toNat)
      case atStart => exact ⟨0, p.1, rfl, Nat.zero_le _, HE⟩
      case round =>
       clear HE
       obtain ⟨i, k, rfl, hi, HE⟩ := hrel
       by_cases hlt : i < no
       ·have hlo : i < os.length := by rw [← Hno.out]; exact hlt
        have c0 := HE.out.n.2.rc i hlo
        have HXI := Lib.hid (HX.out _ (List.getElem_mem hlo))
        have HRI := Lib.hid (fun (V : World) (h : LsR 4 rtcells roN A os V) => (show RatN (os[i]).1 (os[i]).2 V from h.ok _ (List.getElem_mem hlo)))
        have HAI := Lib.hid (HA.out i hlo)
        obtain ⟨p, hp⟩ : ∃ p, p = os[i] := ⟨_, rfl⟩
        rw [← hp] at c0 HXI HRI HAI
        clear hp hlo
        go_upto_region 13 with fail
        obtain ⟨W5, g5, hW5, hg5, HE⟩ := Env.al HE.out 30 #[.bool p.1.num.neg, .slice p.1.num.A p.1.num.k p.1.num.c, .bool p.1.den.neg, .slice p.1.den.A p.1.den.k p.1.den.c]
        rw [hW5, hg5]
        clear hW5 hg5 c0
        by_cases him : i = m
        ·have e0 : ((i : Int) != (m : Int)) = false := by simp [him]
         have HBE := Lib.hid (show bestK qs m i = bestK qs m (i + 1) from by rw [bestK, if_pos him])
         clear him
         go_wp2_with fail
         go_roundw
         case rel => exact ⟨i + 1, k, by go_num, by omega, Lib.hid ((HE.out.drop).imp (fun _ h => h) (fun _ h => ⟨by rw [← HBE.out]; exact h.1, h.2⟩))⟩
         case measure => (simp [intOf] <;> omega)
        ·have e0 : ((i : Int) != (m : Int)) = true := by simp; omega
         have HBE := Lib.hid (show maxQ (bestK qs m i) p.2 = bestK qs m (i + 1) from by rw [bestK, if_neg him, HAI.out])
         clear him
         have c := Env.c4 HE.out
         go_wp2_with fail
         refine (rmax_any _ k p.1 (bestK qs m i) p.2 N (by omega) h1N (RatN.rat HE.out.n.1 (HBS.out m i)) (RatN.rat (HRI.out _ HE.out.n.2) HXI.out) HE.out.o.2).mono ?_
         rintro e wq ⟨k2, rfl, hk9, hb9⟩
         rw [HBE.out] at hk9
         replace HE := Lib.hid (Env.ret HE.out hk9 hb9)
         replace c := Env.c4 HE.out
         clear hk9 hb9
         go_wp2_with fail
         go_roundw
         case rel => exact ⟨i + 1, k2, by go_num, by omega, Lib.hid ((Env.drop (HE.out.put4_1 (.bool k2.num.neg) (.slice k2.num.A k2.num.k k2.num.c) (.bool k2.den.neg) (.slice k2.den.A k2.den.k k2.den.c))).imp (fun _ h => h) (fun _ h => ⟨h.1, h.2.2⟩))⟩
         case measure => (simp [intOf] <;> omega)
       ·obtain rfl : i = no := by omega
        have hmo : m < os.length := by rw [← Hno.out]; exact hm
        have HXM := Lib.hid (HX.out _ (List.getElem_mem hmo))
        have HRM := Lib.hid (fun (V : World) (h : LsR 4 rtcells roN A os V) => And.intro (show RatN (os[m]).1 (os[m]).2 V from h.ok _ (List.getElem_mem hmo)) (h.rc m hmo))
        have HSC := Lib.hid (show (os[m]).2 - bestK qs m i = scoreQ qs m from by rw [← HA.out m hmo, scoreQ, HOL.out])
        obtain ⟨p, hp⟩ : ∃ p, p = os[m] := ⟨_, rfl⟩
        rw [← hp] at HXM HRM HSC
        clear hp hmo hlt
        have c := Env.c3 HE.out
        go_upto_region 16 with fail
        go_region_held3 (fun V => RC A m p V ∧ CB g #[.bool k.num.neg, .slice k.num.A k.num.k k.num.c, .bool k.den.neg, .slice k.den.A k.den.k k.den.c] V) (first | with_reducible exact ⟨(HRM.out _ HE.out.n.2).2, (Env.c3 HE.out).1⟩ | with_reducible exact ⟨(HRM.out _ HE.out.n.2.2).2, (Env.c3 HE.out).1⟩ | with_reducible exact ⟨(HRM.out _ HE.out.drew.n.2).2, (Env.c3 HE.out.drew).1⟩ | with_reducible exact ⟨(HRM.out _ HE.out.drew.n.2.2).2, (Env.c3 HE.out.drew).1⟩ | with_reducible exact ⟨(HRM.out _ (HE.out.put4_1 (.bool k2.num.neg) (.slice k2.num.A k2.num.k k2.num.c) (.bool k2.den.neg) (.slice k2.den.A k2.den.k k2.den.c)).n.2.2).2, (Env.c3 (HE.out.put4_1 (.bool k2.num.neg) (.slice k2.num.A k2.num.k k2.num.c) (.bool k2.den.neg) (.slice k2.den.A k2.den.k k2.den.c))).1⟩ | with_reducible exact ⟨(HRM.out _ (HE.out.drew.put4_1 (.bool k2.num.neg) (.slice k2.num.A k2.num.k k2.num.c) (.bool k2.den.neg) (.slice k2.den.A k2.den.k k2.den.c)).n.2.2).2, (Env.c3 (HE.out.drew.put4_1 (.bool k2.num.neg) (.slice k2.num.A k2.num.k k2.num.c) (.bool k2.den.neg) (.slice k2.den.A k2.den.k k2.den.c))).1⟩ | ((repeat' apply And.intro) <;> go_keep))
         (first | (go_at_call 41; go_must (refine (rsub_any _ p.1 k p.2 (bestK qs m i) N (by omega) h1N (RatN.rat (HRM.out _ (by first | with_reducible exact HE.out.n.2 | with_reducible exact HE.out.drew.n.2)).1 HXM.out) (RatN.rat (by first | with_reducible exact HE.out.n.1 | with_reducible exact HE.out.drew.n.1) (HBS.out m i)) (by first | with_reducible exact HE.out.o.2 | with_reducible exact HE.out.drew.o.2)).mono ?_; rintro e wq ⟨k2, rfl, hk9, hb9⟩; rw [HSC.out] at hk9; (first | (with_reducible (replace HE := Lib.hid (Env.ret HE.out hk9 hb9))) | (with_reducible (replace HE := Lib.hid (Env.ret HE.out.drew hk9 hb9)))); have c := Env.c3 HE.out; clear hk9 hb9)))
        all_goals
         go_wp2_with fail
         first
          | exact bodyPost_ret (v := .tuple #[.agg #[.bool k2.num.neg, .slice k2.num.A k2.num.k k2.num.c, .bool k2.den.neg, .slice k2.den.A k2.den.k k2.den.c], .int .i64 0]) (by simp [results, Tryz.results24, go_sem, Env.c3 (HE.out.put4_1 (.bool k2.num.neg) (.slice k2.num.A k2.num.k k2.num.c) (.bool k2.den.neg) (.slice k2.den.A k2.den.k k2.den.c))]) rfl (.inr ⟨HN.out, Hi.out, m, k2, rfl, by rw [← Hqs.out, HOL.out]; omega, by rw [← Hqs.out, HOL.out]; exact hm, rfl, by rw [← Hqs.out]; exact ((HE.out.put4_1 (.bool k2.num.neg) (.slice k2.num.A k2.num.k k2.num.c) (.bool k2.den.neg) (.slice k2.den.A k2.den.k k2.den.c)).rsn.mono fun _ h => h.1).imp fun _ h => h.1, (HE.out.put4_1 (.bool k2.num.neg) (.slice k2.num.A k2.num.k k2.num.c) (.bool k2.den.neg) (.slice k2.den.A k2.den.k k2.den.c)).bel⟩)
          | exact bodyPost_ret (v := .tuple #[.agg #[.bool k2.num.neg, .slice k2.num.A k2.num.k k2.num.c, .bool k2.den.neg, .slice k2.den.A k2.den.k k2.den.c], .int .i64 0]) (by simp [results, Tryz.results24, go_sem, Env.c3 (HE.out.drew.put4_1 (.bool k2.num.neg) (.slice k2.num.A k2.num.k k2.num.c) (.bool k2.den.neg) (.slice k2.den.A k2.den.k k2.den.c))]) rfl (.inr ⟨HN.out, Hi.out, m, k2, rfl, by rw [← Hqs.out, HOL.out]; omega, by rw [← Hqs.out, HOL.out]; exact hm, rfl, by rw [← Hqs.out]; exact ((HE.out.drew.put4_1 (.bool k2.num.neg) (.slice k2.num.A k2.num.k k2.num.c) (.bool k2.den.neg) (.slice k2.den.A k2.den.k k2.den.c)).rsn.mono fun _ h => h.1).imp fun _ h => h.1, (HE.out.drew.put4_1 (.bool k2.num.neg) (.slice k2.num.A k2.num.k k2.num.c) (.bool k2.den.neg) (.slice k2.den.A k2.den.k k2.den.c)).bel⟩)
end Go.Proofs.YtplhmeiciiajcaaGreatDoor
namespace Go.Proofs.YtplhmeiciiajcaaGreatDoor
set_option maxHeartbeats 16000000
open Go.RowKit

def smA (ga gb gc gd : Nat) (k1 k2 k3 k4 : RV) : LaV := ⟨1, some ⟨gc, 0, none⟩, 2, [⟨some ⟨ga, 0, none⟩, 2, [⟨0, k1, 1⟩, ⟨1, k2, -1⟩]⟩, ⟨some ⟨gb, 0, none⟩, 1, [⟨1, k3, 2⟩]⟩], some ⟨gd, 0, none⟩, 2, [(k4, Rat.divInt 1 2), (zeroR, 0)], 0, 0, 0, 0, 0, 0, 0, 0, none, 0, [], none, 0, []⟩
def smQ : List LQ := [⟨1, [[(0, 1), (1, -1)], [(1, 2)]], [Rat.divInt 1 2, 0], [0, 0, 0, 0, 0, 0, 0, 0], [], []⟩, ⟨3, [], [], [0, 0, 0, 0, 0, 0, 0, 0], [], []⟩]
def smN (g : Nat) (l : LaV) : NeV := ⟨2, some ⟨g, 0, none⟩, 2, [l, reL]⟩
def SmRes (w : World) (e : Ending) (w' : World) : Prop := ∃ g l, e = .returned (.agg #[.int .i64 2, .slice (some ⟨g, 0, none⟩) 2 2]) ∧ [l, reL].map LaG.q = smQ ∧ Rests w' (w.heap.size ≤ ·) (LsR 13 lacells LaN (some ⟨g, 0, none⟩) [l, reL]) ∧ Below w.heap.size w w'
theorem re_say : SayOk reL := by
 refine ⟨⟨fun r hr => (by cases hr), fun x hx => (by cases hx), fun x hx => (by cases hx)⟩, ?_, ?_, ?_, ?_, ?_, ?_⟩ <;> decide
section
variable {g : Nat} {l : LaV} {V : World} (hq : [l, reL].map LaG.q = smQ)
include hq
theorem sm_q : l.q = ⟨1, [[(0, 1), (1, -1)], [(1, 2)]], [Rat.divInt 1 2, 0], [0, 0, 0, 0, 0, 0, 0, 0], [], []⟩ := by
 simp only [List.map_cons, List.map_nil, smQ, List.cons.injEq] at hq
 exact hq.1
theorem sm_say : SayOk l := by
 have e := sm_q hq
 have z : ∀ q : Rat, q = 1 ∨ q = -1 ∨ q = 2 ∨ q = Rat.divInt 1 2 ∨ q = 0 → Sz q 1 := fun q h => by
  rcases h with rfl | rfl | rfl | rfl | rfl <;> refine ⟨?_, ?_⟩ <;> decide +kernel
 refine ⟨?_, ?_, ?_, ?_, ?_, ?_, ?_⟩
 ·rw [e]
  refine ⟨fun r hr p hp => z _ ?_, fun x hx => z _ ?_, fun x hx => by cases hx⟩
  ·simp only [List.mem_cons, List.not_mem_nil, or_false] at hr
   rcases hr with rfl | rfl
   ·simp only [List.mem_cons, List.not_mem_nil, or_false] at hp
    rcases hp with rfl | rfl
    ·exact .inl rfl
    ·exact .inr (.inl rfl)
   ·simp only [List.mem_cons, List.not_mem_nil, or_false] at hp
    rcases hp with rfl
    exact .inr (.inr (.inl rfl))
  ·simp only [List.mem_cons, List.not_mem_nil, or_false] at hx
   rcases hx with rfl | rfl
   ·exact .inr (.inr (.inr (.inl rfl)))
   ·exact .inr (.inr (.inr (.inr rfl)))
 all_goals (rw [e]; decide)
theorem sm_net (h : LaN l V) : NetP V (smN g l) 0 := by
 have e := sm_q hq
 have hk : l.kind = 1 := congrArg LQ.kind e
 have hr : l.rows.length = 2 := by have := congrArg (fun q => q.rows.length) e; simpa [LaG.q] using this
 have ht : termsQ l = 3 := by
  have h1 := congrArg (fun q : LQ => q.rows.map fun r => (r.length : Int)) e
  simp only [LaG.q, List.map_map] at h1
  unfold termsQ
  rw [if_pos hk]
  have h2 : (l.rows.map fun v => (v.ts.length : Int)) = [2, 1] := by
   refine Eq.trans ?_ h1
   exact List.map_congr_left fun v _ => by simp
  rw [h2]
  decide
 have hu : ∀ n, unitsQ l n = 2 := fun n => by unfold unitsQ; rw [if_pos hk, hr]; rfl
 refine .inr ⟨⟨show (1 : Int) ≤ 2 by decide, show (2 : Int) ≤ 64 by decide, show 2 ≤ 16 by decide⟩, .inr ⟨fitsq_y ?_ h, .inr ⟨?_, ?_⟩⟩⟩
 ·show FitsQ l.q 2
  rw [e]
  refine ⟨rfl, rfl, .inl ⟨rfl, rfl, by decide, rfl, ?_⟩⟩
  intro r hr
  simp only [List.mem_cons, List.not_mem_nil, or_false] at hr
  rcases hr with rfl | rfl
  ·refine ⟨fun p hp => ?_, by decide⟩
   simp only [List.mem_cons, List.not_mem_nil, or_false] at hp
   rcases hp with rfl | rfl <;> decide +kernel
  ·refine ⟨fun p hp => ?_, by decide⟩
   simp only [List.mem_cons, List.not_mem_nil, or_false] at hp
   rcases hp with rfl
   decide +kernel
 ·rw [hu, ht]; decide
 ·refine .inr ⟨.inr (.inr (.inl ⟨rfl, ⟨rfl, rfl, rfl, rfl, rfl, rfl, rfl, rfl, rfl⟩, rfl, rfl, rfl⟩)), .inr ⟨?_, rfl⟩⟩
  rw [hu, ht]; decide
theorem sm_d (h : LsR 13 lacells LaN (some ⟨g, 0, none⟩) [l, reL] V) : NeD 1 (smN g l) V := by
 have hs := sm_say hq
 have hr := re_say
 refine LsR.imp h fun x hx hn => ?_
 have hx9 : x ∈ [l, reL] := hx
 simp only [List.mem_cons, List.not_mem_nil, or_false] at hx9
 rcases hx9 with rfl | rfl
 ·exact LaN.d hn hs.sz
 ·exact LaN.d hn hr.sz
theorem sm_in {xs : List (RV × Rat)} (h : LsR 13 lacells LaN (some ⟨g, 0, none⟩) [l, reL] V) (hx : xs.length ≤ 30) (hz : ∀ p ∈ xs, Sz p.2 1) : SayIn V (smN g l) xs := by
 have hs := sm_say hq
 have hr := re_say
 have hg : ∀ x ∈ [l, reL], x.grs = [] := fun x hx => by
  simp only [List.mem_cons, List.not_mem_nil, or_false] at hx
  rcases hx with rfl | rfl
  ·have := congrArg LQ.grs (sm_q hq)
   exact List.map_eq_nil_iff.1 this
  ·rfl
 refine ⟨sm_d hq h, show 2 ≤ 6 by decide, fun x hx => ?_, fun x hx => ?_, hx, hz⟩
 ·have hx9 : x ∈ [l, reL] := hx
  simp only [List.mem_cons, List.not_mem_nil, or_false] at hx9
  rcases hx9 with rfl | rfl
  ·exact hs
  ·exact hr
 ·intro g hg9
  rw [hg x hx] at hg9
  cases hg9
end
theorem ls1t {ok : TeV → World → Prop} {W : World} {g : Nat} {t : TypeId} {x : TeV} (h : Blk W g t #[.int .i64 x.pl, .bool x.r.num.neg, .slice x.r.num.A x.r.num.k x.r.num.c, .bool x.r.den.neg, .slice x.r.den.A x.r.den.k x.r.den.c]) (hp : ok x W) : LsR 5 tecells ok (some ⟨g, 0, none⟩) [x] W := by
 refine ⟨⟨Sl.some_ _ _ _, fun i hi => ?_, fun i hi j hj => ?_⟩, fun y hy => by rw [List.mem_singleton.1 hy]; exact hp⟩
 ·match i, hi with
  | 0, _ => rfl
 ·rw [adr_some, Nat.zero_add, h.cell]
  match i, hi, j, hj with
  | 0, _, 0, _ => rfl
  | 0, _, 1, _ => rfl
  | 0, _, 2, _ => rfl
  | 0, _, 3, _ => rfl
  | 0, _, 4, _ => rfl
theorem ls2r {ok : RV × Rat → World → Prop} {W : World} {g : Nat} {t : TypeId} {x y : RV × Rat} (h : Blk W g t #[.bool x.1.num.neg, .slice x.1.num.A x.1.num.k x.1.num.c, .bool x.1.den.neg, .slice x.1.den.A x.1.den.k x.1.den.c, .bool y.1.num.neg, .slice y.1.num.A y.1.num.k y.1.num.c, .bool y.1.den.neg, .slice y.1.den.A y.1.den.k y.1.den.c]) (hp : ok x W) (hq : ok y W) : LsR 4 rtcells ok (some ⟨g, 0, none⟩) [x, y] W := by
 refine ⟨⟨Sl.some_ _ _ _, fun i hi => ?_, fun i hi j hj => ?_⟩, fun z hz => by
  simp only [List.mem_cons, List.not_mem_nil, or_false] at hz
  rcases hz with rfl | rfl
  ·exact hp
  ·exact hq⟩
 ·match i, hi with
  | 0, _ => rfl
  | 1, _ => rfl
 ·rw [adr_some, Nat.zero_add, h.cell]
  match i, hi, j, hj with
  | 0, _, 0, _ => rfl
  | 0, _, 1, _ => rfl
  | 0, _, 2, _ => rfl
  | 0, _, 3, _ => rfl
  | 1, _, 0, _ => rfl
  | 1, _, 1, _ => rfl
  | 1, _, 2, _ => rfl
  | 1, _, 3, _ => rfl
theorem sm_lay {V : World} {ga gb gc gd ge : Nat} {k1 k2 k3 k4 : RV} (h : Blk V ga 86 #[.int .i64 0, .bool k1.num.neg, .slice k1.num.A k1.num.k k1.num.c, .bool k1.den.neg, .slice k1.den.A k1.den.k k1.den.c, .int .i64 1, .bool k2.num.neg, .slice k2.num.A k2.num.k k2.num.c, .bool k2.den.neg, .slice k2.den.A k2.den.k k2.den.c] ∧ Blk V gb 86 #[.int .i64 1, .bool k3.num.neg, .slice k3.num.A k3.num.k k3.num.c, .bool k3.den.neg, .slice k3.den.A k3.den.k k3.den.c] ∧ Blk V gc 89 #[.slice (some ⟨ga, 0, none⟩) 2 2, .slice (some ⟨gb, 0, none⟩) 1 1] ∧ Blk V gd 30 #[.bool k4.num.neg, .slice k4.num.A k4.num.k k4.num.c, .bool k4.den.neg, .slice k4.den.A k4.den.k k4.den.c, .bool false, .slice none 0 0, .bool false, .slice none 0 0] ∧ Blk V ge 42 #[.int .u8 1, .slice (some ⟨gc, 0, none⟩) 2 2, .slice (some ⟨gd, 0, none⟩) 2 2, .int .i64 0, .int .i64 0, .int .i64 0, .int .i64 0, .int .i64 0, .int .i64 0, .int .i64 0, .int .i64 0, .slice none 0 0, .slice none 0 0, .int .u8 3, .slice none 0 0, .slice none 0 0, .int .i64 0, .int .i64 0, .int .i64 0, .int .i64 0, .int .i64 0, .int .i64 0, .int .i64 0, .int .i64 0, .slice none 0 0, .slice none 0 0] ∧ RatN k4 (Rat.divInt 1 2) V ∧ RatN k3 2 V ∧ RatN k2 (-1) V ∧ RatN k1 1 V ∧ True) : LsR 13 lacells LaN (some ⟨ge, 0, none⟩) [smA ga gb gc gd k1 k2 k3 k4, reL] V := by
 obtain ⟨b1, b2, b3, b4, b5, r4, r3, r2, r1, -⟩ := h
 refine ls2l (x := smA ga gb gc gd k1 k2 k3 k4) (y := reL) b5 (fun l hl => ?_)
 simp only [List.mem_cons, List.not_mem_nil, or_false] at hl
 rcases hl with rfl | rfl
 ·refine ⟨ls2v9 (x := ⟨some ⟨ga, 0, none⟩, 2, [⟨0, k1, 1⟩, ⟨1, k2, -1⟩]⟩) (y := ⟨some ⟨gb, 0, none⟩, 1, [⟨1, k3, 2⟩]⟩) b3 (fun v hv => ?_), ls2r (x := (k4, Rat.divInt 1 2)) (y := (zeroR, 0)) b4 r4 (zeroRN _), LsR.nil_ none, LsR.nil_ none⟩
  simp only [List.mem_cons, List.not_mem_nil, or_false] at hv
  rcases hv with rfl | rfl
  ·refine ls2t (x := ⟨0, k1, 1⟩) (y := ⟨1, k2, -1⟩) b1 (fun t ht => ?_)
   simp only [List.mem_cons, List.not_mem_nil, or_false] at ht
   rcases ht with rfl | rfl
   ·exact r1
   ·exact r2
  ·exact ls1t (x := ⟨1, k3, 2⟩) b2 r3
 ·exact reL_ok V
set_option maxRecDepth 100000 in
theorem small13_any (w : World) (hT : Tz w) : Calls Tryz.prog 23 #[] w (SmRes w) := by
 obtain ⟨W0, hW0⟩ : ∃ W0, W0 = (w.alloc (.cells #[.int .i64 0, .slice none 0 0] 24)) := ⟨_, rfl⟩
 have HE := Lib.hid (Env.lay1 (Env.start (hT.old)) hW0)
 subst hW0
 have c := Env.c1 HE.out
 clear hT
 go_enter Tryz.func23, Tryz.ntmps23
 go_wp2_with fail
 clear c
 refine (term13_any _ 0 (1) (1) (by decide +kernel) (by decide) (by decide) HE.out.o).mono ?_
 rintro e w1 ⟨k1, rfl, hk9, hb9⟩
 replace HE := Lib.hid (Env.ret HE.out hk9 hb9)
 clear hk9 hb9
 go_wp2_with fail
 refine (term13_any _ 1 (-1) (-1) (by decide +kernel) (by decide) (by decide) HE.out.o).mono ?_
 rintro e w2 ⟨k2, rfl, hk9, hb9⟩
 replace HE := Lib.hid (Env.ret HE.out hk9 hb9)
 clear hk9 hb9
 go_wp2_with fail
 obtain ⟨W4, ga, hW, hg, HE⟩ := Env.al HE.out 86 #[.int .i64 0, .bool k1.num.neg, .slice k1.num.A k1.num.k k1.num.c, .bool k1.den.neg, .slice k1.den.A k1.den.k k1.den.c, .int .i64 1, .bool k2.num.neg, .slice k2.num.A k2.num.k k2.num.c, .bool k2.den.neg, .slice k2.den.A k2.den.k k2.den.c]
 rw [hW, hg]
 clear hW hg
 refine (term13_any _ 1 (2) (2) (by decide +kernel) (by decide) (by decide) HE.out.o).mono ?_
 rintro e w3 ⟨k3, rfl, hk9, hb9⟩
 replace HE := Lib.hid (Env.ret HE.out hk9 hb9)
 clear hk9 hb9
 go_wp2_with fail
 obtain ⟨W6, hW6, HE3⟩ := Env.nm9 ((HE.out.new_ (g := w3.heap.size) rfl 86 #[.int .i64 1, .bool k3.num.neg, .slice k3.num.A k3.num.k k3.num.c, .bool k3.den.neg, .slice k3.den.A k3.den.k k3.den.c]).new_ (g := (w3.heap.size + 1)) (by simp) 89 #[.slice (some ⟨ga, 0, none⟩) 2 2, .slice (some ⟨w3.heap.size, 0, none⟩) 1 1])
 rw [hW6]
 clear hW6 HE
 have HE := HE3
 clear HE3
 refine (rof_any _ 1 2 (by decide) (by decide) (by decide) (by decide) HE.out.o).mono ?_
 rintro e w4 ⟨k4, rfl, hk9, hb9⟩
 replace HE := Lib.hid (Env.ret HE.out hk9 hb9)
 clear hk9 hb9
 have HE2 := Lib.hid ((HE.out.new_ (g := w4.heap.size) rfl 30 #[.bool k4.num.neg, .slice k4.num.A k4.num.k k4.num.c, .bool k4.den.neg, .slice k4.den.A k4.den.k k4.den.c, .bool false, .slice none 0 0, .bool false, .slice none 0 0]).new_ (g := (w4.heap.size + 1)) (by simp) 42 #[.int .u8 1, .slice (some ⟨(w3.heap.size + 1), 0, none⟩) 2 2, .slice (some ⟨w4.heap.size, 0, none⟩) 2 2, .int .i64 0, .int .i64 0, .int .i64 0, .int .i64 0, .int .i64 0, .int .i64 0, .int .i64 0, .int .i64 0, .slice none 0 0, .slice none 0 0, .int .u8 3, .slice none 0 0, .slice none 0 0, .int .i64 0, .int .i64 0, .int .i64 0, .int .i64 0, .int .i64 0, .int .i64 0, .int .i64 0, .int .i64 0, .slice none 0 0, .slice none 0 0])
 have c0 := (HE2.out.bx ⟨w.heap.size, 24, #[.int .i64 0, .slice none 0 0]⟩ (by simp)).cb
 go_wp2_with fail
 have hE := Env.put2_at [⟨(w4.heap.size + 1), 42, #[.int .u8 1, .slice (some ⟨(w3.heap.size + 1), 0, none⟩) 2 2, .slice (some ⟨w4.heap.size, 0, none⟩) 2 2, .int .i64 0, .int .i64 0, .int .i64 0, .int .i64 0, .int .i64 0, .int .i64 0, .int .i64 0, .int .i64 0, .slice none 0 0, .slice none 0 0, .int .u8 3, .slice none 0 0, .slice none 0 0, .int .i64 0, .int .i64 0, .int .i64 0, .int .i64 0, .int .i64 0, .int .i64 0, .int .i64 0, .int .i64 0, .slice none 0 0, .slice none 0 0]⟩, ⟨w4.heap.size, 30, #[.bool k4.num.neg, .slice k4.num.A k4.num.k k4.num.c, .bool k4.den.neg, .slice k4.den.A k4.den.k k4.den.c, .bool false, .slice none 0 0, .bool false, .slice none 0 0]⟩, ⟨(w3.heap.size + 1), 89, #[.slice (some ⟨ga, 0, none⟩) 2 2, .slice (some ⟨w3.heap.size, 0, none⟩) 1 1]⟩, ⟨w3.heap.size, 86, #[.int .i64 1, .bool k3.num.neg, .slice k3.num.A k3.num.k k3.num.c, .bool k3.den.neg, .slice k3.den.A k3.den.k k3.den.c]⟩, ⟨ga, 86, #[.int .i64 0, .bool k1.num.neg, .slice k1.num.A k1.num.k k1.num.c, .bool k1.den.neg, .slice k1.den.A k1.den.k k1.den.c, .int .i64 1, .bool k2.num.neg, .slice k2.num.A k2.num.k k2.num.c, .bool k2.den.neg, .slice k2.den.A k2.den.k k2.den.c]⟩] HE2.out (.int .i64 2) (.slice (some ⟨(w4.heap.size + 1), 0, none⟩) 2 2)
 have c9 := (hE.bx ⟨w.heap.size, 24, #[.int .i64 2, .slice (some ⟨(w4.heap.size + 1), 0, none⟩) 2 2]⟩ (by simp)).cb
 have hE2 := ((((hE.read).read).read).read).read
 exact bodyPost_ret (v := .agg #[.int .i64 2, .slice (some ⟨(w4.heap.size + 1), 0, none⟩) 2 2]) (by simp [results, Tryz.results23, go_sem, c9]) rfl ⟨(w4.heap.size + 1), smA ga w3.heap.size (w3.heap.size + 1) w4.heap.size k1 k2 k3 k4, rfl, rfl, (hE2.rsn.imp fun V h => sm_lay h).mono fun _ h => h.1, hE2.bel⟩
end Go.Proofs.YtplhmeiciiajcaaGreatDoor
namespace Go.Proofs.YtplhmeiciiajcaaGreatDoor
set_option maxHeartbeats 16000000
open Go.RowKit

theorem xs13 {xs : List (RV × Rat)} (h : xs.map Prod.snd = [1, 3]) : xs.length = 2 ∧ ∀ p ∈ xs, Sz p.2 1 := by
 refine ⟨by simpa using congrArg List.length h, fun p hp => ?_⟩
 have h1 : p.2 ∈ xs.map Prod.snd := List.mem_map_of_mem (f := Prod.snd) hp
 rw [h] at h1
 simp only [List.mem_cons, List.not_mem_nil, or_false] at h1
 rcases h1 with e | e <;> rw [e] <;> refine ⟨?_, ?_⟩ <;> decide +kernel
theorem sm_out {g : Nat} {l : LaV} {xs : List (RV × Rat)} (hq : [l, reL].map LaG.q = smQ) (h : xs.map Prod.snd = [1, 3]) (k : Nat) : outQ (smN g l) xs k = trAt smQ [1, 3] k := by
 unfold outQ
 rw [h]
 show trAt ([l, reL].map LaG.q) _ k = _
 rw [hq]
theorem sm_tr : trAt smQ [1, 3] 0 = [1, 3] ∧ trAt smQ [1, 3] 1 = [Rat.divInt (-3) 2, 6] ∧ trAt smQ [1, 3] 2 = [0, 6] := by decide +kernel
theorem three_of {α κ : Type} {f : α → κ} {ls : List α} {a b c : κ} (h : ls.map f = [a, b, c]) : ∃ x y z, ls = [x, y, z] ∧ f x = a ∧ f y = b ∧ f z = c := by
 have h1 := congrArg List.length h
 rw [List.length_map] at h1
 match ls, h1 with
 | [x, y, z], _ =>
  simp only [List.map_cons, List.map_nil, List.cons.injEq, and_true] at h
  exact ⟨x, y, z, rfl, h.1, h.2.1, h.2.2⟩
section
variable {V : World} {g cx : Nat} {l : LaV} {xs : List (RV × Rat)} {Ax : Option Addr} (hq : [l, reL].map LaG.q = smQ) (hL : LsR 13 lacells LaN (some ⟨g, 0, none⟩) [l, reL] V) (hX : LsR 4 rtcells roN Ax xs V) (hxs : xs.map Prod.snd = [1, 3]) (hT : Tz V)
include hq hL hX hxs hT
theorem trace13 : Calls Tryz.prog 16 #[.agg #[.int .i64 2, .slice (some ⟨g, 0, none⟩) 2 2], .slice Ax xs.length cx] V fun e V' => ∃ A c u0 u1 u2, e = .returned (.tuple #[.slice A 3 c, .int .i64 0]) ∧ RsV.q u0 = [1, 3] ∧ RsV.q u1 = [Rat.divInt (-3) 2, 6] ∧ RsV.q u2 = [0, 6] ∧ Rests V' (V.heap.size ≤ ·) (LsR 1 rscells rsN A [u0, u1, u2]) ∧ Below V.heap.size V V' := by
 obtain ⟨h2, hz⟩ := xs13 hxs
 have hS := sm_in (xs := xs) hq hL (by omega) hz
 have hN := sm_net (g := g) hq (hL.ok l (List.mem_cons_self ..))
 refine (tra_n (f := smN g l) (w := V) (nx := xs.length) hS hT hS.d (fun _ => Iff.rfl) (hX.imp fun p hp h => RatN.rat h (hz p hp)) rfl (nl := 2) rfl).mono ?_
 rintro e V' (⟨err, rfl, h, -⟩ | ⟨-, -, A, c, os, rfl, ho, hr, hb⟩)
 ·exact (ErrP.no h hN (by rw [h2]; rfl)).elim
 ·have e1 : (List.range ((smN g l).las.length + 1)).map (outQ (smN g l) xs) = [[1, 3], [Rat.divInt (-3) 2, 6], [0, 6]] := by
   show (List.range 3).map _ = _
   simp only [List.range_succ, List.range_zero, List.nil_append, List.cons_append, List.map_cons, List.map_nil, sm_out hq hxs, sm_tr.1, sm_tr.2.1, sm_tr.2.2]
  rw [e1] at ho
  obtain ⟨u0, u1, u2, rfl, qq0, qq1, qq2⟩ := three_of ho
  exact ⟨A, c, u0, u1, u2, rfl, qq0, qq1, qq2, hr, hb⟩
theorem score13 (m : Nat) (hm : m < 2) (z : Int) (hz0 : z = (m : Int)) : Calls Tryz.prog 24 #[.agg #[.int .i64 2, .slice (some ⟨g, 0, none⟩) 2 2], .slice Ax xs.length cx, .int .i64 z] V fun e V' => ∃ k : RV, e = .returned (.tuple #[.agg #[.bool k.num.neg, .slice k.num.A k.num.k k.num.c, .bool k.den.neg, .slice k.den.A k.den.k k.den.c], .int .i64 0]) ∧ Rests V' (V.heap.size ≤ ·) (RatN k (scoreQ [0, 6] m)) ∧ Below V.heap.size V V' := by
 subst hz0
 obtain ⟨h2, hz⟩ := xs13 hxs
 have hS := sm_in (xs := xs) hq hL (by omega) hz
 have hN := sm_net (g := g) hq (hL.ok l (List.mem_cons_self ..))
 have he : (smN g l).inputs = (xs.length : Int) := by rw [h2]; rfl
 have eo : trAt ((smN g l).las.map LaG.q) (xs.map Prod.snd) (smN g l).las.length = [0, 6] := by
  have := sm_out (g := g) hq hxs 2
  rw [sm_tr.2.2] at this
  exact this
 have ho := out_ok hS hN he 2 (Nat.le_refl 2)
 refine (score_any V 1 5000 (by decide) (by decide) (by decide) (smN g l) hS.d hS.s hT 2 rfl Ax cx xs xs.length (hX.imp fun p hp h => (RatN.rat h (hz p hp)).mono (by decide)) rfl (by omega) (fun h0 h1 i hi => hS.st h0 h1 i hi) (m : Int) (fun _ _ => ?_)).mono ?_
 ·have h1 := ho.1
  exact ⟨by show (outQ (smN g l) xs 2).length ≤ _; omega, ho.2.1⟩
 ·rintro e V' (⟨err, rfl, h, -⟩ | ⟨-, -, m', k, hm', -, -, rfl, hr, hb⟩)
  ·exfalso
   rcases h with (⟨h0, h⟩ | ⟨-, -, h⟩) | ⟨-, -, -, h⟩
   ·exact h0 (NetP.uniq h hN)
   ·rw [List.length_map] at h; exact h he
   ·rw [eo] at h
    rcases h with h | h | h
    ·exact absurd h (by decide)
    ·omega
    ·have : ((2 : Nat) : Int) ≤ (m : Int) := h
     omega
  ·obtain rfl : m = m' := by omega
   rw [eo] at hr
   exact ⟨k, rfl, hr, hb⟩
end
theorem sc6 : scoreQ [0, 6] 1 = 6 ∧ scoreQ [0, 6] 0 = -6 := by decide +kernel
theorem text6 : ratText 6 = [54] ∧ ratText (-6) = [45, 54] := by decide +kernel
theorem ls3rs {W : World} {A : Option Addr} {u0 u1 u2 : RsV} (h : LsR 1 rscells rsN A [u0, u1, u2] W) : W.cell? (adr A 0) = some (.slice u0.A u0.l.length u0.c) ∧ W.cell? (adr A 1) = some (.slice u1.A u1.l.length u1.c) ∧ W.cell? (adr A 2) = some (.slice u2.A u2.l.length u2.c) :=
 ⟨h.rsc 0 (show 0 < 3 by decide), h.rsc 1 (show 1 < 3 by decide), h.rsc 2 (show 2 < 3 by decide)⟩
theorem small_sz {q : Rat} (h : q = 1 ∨ q = 3 ∨ q = Rat.divInt (-3) 2 ∨ q = 6 ∨ q = 0 ∨ q = -6) : Sz q 1 := by
 rcases h with rfl | rfl | rfl | rfl | rfl | rfl <;> refine ⟨?_, ?_⟩ <;> decide +kernel
theorem u_ok {u : RsV} {a b : Rat} (h : u.q = [a, b]) (ha : Sz a 1) (hb : Sz b 1) : u.l.length ≤ 1000000 ∧ ∀ q ∈ u.q, Sz q 5000 := by
 have h1 : u.q.length = u.l.length := List.length_map ..
 rw [h] at h1
 refine ⟨by rw [← h1]; exact (show 2 ≤ 1000000 by decide), fun q hq => ?_⟩
 rw [h] at hq
 simp only [List.mem_cons, List.not_mem_nil, or_false] at hq
 rcases hq with rfl | rfl
 ·exact ha.up (by decide)
 ·exact hb.up (by decide)
set_option maxRecDepth 100000 in
theorem awake13_any (w : World) (hT : Tz w) (ht : Tab w) : Calls Tryz.prog 11 #[] w fun e w' => e = .returned (.bool true) ∧ Below w.heap.size w w' := by
 have HE := Lib.hid (Env.start ((hT.old).and (ht.old)))
 clear hT ht
 go_enter Tryz.func11, Tryz.ntmps11
 go_wp2_with fail
 refine (small13_any _ HE.out.o.1).mono ?_
 rintro e wa1 ⟨g1, l1, rfl, hq9, hk9, hb9⟩
 have Hq1 := Lib.hid hq9
 replace HE := Lib.hid (Env.ret HE.out hk9 hb9)
 clear hq9 hk9 hb9
 go_wp2_with fail
 obtain ⟨Wb1, gi1, hW, hg, HE⟩ := Env.al HE.out 2 #[.int .i64 1, .int .i64 3]
 rw [hW, hg]
 clear hW hg
 refine (whole13_any _ (some ⟨gi1, 0, none⟩) 2 [1, 3] (li2 (HE.out.bx ⟨gi1, 2, #[.int .i64 1, .int .i64 3]⟩ (by simp)) (fun _ _ => trivial)) (by decide) (by decide) HE.out.o.1 2 rfl).mono ?_
 rintro e wc1 ⟨A1, c1, x1, rfl, -, hx9, hk9, hb9⟩
 have Hx1 := Lib.hid (show x1.map Prod.snd = [1, 3] from hx9.trans (by decide +kernel))
 replace HE := Lib.hid (Env.ret HE.out hk9 hb9)
 clear hx9 hk9 hb9
 go_wp2_with fail
 refine (trace13 Hq1.out HE.out.n.2.1 HE.out.n.1 Hx1.out HE.out.o.1).mono ?_
 rintro e w2 ⟨A9, c9, u0, u1, u2, rfl, qq0, qq1, qq2, hk9, hb9⟩
 have Q0 := Lib.hid qq0
 have Q1 := Lib.hid qq1
 have Q2 := Lib.hid qq2
 replace HE := Lib.hid ((Env.ret HE.out hk9 hb9).imp (φ := fun V => Tz V ∧ Tab V) (ψ := fun V => LsR 1 rscells rsN A9 [u0, u1, u2] V) (fun _ h => h) (fun _ h => h.1))
 clear qq0 qq1 qq2 hk9 hb9 Hq1 Hx1
 go_wp2_with fail
 refine (small13_any _ HE.out.o.1).mono ?_
 rintro e wa2 ⟨g2, l2, rfl, hq9, hk9, hb9⟩
 have Hq2 := Lib.hid hq9
 replace HE := Lib.hid (Env.ret HE.out hk9 hb9)
 clear hq9 hk9 hb9
 go_wp2_with fail
 obtain ⟨Wb2, gi2, hW, hg, HE⟩ := Env.al HE.out 2 #[.int .i64 1, .int .i64 3]
 rw [hW, hg]
 clear hW hg
 refine (whole13_any _ (some ⟨gi2, 0, none⟩) 2 [1, 3] (li2 (HE.out.bx ⟨gi2, 2, #[.int .i64 1, .int .i64 3]⟩ (by simp)) (fun _ _ => trivial)) (by decide) (by decide) HE.out.o.1 2 rfl).mono ?_
 rintro e wc2 ⟨A2, c2, x2, rfl, -, hx9, hk9, hb9⟩
 have Hx2 := Lib.hid (show x2.map Prod.snd = [1, 3] from hx9.trans (by decide +kernel))
 replace HE := Lib.hid (Env.ret HE.out hk9 hb9)
 clear hx9 hk9 hb9
 go_wp2_with fail
 refine (score13 Hq2.out HE.out.n.2.1 HE.out.n.1 Hx2.out HE.out.o.1 1 (by decide) 1 rfl).mono ?_
 rintro e w3 ⟨k5, rfl, hk9, hb9⟩
 rw [sc6.1] at hk9
 replace HE := Lib.hid ((Env.ret HE.out hk9 hb9).imp (φ := fun V => Tz V ∧ Tab V) (ψ := fun V => RatN k5 6 V ∧ LsR 1 rscells rsN A9 [u0, u1, u2] V) (fun _ h => h) (fun _ h => ⟨h.1, h.2.2.2⟩))
 clear hk9 hb9 Hq2 Hx2
 go_wp2_with fail
 obtain ⟨W5, g5, hW, hg, HE⟩ := Env.al HE.out 30 #[.bool k5.num.neg, .slice k5.num.A k5.num.k k5.num.c, .bool k5.den.neg, .slice k5.den.A k5.den.k k5.den.c]
 rw [hW, hg]
 clear hW hg
 refine (small13_any _ HE.out.o.1).mono ?_
 rintro e wa3 ⟨g3, l3, rfl, hq9, hk9, hb9⟩
 have Hq3 := Lib.hid hq9
 replace HE := Lib.hid (Env.ret HE.out hk9 hb9)
 clear hq9 hk9 hb9
 go_wp2_with fail
 obtain ⟨Wb3, gi3, hW, hg, HE⟩ := Env.al HE.out 2 #[.int .i64 1, .int .i64 3]
 rw [hW, hg]
 clear hW hg
 refine (whole13_any _ (some ⟨gi3, 0, none⟩) 2 [1, 3] (li2 (HE.out.bx ⟨gi3, 2, #[.int .i64 1, .int .i64 3]⟩ (by simp)) (fun _ _ => trivial)) (by decide) (by decide) HE.out.o.1 2 rfl).mono ?_
 rintro e wc3 ⟨A3, c3, x3, rfl, -, hx9, hk9, hb9⟩
 have Hx3 := Lib.hid (show x3.map Prod.snd = [1, 3] from hx9.trans (by decide +kernel))
 replace HE := Lib.hid (Env.ret HE.out hk9 hb9)
 clear hx9 hk9 hb9
 go_wp2_with fail
 refine (score13 Hq3.out HE.out.n.2.1 HE.out.n.1 Hx3.out HE.out.o.1 0 (by decide) 0 rfl).mono ?_
 rintro e w4 ⟨k6, rfl, hk9, hb9⟩
 rw [sc6.2] at hk9
 replace HE := Lib.hid ((Env.ret HE.out hk9 hb9).imp (φ := fun V => Tz V ∧ Tab V) (ψ := fun V => RatN k6 (-6) V ∧ RatN k5 6 V ∧ LsR 1 rscells rsN A9 [u0, u1, u2] V) (fun _ h => h) (fun _ h => ⟨h.1, h.2.2.2⟩))
 clear hk9 hb9 Hq3 Hx3
 go_upto_region 6 with fail
 obtain ⟨W6, g6, hW, hg, HE⟩ := Env.al HE.out 30 #[.bool k6.num.neg, .slice k6.num.A k6.num.k k6.num.c, .bool k6.den.neg, .slice k6.den.A k6.den.k k6.den.c]
 rw [hW, hg]
 clear hW hg
 go_upto_region 7 with fail
 have HBl := Lib.hid HE.out.bel
 replace HE := Lib.hid ((Env.rebase9 (((((HE.out.read).read).read).read).read)).imp (φ := (fun V => CB g5 #[.bool k5.num.neg, .slice k5.num.A k5.num.k k5.num.c, .bool k5.den.neg, .slice k5.den.A k5.den.k k5.den.c] V ∧ CB g6 #[.bool k6.num.neg, .slice k6.num.A k6.num.k k6.num.c, .bool k6.den.neg, .slice k6.den.A k6.den.k k6.den.c] V ∧ RatN k6 (-6) V ∧ RatN k5 6 V ∧ LsR 1 rscells rsN A9 [u0, u1, u2] V ∧ Tz V ∧ Tab V)) (ψ := fun _ => True) (fun V h => ⟨Blk.cb h.2.2.2.1, Blk.cb h.2.2.2.2.2.1, h.2.2.2.2.2.2.1, h.2.2.2.2.2.2.2.1, h.2.2.2.2.2.2.2.2, h.1⟩) (fun _ h => h))
 have hadd := adr_add
 have szs := size_rs9
 have sl9 : Sl A9 3 := HE.out.o.2.2.2.2.1.sl
 refine wp_region_noPanic ?_
 refine wp_region_held_drew (S := (fun V => CB g5 #[.bool k5.num.neg, .slice k5.num.A k5.num.k k5.num.c, .bool k5.den.neg, .slice k5.den.A k5.den.k k5.den.c] V ∧ CB g6 #[.bool k6.num.neg, .slice k6.num.A k6.num.k k6.num.c, .bool k6.den.neg, .slice k6.den.A k6.den.k k6.den.c] V ∧ W9 V A9 0 u0 ∧ W9 V A9 1 u1 ∧ W9 V A9 2 u2)) (by kernel_rfl) (by first | exact ⟨HE.out.o.1, HE.out.o.2.1, (ls3rs HE.out.o.2.2.2.2.1).1, (ls3rs HE.out.o.2.2.2.2.1).2.1, (ls3rs HE.out.o.2.2.2.2.1).2.2⟩ | exact ⟨HE.out.drew.o.1, HE.out.drew.o.2.1, (ls3rs HE.out.drew.o.2.2.2.2.1).1, (ls3rs HE.out.drew.o.2.2.2.2.1).2.1, (ls3rs HE.out.drew.o.2.2.2.2.1).2.2⟩) (fun hHeld => ?_)
 obtain ⟨Wd, hWd, HE⟩ := Env.dr HE.out
 rw [hWd] at hHeld ⊢
 clear hWd
 refine held_take (i := 0) (v := ?_) (some 36) rfl rfl (by kernel_rfl) (by kernel_rfl) (by kernel_rfl) (fun _ _ _ h => h) (Or.inl ⟨by rfl, ?_⟩) hHeld ?_
 rotate_left 1
 ·intro w hSw
  (try dsimp only at hSw)
  (first | (go_simp; done) | (go_simp; with_reducible rfl))
 (try simp only [Act.put, List.setIfInBounds_toArray, List.set_cons_zero, List.set_cons_succ])
 refine held_take (i := 1) (v := ?_) (some 37) rfl rfl (by kernel_rfl) (by kernel_rfl) (by kernel_rfl) (fun _ _ _ h => h) (Or.inl ⟨by rfl, ?_⟩) hHeld ?_
 rotate_left 1
 ·intro w hSw
  (try dsimp only at hSw)
  (first | (go_simp; done) | (go_simp; with_reducible rfl))
 (try simp only [Act.put, List.setIfInBounds_toArray, List.set_cons_zero, List.set_cons_succ])
 refine held_take (i := 2) (v := ?_) (some 38) rfl rfl (by kernel_rfl) (by kernel_rfl) (by kernel_rfl) (fun _ _ _ h => h) (Or.inl ⟨by rfl, ?_⟩) hHeld ?_
 rotate_left 1
 ·intro w hSw
  (try dsimp only at hSw)
  (first | (go_simp; done) | (go_simp; with_reducible rfl))
 (try simp only [Act.put, List.setIfInBounds_toArray, List.set_cons_zero, List.set_cons_succ])
 refine held_take (i := 3) (v := ?_) (some 39) rfl rfl (by kernel_rfl) (by kernel_rfl) (by kernel_rfl) (fun _ _ _ h => h) (Or.inl ⟨by rfl, ?_⟩) hHeld ?_
 rotate_left 1
 ·intro w hSw
  (try dsimp only at hSw)
  (first | (go_simp; done) | (go_simp; with_reducible rfl))
 (try simp only [Act.put, List.setIfInBounds_toArray, List.set_cons_zero, List.set_cons_succ])
 refine held_take (i := 4) (v := ?_) (some 40) rfl rfl (by kernel_rfl) (by kernel_rfl) (by kernel_rfl) (fun _ _ _ h => h) (Or.inl ⟨by rfl, ?_⟩) hHeld ?_
 rotate_left 1
 ·intro w hSw
  (try dsimp only at hSw)
  (first | (go_simp; done) | (go_simp; with_reducible rfl))
 (try simp only [Act.put, List.setIfInBounds_toArray, List.set_cons_zero, List.set_cons_succ])
 refine held_take (i := 5) (v := ?_) (some 41) rfl rfl (by kernel_rfl) (by kernel_rfl) (by kernel_rfl) (fun _ _ _ h => h) (Or.inl ⟨by rfl, ?_⟩) hHeld ?_
 rotate_left 1
 ·intro w hSw
  (try dsimp only at hSw)
  (first | (go_simp; done) | (go_simp; with_reducible rfl))
 (try simp only [Act.put, List.setIfInBounds_toArray, List.set_cons_zero, List.set_cons_succ])
 refine held_take (i := 6) (v := ?_) (some 42) rfl rfl (by kernel_rfl) (by kernel_rfl) (by kernel_rfl) (fun _ _ _ h => h) (Or.inl ⟨by rfl, ?_⟩) hHeld ?_
 rotate_left 1
 ·intro w hSw
  (try dsimp only at hSw)
  (first | (go_simp; done) | (go_simp; with_reducible rfl))
 (try simp only [Act.put, List.setIfInBounds_toArray, List.set_cons_zero, List.set_cons_succ])
 refine held_take (i := 7) (v := ?_) (some 43) rfl rfl (by kernel_rfl) (by kernel_rfl) (by kernel_rfl) (fun _ _ _ h => h) (Or.inl ⟨by rfl, ?_⟩) hHeld ?_
 rotate_left 1
 ·intro w hSw
  (try dsimp only at hSw)
  (first | (go_simp; done) | (go_simp; with_reducible rfl))
 (try simp only [Act.put, List.setIfInBounds_toArray, List.set_cons_zero, List.set_cons_succ])
 refine held_take (i := 8) (v := ?_) (some 44) rfl rfl (by kernel_rfl) (by kernel_rfl) (by kernel_rfl) (fun _ _ _ h => h) (Or.inl ⟨by rfl, ?_⟩) hHeld ?_
 rotate_left 1
 ·intro w hSw
  (try dsimp only at hSw)
  (first | (go_simp; done) | (go_simp; with_reducible rfl))
 (try simp only [Act.put, List.setIfInBounds_toArray, List.set_cons_zero, List.set_cons_succ])
 refine held_take (i := 9) (v := ?_) (some 45) rfl rfl (by kernel_rfl) (by kernel_rfl) (by kernel_rfl) (fun _ _ _ h => h) (Or.inl ⟨by rfl, ?_⟩) hHeld ?_
 rotate_left 1
 ·intro w hSw
  (try dsimp only at hSw)
  (first | (go_simp; done) | (go_simp; with_reducible rfl))
 (try simp only [Act.put, List.setIfInBounds_toArray, List.set_cons_zero, List.set_cons_succ])
 refine held_take (i := 10) (v := ?_) (some 46) rfl rfl (by kernel_rfl) (by kernel_rfl) (by kernel_rfl) (fun _ _ _ h => h) (Or.inl ⟨by rfl, ?_⟩) hHeld ?_
 rotate_left 1
 ·intro w hSw
  (try dsimp only at hSw)
  (first | (go_simp; done) | (go_simp; with_reducible rfl))
 (try simp only [Act.put, List.setIfInBounds_toArray, List.set_cons_zero, List.set_cons_succ])
 refine held_call (i := 11) rfl (by kernel_rfl) (by rfl) (fun K hK => ?_)
 clear hHeld
 simp only [List.getElem_toArray, List.getElem_cons_succ, List.getElem_cons_zero]
 go_simp
 (try (go_wp2_with fail))
 obtain ⟨W8, gi4, hW, hg, HE⟩ := Env.al HE.out 2 #[.int .i64 1, .int .i64 3]
 rw [hW, hg]
 clear hW hg
 (try (go_wp2_with fail))
 refine hK.out _ _ (by first | exact ⟨HE.out.o.1, HE.out.o.2.1, (ls3rs HE.out.o.2.2.2.2.1).1, (ls3rs HE.out.o.2.2.2.2.1).2.1, (ls3rs HE.out.o.2.2.2.2.1).2.2⟩ | exact ⟨HE.out.drew.o.1, HE.out.drew.o.2.1, (ls3rs HE.out.drew.o.2.2.2.2.1).1, (ls3rs HE.out.drew.o.2.2.2.2.1).2.1, (ls3rs HE.out.drew.o.2.2.2.2.1).2.2⟩) (fun hHeld => ?_)
 clear hK K
 (try simp only [Act.put, List.setIfInBounds_toArray, List.set_cons_zero, List.set_cons_succ])
 refine held_call (i := 12) rfl (by kernel_rfl) (by rfl) (fun K hK => ?_)
 clear hHeld
 simp only [List.getElem_toArray, List.getElem_cons_succ, List.getElem_cons_zero]
 go_simp
 refine (whole13_any _ (some ⟨gi4, 0, none⟩) 2 [1, 3] (li2 (HE.out.bx ⟨gi4, 2, #[.int .i64 1, .int .i64 3]⟩ (by simp)) (fun _ _ => trivial)) (by decide) (by decide) HE.out.o.2.2.2.2.2.1 2 rfl).mono ?_
 rintro e w9 ⟨A4, c4, x4, rfl, -, hx9, hk9, hb9⟩
 have Hx4 := Lib.hid (show x4.map Prod.snd = [1, 3] from hx9.trans (by decide +kernel))
 replace HE := Lib.hid (Env.ret HE.out hk9 hb9)
 clear hx9 hk9 hb9
 (try (go_wp2_with fail))
 refine hK.out _ _ (by first | exact ⟨HE.out.o.1, HE.out.o.2.1, (ls3rs HE.out.o.2.2.2.2.1).1, (ls3rs HE.out.o.2.2.2.2.1).2.1, (ls3rs HE.out.o.2.2.2.2.1).2.2⟩ | exact ⟨HE.out.drew.o.1, HE.out.drew.o.2.1, (ls3rs HE.out.drew.o.2.2.2.2.1).1, (ls3rs HE.out.drew.o.2.2.2.2.1).2.1, (ls3rs HE.out.drew.o.2.2.2.2.1).2.2⟩) (fun hHeld => ?_)
 clear hK K
 (try simp only [Act.put, List.setIfInBounds_toArray, List.set_cons_zero, List.set_cons_succ])
 refine held_call (i := 13) rfl (by kernel_rfl) (by rfl) (fun K hK => ?_)
 clear hHeld
 simp only [List.getElem_toArray, List.getElem_cons_succ, List.getElem_cons_zero]
 go_simp
 refine (rats_say _ u0 ⟨A4, c4, x4⟩ (HE.out.o.2.2.2.2.1.ok u0 (by simp)) HE.out.n.1 (Q0.out.trans Hx4.out.symm) (u_ok Q0.out (small_sz (.inl rfl)) (small_sz (.inr (.inl rfl)))).1 (u_ok Q0.out (small_sz (.inl rfl)) (small_sz (.inr (.inl rfl)))).2).mono ?_
 rintro e w8 ⟨rfl, hb⟩
 replace HE := Lib.hid (Env.call HE.out hb)
 clear hb
 (try (go_wp2_with fail))
 refine hK.out _ _ (by first | exact ⟨HE.out.o.1, HE.out.o.2.1, (ls3rs HE.out.o.2.2.2.2.1).1, (ls3rs HE.out.o.2.2.2.2.1).2.1, (ls3rs HE.out.o.2.2.2.2.1).2.2⟩ | exact ⟨HE.out.drew.o.1, HE.out.drew.o.2.1, (ls3rs HE.out.drew.o.2.2.2.2.1).1, (ls3rs HE.out.drew.o.2.2.2.2.1).2.1, (ls3rs HE.out.drew.o.2.2.2.2.1).2.2⟩) (fun hHeld => ?_)
 clear hK K
 (try simp only [Act.put, List.setIfInBounds_toArray, List.set_cons_zero, List.set_cons_succ])
 refine held_take (i := 14) (v := ?_) (some 50) rfl rfl (by kernel_rfl) (by kernel_rfl) (by kernel_rfl) (fun _ _ _ h => h) (Or.inl ⟨by rfl, ?_⟩) hHeld ?_
 rotate_left 1
 ·intro w hSw
  (try dsimp only at hSw)
  (first | (go_simp; done) | (go_simp; with_reducible rfl))
 (try simp only [Act.put, List.setIfInBounds_toArray, List.set_cons_zero, List.set_cons_succ])
 refine held_take (i := 15) (v := ?_) (some 51) rfl rfl (by kernel_rfl) (by kernel_rfl) (by kernel_rfl) (fun _ _ _ h => h) (Or.inl ⟨by rfl, ?_⟩) hHeld ?_
 rotate_left 1
 ·intro w hSw
  (try dsimp only at hSw)
  (first | (go_simp; done) | (go_simp; with_reducible rfl))
 (try simp only [Act.put, List.setIfInBounds_toArray, List.set_cons_zero, List.set_cons_succ])
 refine held_take (i := 16) (v := ?_) (some 52) rfl rfl (by kernel_rfl) (by kernel_rfl) (by kernel_rfl) (fun _ _ _ h => h) (Or.inl ⟨by rfl, ?_⟩) hHeld ?_
 rotate_left 1
 ·intro w hSw
  (try dsimp only at hSw)
  (first | (go_simp; done) | (go_simp; with_reducible rfl))
 (try simp only [Act.put, List.setIfInBounds_toArray, List.set_cons_zero, List.set_cons_succ])
 refine held_take (i := 17) (v := ?_) (some 53) rfl rfl (by kernel_rfl) (by kernel_rfl) (by kernel_rfl) (fun _ _ _ h => h) (Or.inl ⟨by rfl, ?_⟩) hHeld ?_
 rotate_left 1
 ·intro w hSw
  (try dsimp only at hSw)
  (first | (go_simp; done) | (go_simp; with_reducible rfl))
 (try simp only [Act.put, List.setIfInBounds_toArray, List.set_cons_zero, List.set_cons_succ])
 refine held_take (i := 18) (v := ?_) (some 54) rfl rfl (by kernel_rfl) (by kernel_rfl) (by kernel_rfl) (fun _ _ _ h => h) (Or.inl ⟨by rfl, ?_⟩) hHeld ?_
 rotate_left 1
 ·intro w hSw
  (try dsimp only at hSw)
  (first | (go_simp; done) | (go_simp; with_reducible rfl))
 (try simp only [Act.put, List.setIfInBounds_toArray, List.set_cons_zero, List.set_cons_succ])
 refine held_take (i := 19) (v := ?_) (some 55) rfl rfl (by kernel_rfl) (by kernel_rfl) (by kernel_rfl) (fun _ _ _ h => h) (Or.inl ⟨by rfl, ?_⟩) hHeld ?_
 rotate_left 1
 ·intro w hSw
  (try dsimp only at hSw)
  (first | (go_simp; done) | (go_simp; with_reducible rfl))
 (try simp only [Act.put, List.setIfInBounds_toArray, List.set_cons_zero, List.set_cons_succ])
 refine held_call (i := 20) rfl (by kernel_rfl) (by rfl) (fun K hK => ?_)
 clear hHeld
 simp only [List.getElem_toArray, List.getElem_cons_succ, List.getElem_cons_zero]
 go_simp
 refine (rof_any _ (-3) 2 (by decide) (by decide) (by decide) (by decide) HE.out.o.2.2.2.2.2.1).mono ?_
 rintro e w9 ⟨k7, rfl, hk9, hb9⟩
 replace HE := Lib.hid (Env.ret HE.out hk9 hb9)
 clear hk9 hb9
 (try (go_wp2_with fail))
 refine hK.out _ _ (by first | exact ⟨HE.out.o.1, HE.out.o.2.1, (ls3rs HE.out.o.2.2.2.2.1).1, (ls3rs HE.out.o.2.2.2.2.1).2.1, (ls3rs HE.out.o.2.2.2.2.1).2.2⟩ | exact ⟨HE.out.drew.o.1, HE.out.drew.o.2.1, (ls3rs HE.out.drew.o.2.2.2.2.1).1, (ls3rs HE.out.drew.o.2.2.2.2.1).2.1, (ls3rs HE.out.drew.o.2.2.2.2.1).2.2⟩) (fun hHeld => ?_)
 clear hK K
 (try simp only [Act.put, List.setIfInBounds_toArray, List.set_cons_zero, List.set_cons_succ])
 refine held_call (i := 21) rfl (by kernel_rfl) (by rfl) (fun K hK => ?_)
 clear hHeld
 simp only [List.getElem_toArray, List.getElem_cons_succ, List.getElem_cons_zero]
 go_simp
 refine (rof_any _ 6 1 (by decide) (by decide) (by decide) (by decide) HE.out.o.2.2.2.2.2.1).mono ?_
 rintro e w9 ⟨k8, rfl, hk9, hb9⟩
 replace HE := Lib.hid (Env.ret HE.out hk9 hb9)
 clear hk9 hb9
 (try (go_wp2_with fail))
 refine hK.out _ _ (by first | exact ⟨HE.out.o.1, HE.out.o.2.1, (ls3rs HE.out.o.2.2.2.2.1).1, (ls3rs HE.out.o.2.2.2.2.1).2.1, (ls3rs HE.out.o.2.2.2.2.1).2.2⟩ | exact ⟨HE.out.drew.o.1, HE.out.drew.o.2.1, (ls3rs HE.out.drew.o.2.2.2.2.1).1, (ls3rs HE.out.drew.o.2.2.2.2.1).2.1, (ls3rs HE.out.drew.o.2.2.2.2.1).2.2⟩) (fun hHeld => ?_)
 clear hK K
 (try simp only [Act.put, List.setIfInBounds_toArray, List.set_cons_zero, List.set_cons_succ])
 refine held_call (i := 22) rfl (by kernel_rfl) (by rfl) (fun K hK => ?_)
 clear hHeld
 simp only [List.getElem_toArray, List.getElem_cons_succ, List.getElem_cons_zero]
 go_simp
 (try (go_wp2_with fail))
 obtain ⟨W8, gr, hW, hg, HE⟩ := Env.al HE.out 30 #[.bool k7.num.neg, .slice k7.num.A k7.num.k k7.num.c, .bool k7.den.neg, .slice k7.den.A k7.den.k k7.den.c, .bool k8.num.neg, .slice k8.num.A k8.num.k k8.num.c, .bool k8.den.neg, .slice k8.den.A k8.den.k k8.den.c]
 rw [hW, hg]
 clear hW hg
 (try (go_wp2_with fail))
 refine hK.out _ _ (by first | exact ⟨HE.out.o.1, HE.out.o.2.1, (ls3rs HE.out.o.2.2.2.2.1).1, (ls3rs HE.out.o.2.2.2.2.1).2.1, (ls3rs HE.out.o.2.2.2.2.1).2.2⟩ | exact ⟨HE.out.drew.o.1, HE.out.drew.o.2.1, (ls3rs HE.out.drew.o.2.2.2.2.1).1, (ls3rs HE.out.drew.o.2.2.2.2.1).2.1, (ls3rs HE.out.drew.o.2.2.2.2.1).2.2⟩) (fun hHeld => ?_)
 clear hK K
 (try simp only [Act.put, List.setIfInBounds_toArray, List.set_cons_zero, List.set_cons_succ])
 refine held_call (i := 23) rfl (by kernel_rfl) (by rfl) (fun K hK => ?_)
 clear hHeld
 simp only [List.getElem_toArray, List.getElem_cons_succ, List.getElem_cons_zero]
 go_simp
 refine (rats_say _ u1 ⟨some ⟨gr, 0, none⟩, 2, [(k7, Rat.divInt (-3) 2), (k8, Rat.divInt 6 1)]⟩ (HE.out.o.2.2.2.2.1.ok u1 (by simp)) (show LsR 4 rtcells roN (some ⟨gr, 0, none⟩) [(k7, Rat.divInt (-3) 2), (k8, Rat.divInt 6 1)] _ from ls2r (x := (k7, Rat.divInt (-3) 2)) (y := (k8, Rat.divInt 6 1)) (HE.out.bx ⟨gr, 30, #[.bool k7.num.neg, .slice k7.num.A k7.num.k k7.num.c, .bool k7.den.neg, .slice k7.den.A k7.den.k k7.den.c, .bool k8.num.neg, .slice k8.num.A k8.num.k k8.num.c, .bool k8.den.neg, .slice k8.den.A k8.den.k k8.den.c]⟩ (by simp)) HE.out.n.2.1 HE.out.n.1) (Q1.out.trans (show ([Rat.divInt (-3) 2, 6] : List Rat) = [Rat.divInt (-3) 2, Rat.divInt 6 1] by decide +kernel)) (u_ok Q1.out (small_sz (.inr (.inr (.inl rfl)))) (small_sz (.inr (.inr (.inr (.inl rfl)))))).1 (u_ok Q1.out (small_sz (.inr (.inr (.inl rfl)))) (small_sz (.inr (.inr (.inr (.inl rfl)))))).2).mono ?_
 rintro e w8 ⟨rfl, hb⟩
 replace HE := Lib.hid (Env.call HE.out hb)
 clear hb
 (try (go_wp2_with fail))
 refine hK.out _ _ (by first | exact ⟨HE.out.o.1, HE.out.o.2.1, (ls3rs HE.out.o.2.2.2.2.1).1, (ls3rs HE.out.o.2.2.2.2.1).2.1, (ls3rs HE.out.o.2.2.2.2.1).2.2⟩ | exact ⟨HE.out.drew.o.1, HE.out.drew.o.2.1, (ls3rs HE.out.drew.o.2.2.2.2.1).1, (ls3rs HE.out.drew.o.2.2.2.2.1).2.1, (ls3rs HE.out.drew.o.2.2.2.2.1).2.2⟩) (fun hHeld => ?_)
 clear hK K
 (try simp only [Act.put, List.setIfInBounds_toArray, List.set_cons_zero, List.set_cons_succ])
 refine held_take (i := 24) (v := ?_) (some 60) rfl rfl (by kernel_rfl) (by kernel_rfl) (by kernel_rfl) (fun _ _ _ h => h) (Or.inl ⟨by rfl, ?_⟩) hHeld ?_
 rotate_left 1
 ·intro w hSw
  (try dsimp only at hSw)
  (first | (go_simp; done) | (go_simp; with_reducible rfl))
 (try simp only [Act.put, List.setIfInBounds_toArray, List.set_cons_zero, List.set_cons_succ])
 refine held_take (i := 25) (v := ?_) (some 61) rfl rfl (by kernel_rfl) (by kernel_rfl) (by kernel_rfl) (fun _ _ _ h => h) (Or.inl ⟨by rfl, ?_⟩) hHeld ?_
 rotate_left 1
 ·intro w hSw
  (try dsimp only at hSw)
  (first | (go_simp; done) | (go_simp; with_reducible rfl))
 (try simp only [Act.put, List.setIfInBounds_toArray, List.set_cons_zero, List.set_cons_succ])
 refine held_take (i := 26) (v := ?_) (some 62) rfl rfl (by kernel_rfl) (by kernel_rfl) (by kernel_rfl) (fun _ _ _ h => h) (Or.inl ⟨by rfl, ?_⟩) hHeld ?_
 rotate_left 1
 ·intro w hSw
  (try dsimp only at hSw)
  (first | (go_simp; done) | (go_simp; with_reducible rfl))
 (try simp only [Act.put, List.setIfInBounds_toArray, List.set_cons_zero, List.set_cons_succ])
 refine held_take (i := 27) (v := ?_) (some 63) rfl rfl (by kernel_rfl) (by kernel_rfl) (by kernel_rfl) (fun _ _ _ h => h) (Or.inl ⟨by rfl, ?_⟩) hHeld ?_
 rotate_left 1
 ·intro w hSw
  (try dsimp only at hSw)
  (first | (go_simp; done) | (go_simp; with_reducible rfl))
 (try simp only [Act.put, List.setIfInBounds_toArray, List.set_cons_zero, List.set_cons_succ])
 refine held_take (i := 28) (v := ?_) (some 64) rfl rfl (by kernel_rfl) (by kernel_rfl) (by kernel_rfl) (fun _ _ _ h => h) (Or.inl ⟨by rfl, ?_⟩) hHeld ?_
 rotate_left 1
 ·intro w hSw
  (try dsimp only at hSw)
  (first | (go_simp; done) | (go_simp; with_reducible rfl))
 (try simp only [Act.put, List.setIfInBounds_toArray, List.set_cons_zero, List.set_cons_succ])
 refine held_take (i := 29) (v := ?_) (some 65) rfl rfl (by kernel_rfl) (by kernel_rfl) (by kernel_rfl) (fun _ _ _ h => h) (Or.inl ⟨by rfl, ?_⟩) hHeld ?_
 rotate_left 1
 ·intro w hSw
  (try dsimp only at hSw)
  (first | (go_simp; done) | (go_simp; with_reducible rfl))
 (try simp only [Act.put, List.setIfInBounds_toArray, List.set_cons_zero, List.set_cons_succ])
 refine held_call (i := 30) rfl (by kernel_rfl) (by rfl) (fun K hK => ?_)
 clear hHeld
 simp only [List.getElem_toArray, List.getElem_cons_succ, List.getElem_cons_zero]
 go_simp
 (try (go_wp2_with fail))
 obtain ⟨W8, gi5, hW, hg, HE⟩ := Env.al HE.out 2 #[.int .i64 0, .int .i64 6]
 rw [hW, hg]
 clear hW hg
 (try (go_wp2_with fail))
 refine hK.out _ _ (by first | exact ⟨HE.out.o.1, HE.out.o.2.1, (ls3rs HE.out.o.2.2.2.2.1).1, (ls3rs HE.out.o.2.2.2.2.1).2.1, (ls3rs HE.out.o.2.2.2.2.1).2.2⟩ | exact ⟨HE.out.drew.o.1, HE.out.drew.o.2.1, (ls3rs HE.out.drew.o.2.2.2.2.1).1, (ls3rs HE.out.drew.o.2.2.2.2.1).2.1, (ls3rs HE.out.drew.o.2.2.2.2.1).2.2⟩) (fun hHeld => ?_)
 clear hK K
 (try simp only [Act.put, List.setIfInBounds_toArray, List.set_cons_zero, List.set_cons_succ])
 refine held_call (i := 31) rfl (by kernel_rfl) (by rfl) (fun K hK => ?_)
 clear hHeld
 simp only [List.getElem_toArray, List.getElem_cons_succ, List.getElem_cons_zero]
 go_simp
 refine (whole13_any _ (some ⟨gi5, 0, none⟩) 2 [0, 6] (li2 (HE.out.bx ⟨gi5, 2, #[.int .i64 0, .int .i64 6]⟩ (by simp)) (fun _ _ => trivial)) (by decide) (by decide) HE.out.o.2.2.2.2.2.1 2 rfl).mono ?_
 rintro e w9 ⟨A5, c5, x5, rfl, -, hx9, hk9, hb9⟩
 have Hx5 := Lib.hid (show x5.map Prod.snd = [0, 6] from hx9.trans (by decide +kernel))
 replace HE := Lib.hid (Env.ret HE.out hk9 hb9)
 clear hx9 hk9 hb9
 (try (go_wp2_with fail))
 refine hK.out _ _ (by first | exact ⟨HE.out.o.1, HE.out.o.2.1, (ls3rs HE.out.o.2.2.2.2.1).1, (ls3rs HE.out.o.2.2.2.2.1).2.1, (ls3rs HE.out.o.2.2.2.2.1).2.2⟩ | exact ⟨HE.out.drew.o.1, HE.out.drew.o.2.1, (ls3rs HE.out.drew.o.2.2.2.2.1).1, (ls3rs HE.out.drew.o.2.2.2.2.1).2.1, (ls3rs HE.out.drew.o.2.2.2.2.1).2.2⟩) (fun hHeld => ?_)
 clear hK K
 (try simp only [Act.put, List.setIfInBounds_toArray, List.set_cons_zero, List.set_cons_succ])
 refine held_call (i := 32) rfl (by kernel_rfl) (by rfl) (fun K hK => ?_)
 clear hHeld
 simp only [List.getElem_toArray, List.getElem_cons_succ, List.getElem_cons_zero]
 go_simp
 refine (rats_say _ u2 ⟨A5, c5, x5⟩ (HE.out.o.2.2.2.2.1.ok u2 (by simp)) HE.out.n.1 (Q2.out.trans Hx5.out.symm) (u_ok Q2.out (small_sz (.inr (.inr (.inr (.inr (.inl rfl)))))) (small_sz (.inr (.inr (.inr (.inl rfl)))))).1 (u_ok Q2.out (small_sz (.inr (.inr (.inr (.inr (.inl rfl)))))) (small_sz (.inr (.inr (.inr (.inl rfl)))))).2).mono ?_
 rintro e w8 ⟨rfl, hb⟩
 replace HE := Lib.hid (Env.call HE.out hb)
 clear hb
 (try (go_wp2_with fail))
 refine hK.out _ _ (by first | exact ⟨HE.out.o.1, HE.out.o.2.1, (ls3rs HE.out.o.2.2.2.2.1).1, (ls3rs HE.out.o.2.2.2.2.1).2.1, (ls3rs HE.out.o.2.2.2.2.1).2.2⟩ | exact ⟨HE.out.drew.o.1, HE.out.drew.o.2.1, (ls3rs HE.out.drew.o.2.2.2.2.1).1, (ls3rs HE.out.drew.o.2.2.2.2.1).2.1, (ls3rs HE.out.drew.o.2.2.2.2.1).2.2⟩) (fun hHeld => ?_)
 clear hK K
 (try simp only [Act.put, List.setIfInBounds_toArray, List.set_cons_zero, List.set_cons_succ])
 refine held_take (i := 33) (v := ?_) (some 69) rfl rfl (by kernel_rfl) (by kernel_rfl) (by kernel_rfl) (fun _ _ _ h => h) (Or.inl ⟨by rfl, ?_⟩) hHeld ?_
 rotate_left 1
 ·intro w hSw
  (try dsimp only at hSw)
  (first | (go_simp; done) | (go_simp; with_reducible rfl))
 (try simp only [Act.put, List.setIfInBounds_toArray, List.set_cons_zero, List.set_cons_succ])
 refine held_take (i := 34) (v := ?_) (some 70) rfl rfl (by kernel_rfl) (by kernel_rfl) (by kernel_rfl) (fun _ _ _ h => h) (Or.inl ⟨by rfl, ?_⟩) hHeld ?_
 rotate_left 1
 ·intro w hSw
  (try dsimp only at hSw)
  (first | (go_simp; done) | (go_simp; with_reducible rfl))
 (try simp only [Act.put, List.setIfInBounds_toArray, List.set_cons_zero, List.set_cons_succ])
 refine held_take (i := 35) (v := ?_) (some 71) rfl rfl (by kernel_rfl) (by kernel_rfl) (by kernel_rfl) (fun _ _ _ h => h) (Or.inl ⟨by rfl, ?_⟩) hHeld ?_
 rotate_left 1
 ·intro w hSw
  (try dsimp only at hSw)
  (first | (go_simp; done) | (go_simp; with_reducible rfl))
 (try simp only [Act.put, List.setIfInBounds_toArray, List.set_cons_zero, List.set_cons_succ])
 refine held_call (i := 36) rfl (by kernel_rfl) (by rfl) (fun K hK => ?_)
 clear hHeld
 simp only [List.getElem_toArray, List.getElem_cons_succ, List.getElem_cons_zero]
 go_simp
 refine (rtext_any _ k5 6 1 (by decide) (by decide) (RatN.rat HE.out.o.2.2.2.1 (small_sz (.inr (.inr (.inr (.inl rfl)))))) HE.out.o.2.2.2.2.2.1 HE.out.o.2.2.2.2.2.2).mono ?_
 rintro e w8 ⟨rfl, hb⟩
 rw [text6.1]
 replace HE := Lib.hid (Env.call HE.out hb)
 clear hb
 (try (go_wp2_with fail))
 refine hK.out _ _ (by first | exact ⟨HE.out.o.1, HE.out.o.2.1, (ls3rs HE.out.o.2.2.2.2.1).1, (ls3rs HE.out.o.2.2.2.2.1).2.1, (ls3rs HE.out.o.2.2.2.2.1).2.2⟩ | exact ⟨HE.out.drew.o.1, HE.out.drew.o.2.1, (ls3rs HE.out.drew.o.2.2.2.2.1).1, (ls3rs HE.out.drew.o.2.2.2.2.1).2.1, (ls3rs HE.out.drew.o.2.2.2.2.1).2.2⟩) (fun hHeld => ?_)
 clear hK K
 (try simp only [Act.put, List.setIfInBounds_toArray, List.set_cons_zero, List.set_cons_succ])
 refine held_take (i := 37) (v := ?_) (some 73) rfl rfl (by kernel_rfl) (by kernel_rfl) (by kernel_rfl) (fun _ _ _ h => h) (Or.inl ⟨by rfl, ?_⟩) hHeld ?_
 rotate_left 1
 ·intro w hSw
  (try dsimp only at hSw)
  (first | (go_simp; done) | (go_simp; with_reducible rfl))
 (try simp only [Act.put, List.setIfInBounds_toArray, List.set_cons_zero, List.set_cons_succ])
 refine held_take (i := 38) (v := ?_) (some 74) rfl rfl (by kernel_rfl) (by kernel_rfl) (by kernel_rfl) (fun _ _ _ h => h) (Or.inl ⟨by rfl, ?_⟩) hHeld ?_
 rotate_left 1
 ·intro w hSw
  (try dsimp only at hSw)
  (first | (go_simp; done) | (go_simp; with_reducible rfl))
 (try simp only [Act.put, List.setIfInBounds_toArray, List.set_cons_zero, List.set_cons_succ])
 refine held_take (i := 39) (v := ?_) (some 75) rfl rfl (by kernel_rfl) (by kernel_rfl) (by kernel_rfl) (fun _ _ _ h => h) (Or.inl ⟨by rfl, ?_⟩) hHeld ?_
 rotate_left 1
 ·intro w hSw
  (try dsimp only at hSw)
  (first | (go_simp; done) | (go_simp; with_reducible rfl))
 (try simp only [Act.put, List.setIfInBounds_toArray, List.set_cons_zero, List.set_cons_succ])
 refine held_take (i := 40) (v := ?_) (some 76) rfl rfl (by kernel_rfl) (by kernel_rfl) (by kernel_rfl) (fun _ _ _ h => h) (Or.inl ⟨by rfl, ?_⟩) hHeld ?_
 rotate_left 1
 ·intro w hSw
  (try dsimp only at hSw)
  (first | (go_simp; done) | (go_simp; with_reducible rfl))
 (try simp only [Act.put, List.setIfInBounds_toArray, List.set_cons_zero, List.set_cons_succ])
 refine held_call (i := 41) rfl (by kernel_rfl) (by rfl) (fun K hK => ?_)
 clear hHeld
 simp only [List.getElem_toArray, List.getElem_cons_succ, List.getElem_cons_zero]
 go_simp
 refine (rtext_any _ k6 (-6) 1 (by decide) (by decide) (RatN.rat HE.out.o.2.2.1 (small_sz (.inr (.inr (.inr (.inr (.inr (rfl)))))))) HE.out.o.2.2.2.2.2.1 HE.out.o.2.2.2.2.2.2).mono ?_
 rintro e w8 ⟨rfl, hb⟩
 rw [text6.2]
 replace HE := Lib.hid (Env.call HE.out hb)
 clear hb
 (try (go_wp2_with fail))
 refine hK.out _ _ (by first | exact ⟨HE.out.o.1, HE.out.o.2.1, (ls3rs HE.out.o.2.2.2.2.1).1, (ls3rs HE.out.o.2.2.2.2.1).2.1, (ls3rs HE.out.o.2.2.2.2.1).2.2⟩ | exact ⟨HE.out.drew.o.1, HE.out.drew.o.2.1, (ls3rs HE.out.drew.o.2.2.2.2.1).1, (ls3rs HE.out.drew.o.2.2.2.2.1).2.1, (ls3rs HE.out.drew.o.2.2.2.2.1).2.2⟩) (fun hHeld => ?_)
 clear hK K
 (try simp only [Act.put, List.setIfInBounds_toArray, List.set_cons_zero, List.set_cons_succ])
 refine held_take (i := 42) (v := ?_) (some 78) rfl rfl (by kernel_rfl) (by kernel_rfl) (by kernel_rfl) (fun _ _ _ h => h) (Or.inl ⟨by rfl, ?_⟩) hHeld ?_
 rotate_left 1
 ·intro w hSw
  (try dsimp only at hSw)
  (first | (go_simp; done) | (go_simp; with_reducible rfl))
 (try simp only [Act.put, List.setIfInBounds_toArray, List.set_cons_zero, List.set_cons_succ])
 refine held_take (i := 43) (v := ?_) (some 79) rfl rfl (by kernel_rfl) (by kernel_rfl) (by kernel_rfl) (fun _ _ _ h => h) (Or.inl ⟨by rfl, ?_⟩) hHeld ?_
 rotate_left 1
 ·intro w hSw
  (try dsimp only at hSw)
  (first | (go_simp; done) | (go_simp; with_reducible rfl))
 (try simp only [Act.put, List.setIfInBounds_toArray, List.set_cons_zero, List.set_cons_succ])
 refine held_take (i := 44) (v := ?_) (some 0) rfl rfl (by kernel_rfl) (by kernel_rfl) (by kernel_rfl) (fun _ _ _ h => h) (Or.inl ⟨by rfl, ?_⟩) hHeld ?_
 rotate_left 1
 ·intro w hSw
  (try dsimp only at hSw)
  (first | (go_simp; done) | (go_simp; with_reducible rfl))
 refine wpAnyH_done (by kernel_rfl) ?_ _
 refine NoPanic.normal ?_
 go_wp2_with fail
 go_ret
 exact ⟨rfl, Below.after HBl.out HE.out.bel⟩
end Go.Proofs.YtplhmeiciiajcaaGreatDoor
