/-
 tripwirelaw14: whole, term, conv. tripwirelaw14.awake. tripwirelaw14.LowerTells.
-/
import Derived.Test.YtikmgoefjbhcjaaGreatDoorMF
namespace Go.Proofs.YtikmgoefjbhcjaaGreatDoor
set_option maxHeartbeats 4000000
open Go.RowKit

theorem zgX (w : World) : (sizeOf (Tryz.prog.elem 80)).run Tryz.prog w = .ok 1 w := by kernel_rfl
set_option maxRecDepth 100000 in
theorem zdn (w : World) (A : Option Addr) (c : Nat) (l : List Int) (h : LsR 1 icells okI A l w) (hr : ∀ z ∈ l, -9223372036854775808 ≤ z ∧ z ≤ 9223372036854775807) (hl : l.length ≤ 1000) (hT : Tz w) (nl : Nat) (hnl : nl = l.length) : Calls Tryz.prog 23 #[.slice A nl c] w (CpRes 4 (rtcells : RV × Rat → Array Value) roN Prod.snd (l.map fun z => Rat.divInt z 1) w) := by
 have sl1 := h.sl
 rw [← hnl] at sl1
 have hszi := zgX
 have hadd := za3
 have Hn := zmZ hnl
 have Hr := zmZ hr
 have hnb : nl ≤ 1000 := by omega
 have HE := zmZ (Env.start (((h.old zdf)).and (hT.old)))
 clear h hT hnl hr hl
 go_enter Tryz.func23, Tryz.ntmps23
 go_upto_region 3 with fail
 have HG := zmZ (((GL.start HE.out).new_ 41 4).imp (φ := fun V => (∀ b ∈ ([] : List Bo), Blk V b.g b.t b.cs) ∧ LsR 1 icells okI A l V ∧ Tz V) (ψ := fun V => ∀ zp ∈ ([] : List (RV × Rat)), roN zp V) (fun _ h => h) (fun _ _ => by simp))
 clear HE
 go_loopw [3, 4] (fun ov iv wr => ∃ (Ao : Option Addr) (co i : Nat) (os : List (RV × Rat)), ov = .slice Ao (List.length os) co ∧ iv = .int .i64 (i : Int) ∧ i ≤ nl ∧ Hid (os.map Prod.snd = (l.take i).map fun z => Rat.divInt z 1) ∧ Hid (GL w (⟨41, 4, .slice Ao (List.length os) co, List.map rtcells os⟩ :: []) (fun V => (∀ b ∈ ([] : List Bo), Blk V b.g b.t b.cs) ∧ LsR 1 icells okI A l V ∧ Tz V) (fun V => ∀ zp ∈ os, roN zp V) wr)) (fun _ iv _ => nl - (intOf iv).toNat)
 case atStart => exact ⟨none, 0, 0, [], rfl, rfl, Nat.zero_le _, zmZ rfl, HG⟩
 case round =>
  clear HG
  obtain ⟨Ao, co, i, os, rfl, rfl, hi, HM, HG⟩ := hrel
  by_cases hlt : i < nl
  ·have hlt2 : i < l.length := by rw [← Hn.out]; exact hlt
   have hos := congrArg List.length HM.out
   rw [List.length_map, List.length_map, List.length_take] at hos
   have hosb : os.length ≤ 1000 := by omega
   clear hos
   have HM2 := zmZ (fun (y : RV × Rat) (hy : y.2 = Rat.divInt l[i] 1) => zau HM.out hlt2 hy)
   have c0 := HG.out.o.2.1.ic i hlt2
   have hz := Hr.out _ (List.getElem_mem hlt2)
   obtain ⟨z, hz0⟩ : ∃ z, z = l[i] := ⟨_, rfl⟩
   rw [← hz0] at c0 HM2 hz
   clear hz0
   go_wp2_with fail
   refine (zi2 _ z 1 hz.1 hz.2 (by decide) (by decide) HG.out.o.2.2).mono ?_
   rintro e w5 ⟨k, rfl, hk9, hb9⟩
   replace HG := zmZ (HG.out.call hk9 hb9)
   clear hk9 hb9 c0
   have HGa := HG.out.box 41 #[.bool k.num.neg, .slice k.num.A k.num.k k.num.c, .bool k.den.neg, .slice k.den.A k.den.k k.den.c]
   obtain ⟨A', c', w8, hrun, hG⟩ := GL.appG (k := 0) (cells := rtcells) zb0 zbO rfl (by decide) (by decide) HGa rfl ((k, Rat.divInt z 1) : RV × Rat) rfl (zbQ _) HGa.n.1 (by omega)
   have Hrun := zmZ hrun
   have HG2 := zmZ hG
   clear hrun hG HGa HG
   go_wp2_with (at_builtin; refine za1 rfl (.tmp 11) (.tmp 17) 33 _ _ _ rfl rfl rfl Hrun.out ?_)
   clear Hrun
   go_wp2_with fail
   go_roundw
   case rel => exact ⟨A', c', i + 1, os ++ [(k, Rat.divInt z 1)], by simp, by go_num, by omega, zmZ (by rw [List.map_append]; exact HM2.out (k, Rat.divInt z 1) rfl), zmZ (HG2.out.imp (fun _ h => h) (fun V h => fun zp hz => (List.mem_append.1 hz).elim (fun hz => h.2.2 zp hz) (fun hz => by rw [List.mem_singleton.1 hz]; exact h.2.1)))⟩
   case measure => (simp [intOf] <;> omega)
  ·obtain rfl : i = nl := by omega
   obtain ⟨A', c', hv, hc, hr⟩ := HG.out.tell (cells := rtcells) (ok := roN) (l := os) (fun V h => h)
   obtain ⟨rfl, rfl⟩ : Ao = A' ∧ co = c' := by simpa using hv
   have Hr2 := zmZ hr
   have Hc := zmZ hc
   have Hbel := zmZ HG.out.bel
   clear hr hv HG hc
   go_wp2_with fail
   go_ret
   exact ⟨Ao, co, os, rfl, Hc.out, by rw [HM.out, Hn.out, List.take_length], Hr2.out, Hbel.out⟩
set_option maxRecDepth 100000 in
theorem zd8 (w : World) (a x : Int) (q : Rat) (hq : Rat.divInt x 1 = q) (h1 : -9223372036854775808 ≤ x) (h2 : x ≤ 9223372036854775807) (hT : Tz w) : Calls Tryz.prog 21 #[.int .i64 a, .int .i64 x] w fun e w' => ∃ k, e = .returned (.agg #[.int .i64 a, .bool k.num.neg, .slice k.num.A k.num.k k.num.c, .bool k.den.neg, .slice k.den.A k.den.k k.den.c]) ∧ Rests w' (w.heap.size ≤ ·) (RatN k q) ∧ Below w.heap.size w w' := by
 subst hq
 obtain ⟨W0, hW0⟩ : ∃ W0, W0 = (w.alloc (.cells #[.int .i64 0, .bool false, .slice none 0 0, .bool false, .slice none 0 0] 45)) := ⟨_, rfl⟩
 have HE := zmZ (Env.lay1 (Env.start (hT.old)) hW0)
 subst hW0
 have c := Env.c1 HE.out
 clear hT
 go_enter Tryz.func21, Tryz.ntmps21
 go_wp2_with fail
 refine (zi2 _ x 1 h1 h2 (by decide) (by decide) HE.out.o).mono ?_
 rintro e w1 ⟨k, rfl, hk, hb⟩
 replace HE := zmZ (Env.ret HE.out hk hb)
 replace c := Env.c1 HE.out
 clear hk hb
 go_wp2_with fail
 have hE := show Env w (⟨w.heap.size, 45, #[.int .i64 a, .bool k.num.neg, .slice k.num.A k.num.k k.num.c, .bool k.den.neg, .slice k.den.A k.den.k k.den.c]⟩ :: []) _ _ _ from (((((HE.out.put 0 (.int .i64 a)).put 1 (.bool k.num.neg)).put 2 (.slice k.num.A k.num.k k.num.c)).put 3 (.bool k.den.neg)).put 4 (.slice k.den.A k.den.k k.den.c))
 replace c := Env.c1 hE
 exact bodyPost_ret (v := .agg #[.int .i64 a, .bool k.num.neg, .slice k.num.A k.num.k k.num.c, .bool k.den.neg, .slice k.den.A k.den.k k.den.c]) (by simp [results, Tryz.results21, go_sem, c]) rfl ⟨k, rfl, (hE.rsn.imp fun _ h => h.1).mono fun _ h => h.1, hE.bel⟩
theorem li1 {ok : Int → World → Prop} {W : World} {g : Nat} {t : TypeId} {x : Int} (h : Blk W g t #[.int .i64 x]) (hp : ∀ zz ∈ [x], ok zz W) : LsR 1 icells ok (some ⟨g, 0, none⟩) [x] W := by
 refine ⟨⟨Sl.some_ _ _ _, fun i hi => ?_, fun i hi j hj => ?_⟩, hp⟩
 ·match i, hi with
  | 0, _ => rfl
 ·rw [za4, Nat.zero_add, h.cell]
  match i, hi, j, hj with
  | 0, _, 0, _ => rfl
theorem li2 {ok : Int → World → Prop} {W : World} {g : Nat} {t : TypeId} {x y : Int} (h : Blk W g t #[.int .i64 x, .int .i64 y]) (hp : ∀ zz ∈ [x, y], ok zz W) : LsR 1 icells ok (some ⟨g, 0, none⟩) [x, y] W := by
 refine ⟨⟨Sl.some_ _ _ _, fun i hi => ?_, fun i hi j hj => ?_⟩, hp⟩
 ·match i, hi with
  | 0, _ => rfl
  | 1, _ => rfl
 ·rw [za4, Nat.zero_add, h.cell]
  match i, hi, j, hj with
  | 0, _, 0, _ => rfl
  | 1, _, 0, _ => rfl
theorem ls2l {ok : LaV → World → Prop} {W : World} {g : Nat} {t : TypeId} {x y : LaV} (h : Blk W g t #[.int .u8 x.kind, .slice x.Ar x.rows.length x.cr, .slice x.Ab x.bias.length x.cb, .int .i64 x.ch, .int .i64 x.high, .int .i64 x.wide, .int .i64 x.out, .int .i64 x.kh, .int .i64 x.kw, .int .i64 x.st, .int .i64 x.pad, .slice x.Ak x.kern.length x.ck, .slice x.Ag x.grs.length x.cg, .int .u8 y.kind, .slice y.Ar y.rows.length y.cr, .slice y.Ab y.bias.length y.cb, .int .i64 y.ch, .int .i64 y.high, .int .i64 y.wide, .int .i64 y.out, .int .i64 y.kh, .int .i64 y.kw, .int .i64 y.st, .int .i64 y.pad, .slice y.Ak y.kern.length y.ck, .slice y.Ag y.grs.length y.cg]) (hp : ∀ zz ∈ [x, y], ok zz W) : LsR 13 lacells ok (some ⟨g, 0, none⟩) [x, y] W := by
 refine ⟨⟨Sl.some_ _ _ _, fun i hi => ?_, fun i hi j hj => ?_⟩, hp⟩
 ·match i, hi with
  | 0, _ => rfl
  | 1, _ => rfl
 ·rw [za4, Nat.zero_add, h.cell]
  match i, hi, j, hj with
  | 0, _, 0, _ => rfl
  | 0, _, 1, _ => rfl
  | 0, _, 2, _ => rfl
  | 0, _, 3, _ => rfl
  | 0, _, 4, _ => rfl
  | 0, _, 5, _ => rfl
  | 0, _, 6, _ => rfl
  | 0, _, 7, _ => rfl
  | 0, _, 8, _ => rfl
  | 0, _, 9, _ => rfl
  | 0, _, 10, _ => rfl
  | 0, _, 11, _ => rfl
  | 0, _, 12, _ => rfl
  | 1, _, 0, _ => rfl
  | 1, _, 1, _ => rfl
  | 1, _, 2, _ => rfl
  | 1, _, 3, _ => rfl
  | 1, _, 4, _ => rfl
  | 1, _, 5, _ => rfl
  | 1, _, 6, _ => rfl
  | 1, _, 7, _ => rfl
  | 1, _, 8, _ => rfl
  | 1, _, 9, _ => rfl
  | 1, _, 10, _ => rfl
  | 1, _, 11, _ => rfl
  | 1, _, 12, _ => rfl
theorem ls2t {ok : TeV → World → Prop} {W : World} {g : Nat} {t : TypeId} {x y : TeV} (h : Blk W g t #[.int .i64 x.pl, .bool x.r.num.neg, .slice x.r.num.A x.r.num.k x.r.num.c, .bool x.r.den.neg, .slice x.r.den.A x.r.den.k x.r.den.c, .int .i64 y.pl, .bool y.r.num.neg, .slice y.r.num.A y.r.num.k y.r.num.c, .bool y.r.den.neg, .slice y.r.den.A y.r.den.k y.r.den.c]) (hp : ∀ zz ∈ [x, y], ok zz W) : LsR 5 tecells ok (some ⟨g, 0, none⟩) [x, y] W := by
 refine ⟨⟨Sl.some_ _ _ _, fun i hi => ?_, fun i hi j hj => ?_⟩, hp⟩
 ·match i, hi with
  | 0, _ => rfl
  | 1, _ => rfl
 ·rw [za4, Nat.zero_add, h.cell]
  match i, hi, j, hj with
  | 0, _, 0, _ => rfl
  | 0, _, 1, _ => rfl
  | 0, _, 2, _ => rfl
  | 0, _, 3, _ => rfl
  | 0, _, 4, _ => rfl
  | 1, _, 0, _ => rfl
  | 1, _, 1, _ => rfl
  | 1, _, 2, _ => rfl
  | 1, _, 3, _ => rfl
  | 1, _, 4, _ => rfl
theorem zmF {ok : VeV → World → Prop} {W : World} {g : Nat} {t : TypeId} {x y : VeV} (h : Blk W g t #[.slice x.A x.ts.length x.c, .slice y.A y.ts.length y.c]) (hp : ∀ zz ∈ [x, y], ok zz W) : LsR 1 vecells ok (some ⟨g, 0, none⟩) [x, y] W := by
 refine ⟨⟨Sl.some_ _ _ _, fun i hi => ?_, fun i hi j hj => ?_⟩, hp⟩
 ·match i, hi with
  | 0, _ => rfl
  | 1, _ => rfl
 ·rw [za4, Nat.zero_add, h.cell]
  match i, hi, j, hj with
  | 0, _, 0, _ => rfl
  | 1, _, 0, _ => rfl
def cvL (Ab : Option Addr) (cb : Nat) (bs : List (RV × Rat)) (Ak : Option Addr) (ck : Nat) (ks : List (RV × Rat)) (s : Int) : LaV := ⟨2, none, 0, [], Ab, cb, bs, 1, 1, 3, 1, 1, 2, s, 0, Ak, ck, ks, none, 0, []⟩
def reL : LaV := ⟨3, none, 0, [], none, 0, [], 0, 0, 0, 0, 0, 0, 0, 0, none, 0, [], none, 0, []⟩
def zmS (s : Int) (w : World) (e : Ending) (w' : World) : Prop := ∃ g Ab cb bs Ak ck ks, e = .returned (.agg #[.int .i64 3, .slice (some ⟨g, 0, none⟩) 2 2]) ∧ bs.map Prod.snd = [5] ∧ ks.map Prod.snd = [1, -1] ∧ Rests w' (w.heap.size ≤ ·) (LsR 13 lacells LaN (some ⟨g, 0, none⟩) [cvL Ab cb bs Ak ck ks s, reL]) ∧ Below w.heap.size w w'
theorem zlP (V : World) : LaN reL V := ⟨LsR.nil_ none, LsR.nil_ none, LsR.nil_ none, LsR.nil_ none⟩
set_option maxRecDepth 100000 in
theorem zhw (w : World) (s : Int) (hT : Tz w) : Calls Tryz.prog 17 #[.int .i64 0, .int .i64 s] w (zmS s w) := by
 obtain ⟨W0, hW0⟩ : ∃ W0, W0 = (w.alloc (.cells #[.int .i64 0, .slice none 0 0] 24)) := ⟨_, rfl⟩
 have HE := zmZ (Env.lay1 (Env.start (hT.old)) hW0)
 subst hW0
 have c := Env.c1 HE.out
 clear hT
 go_enter Tryz.func17, Tryz.ntmps17
 go_wp2_with fail
 clear c
 have HE1 := zmZ (HE.out.new_ (g := (w.heap.size + 1)) (by simp) 2 #[.int .i64 1, .int .i64 (-1)])
 clear HE
 have HE := HE1
 clear HE1
 refine (zdn _ (some ⟨(w.heap.size + 1), 0, none⟩) 2 [1, -1] (li2 (HE.out.bx ⟨(w.heap.size + 1), 2, #[.int .i64 (1), .int .i64 (-1)]⟩ (by simp)) (fun _ _ => trivial)) (by decide) (by decide) HE.out.o 2 rfl).mono ?_
 rintro e w9 ⟨A1, c1, ks, rfl, -, hks, hk9, hb9⟩
 have Hks := zmZ hks
 replace HE := zmZ (Env.ret HE.out hk9 hb9)
 clear hks hk9 hb9
 go_wp2_with fail
 obtain ⟨W2, g2, hW, hg, HE⟩ := Env.al HE.out 2 #[.int .i64 5]
 rw [hW, hg]
 clear hW hg
 refine (zdn _ (some ⟨g2, 0, none⟩) 1 [5] (li1 (HE.out.bx ⟨g2, 2, #[.int .i64 (5)]⟩ (by simp)) (fun _ _ => trivial)) (by decide) (by decide) HE.out.o 1 rfl).mono ?_
 rintro e w9 ⟨A2, c2, bs, rfl, -, hbs, hk9, hb9⟩
 have Hbs := zmZ hbs
 replace HE := zmZ (Env.ret HE.out hk9 hb9)
 clear hbs hk9 hb9
 go_upto_region 2 with fail
 obtain ⟨W3, g3, hW, hg, HE⟩ := Env.al HE.out 36 #[.int .u8 2, .slice none 0 0, .slice A2 (List.length bs) c2, .int .i64 1, .int .i64 1, .int .i64 3, .int .i64 1, .int .i64 1, .int .i64 2, .int .i64 s, .int .i64 0, .slice A1 (List.length ks) c1, .slice none 0 0]
 rw [hW, hg]
 clear hW hg
 have c := (HE.out.bx ⟨g3, 36, #[.int .u8 2, .slice none 0 0, .slice A2 (List.length bs) c2, .int .i64 1, .int .i64 1, .int .i64 3, .int .i64 1, .int .i64 1, .int .i64 2, .int .i64 s, .int .i64 0, .slice A1 (List.length ks) c1, .slice none 0 0]⟩ (by simp)).cb
 go_upto_region 4 with fail
 have HE2 := zmZ (HE.out.new_ (g := W3.heap.size) rfl 36 #[.int .u8 2, .slice none 0 0, .slice A2 (List.length bs) c2, .int .i64 1, .int .i64 1, .int .i64 3, .int .i64 1, .int .i64 1, .int .i64 2, .int .i64 s, .int .i64 0, .slice A1 (List.length ks) c1, .slice none 0 0, .int .u8 3, .slice none 0 0, .slice none 0 0, .int .i64 0, .int .i64 0, .int .i64 0, .int .i64 0, .int .i64 0, .int .i64 0, .int .i64 0, .int .i64 0, .slice none 0 0, .slice none 0 0])
 have c0 := (HE2.out.bx ⟨w.heap.size, 24, #[.int .i64 0, .slice none 0 0]⟩ (by simp)).cb
 go_wp2_with fail
 have hE := Env.put2_at [⟨W3.heap.size, 36, #[.int .u8 2, .slice none 0 0, .slice A2 (List.length bs) c2, .int .i64 1, .int .i64 1, .int .i64 3, .int .i64 1, .int .i64 1, .int .i64 2, .int .i64 s, .int .i64 0, .slice A1 (List.length ks) c1, .slice none 0 0, .int .u8 3, .slice none 0 0, .slice none 0 0, .int .i64 0, .int .i64 0, .int .i64 0, .int .i64 0, .int .i64 0, .int .i64 0, .int .i64 0, .int .i64 0, .slice none 0 0, .slice none 0 0]⟩, ⟨g3, 36, #[.int .u8 2, .slice none 0 0, .slice A2 (List.length bs) c2, .int .i64 1, .int .i64 1, .int .i64 3, .int .i64 1, .int .i64 1, .int .i64 2, .int .i64 s, .int .i64 0, .slice A1 (List.length ks) c1, .slice none 0 0]⟩, ⟨g2, 2, #[.int .i64 5]⟩, ⟨(w.heap.size + 1), 2, #[.int .i64 1, .int .i64 (-1)]⟩] HE2.out (.int .i64 3) (.slice (some ⟨W3.heap.size, 0, none⟩) 2 2)
 have c9 := (hE.bx ⟨w.heap.size, 24, #[.int .i64 3, .slice (some ⟨W3.heap.size, 0, none⟩) 2 2]⟩ (by simp)).cb
 have hE2 := hE.read
 exact bodyPost_ret (v := .agg #[.int .i64 3, .slice (some ⟨W3.heap.size, 0, none⟩) 2 2]) (by simp [results, Tryz.results17, go_sem, c9]) rfl ⟨W3.heap.size, A2, c2, bs, A1, c1, ks, rfl, Hbs.out.trans (by decide +kernel), Hks.out.trans (by decide +kernel), (hE2.rsn.imp fun V h => ls2l (x := cvL A2 c2 bs A1 c1 ks s) (y := reL) h.1 (fun l hl => by
  simp only [List.mem_cons, List.not_mem_nil, or_false] at hl
  rcases hl with rfl | rfl
  ·exact ⟨LsR.nil_ none, h.2.1, h.2.2.1, LsR.nil_ none⟩
  ·exact zlP V)).mono fun _ h => h.1, hE2.bel⟩

theorem cv_s {Ab cb bs Ak ck ks} (hb : bs.map Prod.snd = [(5 : Rat)]) (hk : ks.map Prod.snd = [(1 : Rat), -1]) : ConvS (cvL Ab cb bs Ak ck ks 1) := by
 have h1 := congrArg List.length hb
 have h2 := congrArg List.length hk
 simp only [List.length_map, List.length_cons, List.length_nil] at h1 h2
 refine ⟨by unfold sidesP side cvL; dsimp only; decide, by unfold cvL; dsimp only; decide, by unfold cvL; dsimp only; decide, ?_, ?_, by unfold zbA zbx cvL; dsimp only; decide, ?_⟩
 ·show (ks.length : Int) = _; rw [h2]; unfold cvL; dsimp only; decide
 ·show (bs.length : Int) = _; rw [h1]; unfold cvL; dsimp only; decide
 ·show ks.length ≤ _; omega
theorem cv_q {Ab cb bs Ak ck ks} (hb : bs.map Prod.snd = [(5 : Rat)]) (hk : ks.map Prod.snd = [(1 : Rat), -1]) : zbY (cvL Ab cb bs Ak ck ks 1) = ⟨1, [[(0, 1), (1, -1)], [(1, 1), (2, -1)]], [5, 5], [0, 0, 0, 0, 0, 0, 0, 0], [], []⟩ := by
 unfold zbY nRows nCols cvL
 dsimp only
 rw [hb, hk]
 unfold zjx
 congr 1 <;> decide +kernel
theorem zls {g Ab cb bs Ak ck ks} {V : World} (hb : bs.map Prod.snd = [(5 : Rat)]) (hk : ks.map Prod.snd = [(1 : Rat), -1]) (h : LaN (cvL Ab cb bs Ak ck ks 1) V) : NetP V ⟨3, some ⟨g, 0, none⟩, 2, [cvL Ab cb bs Ak ck ks 1, reL]⟩ 0 := by
 have hs := cv_s (Ab := Ab) (cb := cb) (Ak := Ak) (ck := ck) hb hk
 refine .inr ⟨⟨show (1 : Int) ≤ 3 by decide, show (3 : Int) ≤ 64 by decide, show 2 ≤ 16 by decide⟩, .inr ⟨.inr (.inl ⟨rfl, hs.s, hs.pad, by unfold cvL; dsimp only; decide, hs.h, hs.k, hs.b, ⟨rfl, rfl⟩, h.kern.ok, h.bias.ok⟩), .inr ⟨?_, ?_⟩⟩⟩
 ·simp [zae, zay, zbA, zbx, cvL]
 ·refine .inr ⟨.inr (.inr (.inl ⟨rfl, ⟨rfl, rfl, rfl, rfl, rfl, rfl, rfl, rfl, rfl⟩, rfl, rfl, rfl⟩)), .inr ⟨?_, rfl⟩⟩
  simp [zae, zay, zbA, zbx, cvL, reL]
theorem lits (q : Rat) (h : q = 1 ∨ q = -1 ∨ q = 5) : Sz q 1 := by
 rcases h with rfl | rfl | rfl <;> refine ⟨?_, ?_⟩ <;> decide +kernel
theorem cv_d {g Ab cb bs Ak ck ks} {V : World} (hb : bs.map Prod.snd = [(5 : Rat)]) (hk : ks.map Prod.snd = [(1 : Rat), -1]) (h : LsR 13 lacells LaN (some ⟨g, 0, none⟩) [cvL Ab cb bs Ak ck ks 1, reL] V) : NeD 1 ⟨3, some ⟨g, 0, none⟩, 2, [cvL Ab cb bs Ak ck ks 1, reL]⟩ V := by
 refine LsR.imp h fun l hl hn => ?_
 have nil : LsR 1 vecells (veF (teD 1)) none [] V := LsR.nil_ none
 simp only [List.mem_cons, List.not_mem_nil, or_false] at hl
 rcases hl with rfl | rfl
 ·refine ⟨LsR.nil_ none, hn.bias.imp fun p hp h9 => RatN.rat h9 (lits _ ?_), hn.kern.imp fun p hp h9 => RatN.rat h9 (lits _ ?_), LsR.nil_ none⟩
  ·have : p.2 ∈ bs.map Prod.snd := List.mem_map_of_mem (f := Prod.snd) hp
   rw [hb] at this
   simp only [List.mem_cons, List.not_mem_nil, or_false] at this
   exact .inr (.inr this)
  ·have : p.2 ∈ ks.map Prod.snd := List.mem_map_of_mem (f := Prod.snd) hp
   rw [hk] at this
   simp only [List.mem_cons, List.not_mem_nil, or_false] at this
   rcases this with h | h
   ·exact .inl h
   ·exact .inr (.inl h)
 ·exact ⟨LsR.nil_ none, LsR.nil_ none, LsR.nil_ none, LsR.nil_ none⟩
theorem zlE {α κ : Type} {f : α → κ} {ls : List α} {a b : κ} (h : ls.map f = [a, b]) : ∃ x y, ls = [x, y] ∧ f x = a ∧ f y = b := by
 obtain ⟨x, y, rfl⟩ : ∃ x y, ls = [x, y] := by
  have h1 := congrArg List.length h
  rw [List.length_map, show [a, b].length = 2 from rfl] at h1
  match ls, h1 with
  | [x, y], _ => exact ⟨x, y, rfl⟩
 simp only [List.map_cons, List.map_nil, List.cons.injEq, and_true] at h
 exact ⟨x, y, rfl, h.1, h.2⟩
theorem zhY (w : World) (A B : Option Addr) (c d : Nat) (l m : List VeV) (h : LsR 1 vecells (veF teN) A l w) (h2 : LsR 1 vecells (veF teN) B m w) (e : l.map (fun v => v.ts.map plq) = m.map (fun v => v.ts.map plq)) (hl : l.length ≤ 1000000) (hs : ∀ v ∈ l, v.ts.length ≤ 1000000) (hz : ∀ v ∈ l, ∀ t ∈ v.ts, Sz t.q 1000) (nl nm : Nat) (hnl : nl = l.length) (hnm : nm = m.length) : Calls Tryz.prog 22 #[.slice A nl c, .slice B nm d] w fun e w' => e = .returned (.bool true) ∧ Below w.heap.size w w' := by
 have hz2 : ∀ v ∈ m, ∀ t ∈ v.ts, Sz t.q 1000 := fun v hv t ht => by
  have h1 : v.ts.map plq ∈ l.map (fun v => v.ts.map plq) := by rw [e]; exact List.mem_map_of_mem (f := fun v : VeV => v.ts.map plq) hv
  obtain ⟨u, hu, e1⟩ := List.mem_map.1 h1
  have h2 : plq t ∈ u.ts.map plq := by rw [e1]; exact List.mem_map_of_mem (f := plq) ht
  obtain ⟨s, hs', e2⟩ := List.mem_map.1 h2
  have := hz u hu s hs'
  rwa [show s.q = t.q from congrArg Prod.snd e2] at this
 have vF : ∀ {A : Option Addr} {l : List VeV}, LsR 1 vecells (veF teN) A l w → (∀ v ∈ l, ∀ t ∈ v.ts, Sz t.q 1000) → LsR 1 znh vwD A (l.map fun v => ⟨v.A, v.c, v.ts.map fun t => ⟨t.pl, t.r, wdN t.q⟩⟩) w := fun {A l} h hz => by
  refine ⟨?_, fun x hx => ?_⟩
  ·have e : (l.map fun v => (⟨v.A, v.c, v.ts.map fun t => ⟨t.pl, t.r, wdN t.q⟩⟩ : VwV)).map znh = l.map vecells := by
    rw [List.map_map]
    exact List.map_congr_left fun v _ => by simp [znh, vecells]
   exact e ▸ h.el
  ·obtain ⟨v, hm, rfl⟩ := List.mem_map.1 hx
   exact zmt (f := fN) (show LsR 5 tecells teN v.A v.ts w from h.ok v hm) fun t ht ht' => RatN.w ht' (hz v hm t ht) (by decide)
 refine zcG w A B c d _ _ (vF h hz) (vF h2 hz2) (by rw [List.length_map]; exact hl) (fun v hv => ?_) ?_ nl nm (by rw [List.length_map]; exact hnl) (by rw [List.length_map]; exact hnm)
 ·obtain ⟨u, hu, rfl⟩ := List.mem_map.1 hv
  rw [List.length_map]; exact hs u hu
 ·have e2 := congrArg (List.map (List.map fun p : Int × Rat => (p.1, wdN p.2))) e
  simp only [List.map_map] at e2 ⊢
  have e3 : ∀ v : VeV, vwq ⟨v.A, v.c, v.ts.map fun t => ⟨t.pl, t.r, wdN t.q⟩⟩ = ((List.map fun p : Int × Rat => (p.1, wdN p.2)) ∘ fun v : VeV => List.map plq v.ts) v := fun v => by
   show vwq _ = List.map _ (List.map plq v.ts)
   unfold vwq
   rw [List.map_map, List.map_map]
   rfl
  exact (List.map_congr_left fun v _ => e3 v).trans (e2.trans (List.map_congr_left fun v _ => (e3 v).symm))
theorem zh6 (w : World) (A B : Option Addr) (c d : Nat) (l m : List (RV × Rat)) (h : LsR 4 rtcells roN A l w) (h2 : LsR 4 rtcells roN B m w) (e : l.map Prod.snd = m.map Prod.snd) (hl : l.length ≤ 1000000) (hz : ∀ p ∈ l, Sz p.2 1000) (nl nm : Nat) (hnl : nl = l.length) (hnm : nm = m.length) : Calls Tryz.prog 16 #[.slice A nl c, .slice B nm d] w fun e w' => e = .returned (.bool true) ∧ Below w.heap.size w w' := by
 have hz2 : ∀ p ∈ m, Sz p.2 1000 := fun p hp => by
  have h1 : p.2 ∈ l.map Prod.snd := by rw [e]; exact List.mem_map_of_mem (f := Prod.snd) hp
  obtain ⟨u, hu, e1⟩ := List.mem_map.1 h1
  rw [← e1]; exact hz u hu
 refine zbe w A B c d _ _ (zge (f := fN) h fun p hp h9 => RatN.w h9 (hz p hp) (by decide)) (zge (f := fN) h2 fun p hp h9 => RatN.w h9 (hz2 p hp) (by decide)) (by rw [List.length_map]; exact hl) ?_ nl nm (by rw [List.length_map]; exact hnl) (by rw [List.length_map]; exact hnm)
 have e2 := congrArg (List.map wdN) e
 simp only [List.map_map] at e2 ⊢
 exact e2
theorem zk5 {Ab cb bs Ak ck ks} (hb : bs.map Prod.snd = [(5 : Rat)]) (hk : ks.map Prod.snd = [(1 : Rat), -1]) : ∀ l ∈ [cvL Ab cb bs Ak ck ks 1, reL], LaS l := by
 have h1 := congrArg List.length hb
 have h2 := congrArg List.length hk
 simp only [List.length_map, List.length_cons, List.length_nil] at h1 h2
 intro l hl
 simp only [List.mem_cons, List.not_mem_nil, or_false] at hl
 rcases hl with rfl | rfl
 ·exact ⟨show 0 ≤ 100000 by decide, fun v hv => (by cases hv), (by show bs.length ≤ _; omega), (by show ks.length ≤ _; omega), show 0 ≤ 100000 by decide, fun g hg => by cases hg⟩
 ·exact ⟨show 0 ≤ 100000 by decide, fun v hv => (by cases hv), show 0 ≤ 100000 by decide, show 0 ≤ 100000 by decide, show 0 ≤ 100000 by decide, fun g hg => by cases hg⟩
theorem zkl {Ab cb bs Ak ck ks} (hk : ks.map Prod.snd = [(1 : Rat), -1]) : ∀ l ∈ [cvL Ab cb bs Ak ck ks 1, reL], l.kern.length ≤ 1000 := by
 have h2 := congrArg List.length hk
 simp only [List.length_map, List.length_cons, List.length_nil] at h2
 intro l hl
 simp only [List.mem_cons, List.not_mem_nil, or_false] at hl
 rcases hl with rfl | rfl
 ·show ks.length ≤ _; omega
 ·decide
theorem zki {l : List VeV} (h : l.map (fun v => v.ts.map plq) = [[(0, 1), (1, -1)], [(1, 1), (2, -1)]]) : l.length = 2 ∧ (∀ v ∈ l, v.ts.length ≤ 1000000) ∧ ∀ v ∈ l, ∀ t ∈ v.ts, Sz t.q 1000 := by
 have h1 := congrArg List.length h
 rw [List.length_map] at h1
 have hv : ∀ v ∈ l, v.ts.map plq = [(0, (1 : Rat)), (1, -1)] ∨ v.ts.map plq = [(1, (1 : Rat)), (2, -1)] := fun v hv => by
  have h2 : v.ts.map plq ∈ l.map (fun v => v.ts.map plq) := List.mem_map_of_mem (f := fun v : VeV => v.ts.map plq) hv
  rw [h] at h2
  simpa using h2
 refine ⟨h1, fun v hm => ?_, fun v hm t ht => ?_⟩
 ·rcases hv v hm with e | e <;> (have := congrArg List.length e; simp at this; omega)
 ·have h3 : plq t ∈ v.ts.map plq := List.mem_map_of_mem (f := plq) ht
  refine Sz.up (lits t.q ?_) (by decide)
  rcases hv v hm with e | e <;> (rw [e] at h3; simp [plq] at h3; rcases h3 with h3 | h3) <;> simp [h3]
theorem zkv {l : List (RV × Rat)} (h : l.map Prod.snd = [5, 5]) : l.map Prod.snd = [5, 5] ∧ l.length = 2 ∧ ∀ p ∈ l, Sz p.2 1000 := by
 have h1 := congrArg List.length h
 rw [List.length_map] at h1
 refine ⟨h, h1, fun p hp => ?_⟩
 have h2 : p.2 ∈ l.map Prod.snd := List.mem_map_of_mem (f := Prod.snd) hp
 rw [h] at h2
 refine Sz.up (lits p.2 (.inr (.inr ?_))) (by decide)
 simpa using h2
theorem Env.nm9 {w W : World} {bs : List Bo} {old new : World → Prop} (h : Env w bs old new W) : ∃ W2, W = W2 ∧ Hid (Env w bs old new W2) := ⟨W, rfl, zmZ h⟩
theorem Env.rebase9 {w W : World} {old new : World → Prop} (h : Env w [] old new W) : Env W [] (fun V => old V ∧ new V) (fun _ => True) W := Env.start ((h.rso.lt.mono fun _ h => h.2).and (h.rsn.lt.mono fun _ h => h.2))
set_option maxRecDepth 100000 in
theorem zaY (w : World) (hT : Tz w) : Calls Tryz.prog 7 #[] w fun e w' => e = .returned (.bool true) ∧ Below w.heap.size w w' := by
 have HE := zmZ (Env.start (hT.old))
 clear hT
 go_enter Tryz.func7, Tryz.ntmps7
 go_wp2_with fail
 refine (zhw _ 1 HE.out.o).mono ?_
 rintro e w1 ⟨g, Ab, cb, bs, Ak, ck, ks, rfl, hb0, hk0, hk9, hb9⟩
 have Hb := zmZ hb0
 have Hk := zmZ hk0
 replace HE := zmZ (Env.ret HE.out hk9 hb9)
 clear hb0 hk0 hk9 hb9
 go_wp2_with fail
 refine (zcy _ 1 (by decide) (by decide) ⟨3, some ⟨g, 0, none⟩, 2, [cvL Ab cb bs Ak ck ks 1, reL]⟩ (cv_d Hb.out Hk.out HE.out.n.1) ⟨show 2 ≤ 100000 by decide, fun l hl => ?_⟩ (fun l hl => ?_) HE.out.o 2 rfl).mono ?_
 ·exact zk5 Hb.out Hk.out l hl
 ·have := (zk5 (Ab := Ab) (cb := cb) (Ak := Ak) (ck := ck) Hb.out Hk.out l hl).kern
  have := zkl (Ab := Ab) (cb := cb) (Ak := Ak) (ck := ck) Hk.out l hl
  omega
 rintro e w2 (⟨err, h0, hN, -, -⟩ | ⟨-, A2, c2, ls, rfl, -, hm, hk9, hb9⟩)
 ·exact absurd (NetP.uniq hN (zls Hb.out Hk.out (HE.out.n.1.ok _ (List.mem_cons_self ..)))) h0
 obtain ⟨y0, y1, rfl, q0, q1⟩ := zlE hm
 have HQ0 := zmZ (q0.trans ((if_pos rfl).trans (cv_q Hb.out Hk.out)))
 have HQ1 := zmZ q1
 replace HE := zmZ (Env.ret HE.out hk9 hb9)
 clear hm q0 q1 hk9 hb9
 replace HE := zmZ (HE.out.imp (φ := Tz) (ψ := fun V => LsR 13 lacells LaN A2 [y0, y1] V) (fun _ h => h) (fun _ h => h.1))
 have hkd0 : y0.kind = 1 := congrArg LQ.kind HQ0.out
 have hkd1 : y1.kind = 3 := (congrArg LQ.kind HQ1.out).trans rfl
 go_upto_region 2 with fail
 obtain ⟨W3, g3, hW, hg, HE⟩ := Env.al HE.out 24 #[.int .i64 3, .slice A2 2 c2]
 rw [hW, hg]
 clear hW hg
 go_wp2_with fail
 refine (zd8 _ 0 (1) (1) (by decide +kernel) (by decide) (by decide) HE.out.o).mono ?_
 rintro e w4 ⟨k1, rfl, hk9, hb9⟩
 replace HE := zmZ (Env.ret HE.out hk9 hb9)
 clear hk9 hb9
 go_wp2_with fail
 refine (zd8 _ 1 (-1) (-1) (by decide +kernel) (by decide) (by decide) HE.out.o).mono ?_
 rintro e w4 ⟨k2, rfl, hk9, hb9⟩
 replace HE := zmZ (Env.ret HE.out hk9 hb9)
 clear hk9 hb9
 go_wp2_with fail
 obtain ⟨W4, ga, hW, hg, HE⟩ := Env.al HE.out 45 #[.int .i64 0, .bool k1.num.neg, .slice k1.num.A k1.num.k k1.num.c, .bool k1.den.neg, .slice k1.den.A k1.den.k k1.den.c, .int .i64 1, .bool k2.num.neg, .slice k2.num.A k2.num.k k2.num.c, .bool k2.den.neg, .slice k2.den.A k2.den.k k2.den.c]
 rw [hW, hg]
 clear hW hg
 refine (zd8 _ 1 (1) (1) (by decide +kernel) (by decide) (by decide) HE.out.o).mono ?_
 rintro e w4 ⟨k3, rfl, hk9, hb9⟩
 replace HE := zmZ (Env.ret HE.out hk9 hb9)
 clear hk9 hb9
 go_wp2_with fail
 refine (zd8 _ 2 (-1) (-1) (by decide +kernel) (by decide) (by decide) HE.out.o).mono ?_
 rintro e w4 ⟨k4, rfl, hk9, hb9⟩
 replace HE := zmZ (Env.ret HE.out hk9 hb9)
 clear hk9 hb9
 go_upto_region 3 with fail
 obtain ⟨W6, hW6, HE3⟩ := Env.nm9 ((HE.out.new_ (g := w4.heap.size) rfl 45 #[.int .i64 1, .bool k3.num.neg, .slice k3.num.A k3.num.k k3.num.c, .bool k3.den.neg, .slice k3.den.A k3.den.k k3.den.c, .int .i64 2, .bool k4.num.neg, .slice k4.num.A k4.num.k k4.num.c, .bool k4.den.neg, .slice k4.den.A k4.den.k k4.den.c]).new_ (g := (w4.heap.size + 1)) (by simp) 43 #[.slice (some ⟨ga, 0, none⟩) 2 2, .slice (some ⟨w4.heap.size, 0, none⟩) 2 2])
 rw [hW6]
 clear hW6 HE
 have HE := HE3
 clear HE3
 have HBl := zmZ HE.out.bel
 replace HE := zmZ ((Env.rebase9 ((((HE.out.read).read).read).read)).imp (φ := (fun V => CB g3 #[.int .i64 3, .slice A2 2 c2] V ∧ LsR 13 lacells LaN A2 [y0, y1] V ∧ LsR 1 vecells (veF teN) (some ⟨(w4.heap.size + 1), 0, none⟩) ([⟨some ⟨ga, 0, none⟩, 2, [⟨0, k1, 1⟩, ⟨1, k2, -1⟩]⟩, ⟨some ⟨w4.heap.size, 0, none⟩, 2, [⟨1, k3, 1⟩, ⟨2, k4, -1⟩]⟩] : List VeV) V ∧ Tz V)) (ψ := fun _ => True) (fun V h => ⟨Blk.cb h.2.1, h.2.2.2.2.2.2.2.2.2, (show LsR 1 vecells (veF teN) (some ⟨(w4.heap.size + 1), 0, none⟩) ([⟨some ⟨ga, 0, none⟩, 2, [⟨0, k1, 1⟩, ⟨1, k2, -1⟩]⟩, ⟨some ⟨w4.heap.size, 0, none⟩, 2, [⟨1, k3, 1⟩, ⟨2, k4, -1⟩]⟩] : List VeV) V from zmF h.2.2.2.2.1 (fun x hx => by
  simp only [List.mem_cons, List.not_mem_nil, or_false] at hx
  rcases hx with rfl | rfl
  ·exact ls2t h.2.2.1 (fun t ht => by
    simp only [List.mem_cons, List.not_mem_nil, or_false] at ht
    rcases ht with rfl | rfl
    ·exact h.2.2.2.2.2.2.2.2.1
    ·exact h.2.2.2.2.2.2.2.1)
  ·exact ls2t h.2.2.2.1 (fun t ht => by
    simp only [List.mem_cons, List.not_mem_nil, or_false] at ht
    rcases ht with rfl | rfl
    ·exact h.2.2.2.2.2.2.1
    ·exact h.2.2.2.2.2.1))), h.1⟩) (fun _ h => h))
 have HR0 := zmZ (show y0.rows.map (fun v => v.ts.map plq) = ([⟨some ⟨ga, 0, none⟩, 2, [⟨0, k1, 1⟩, ⟨1, k2, -1⟩]⟩, ⟨some ⟨w4.heap.size, 0, none⟩, 2, [⟨1, k3, 1⟩, ⟨2, k4, -1⟩]⟩] : List VeV).map (fun v => v.ts.map plq) from (congrArg LQ.rows HQ0.out).trans rfl)
 have HL0 := zmZ (zki (congrArg LQ.rows HQ0.out))
 have HB0 := zmZ (zkv (congrArg LQ.bias HQ0.out))
 have szl := zb5
 have hadd := za3
 have sll : Sl A2 2 := HE.out.o.2.1.sl
 refine wp_region_noPanic ?_
 refine wp_region_held_drew (S := (fun V => CB g3 #[.int .i64 3, .slice A2 2 c2] V ∧ LC A2 0 y0 V ∧ LC A2 1 y1 V)) (by kernel_rfl) (by first | exact ⟨HE.out.o.1, HE.out.o.2.1.lac 0 (Nat.zero_lt_succ _), HE.out.o.2.1.lac 1 (Nat.one_lt_succ_succ _)⟩ | exact ⟨HE.out.drew.o.1, HE.out.drew.o.2.1.lac 0 (Nat.zero_lt_succ _), HE.out.drew.o.2.1.lac 1 (Nat.one_lt_succ_succ _)⟩) (fun hHeld => ?_)
 replace HE := zmZ HE.out.drew
 refine hT 0 16 hHeld ?_
 refine hT 1 17 hHeld ?_
 refine hT 2 18 hHeld ?_
 refine hT 3 19 hHeld ?_
 refine hT 4 20 hHeld ?_
 refine hT 5 21 hHeld ?_
 refine hT 6 22 hHeld ?_
 refine hT 7 23 hHeld ?_
 refine hT 8 24 hHeld ?_
 refine hT 9 25 hHeld ?_
 refine hT 10 26 hHeld ?_
 refine hT 11 27 hHeld ?_
 refine hT 12 28 hHeld ?_
 refine hT 13 29 hHeld ?_
 refine hT 14 30 hHeld ?_
 refine hT 15 31 hHeld ?_
 refine hT 16 32 hHeld ?_
 refine hT 17 33 hHeld ?_
 refine hT 18 34 hHeld ?_
 refine hT 19 35 hHeld ?_
 refine hT 20 36 hHeld ?_
 refine hT 21 37 hHeld ?_
 refine hT 22 38 hHeld ?_
 refine zcD (i := 23) rfl (by kernel_rfl) (by rfl) (fun K hK => ?_)
 clear hHeld
 simp only [q1, q2, q3]
 go_simp
 refine (zhY _ y0.Ar (some ⟨(w4.heap.size + 1), 0, none⟩) y0.cr 2 y0.rows [⟨some ⟨ga, 0, none⟩, 2, [⟨0, k1, 1⟩, ⟨1, k2, -1⟩]⟩, ⟨some ⟨w4.heap.size, 0, none⟩, 2, [⟨1, k3, 1⟩, ⟨2, k4, -1⟩]⟩] (HE.out.o.2.1.ok y0 (by simp)).rows HE.out.o.2.2.1 HR0.out (by rw [HL0.out.1]; decide) HL0.out.2.1 HL0.out.2.2 _ 2 rfl rfl).mono ?_
 rintro e w8 ⟨rfl, hb⟩
 replace HE := zmZ (Env.call HE.out hb)
 clear hb
 (try (go_wp2_with fail))
 refine hK.out _ _ (by first | exact ⟨HE.out.o.1, HE.out.o.2.1.lac 0 (Nat.zero_lt_succ _), HE.out.o.2.1.lac 1 (Nat.one_lt_succ_succ _)⟩ | exact ⟨HE.out.drew.o.1, HE.out.drew.o.2.1.lac 0 (Nat.zero_lt_succ _), HE.out.drew.o.2.1.lac 1 (Nat.one_lt_succ_succ _)⟩) (fun hHeld => ?_)
 clear hK K
 try simp only [p1, p2, p3, p4]
 refine hT 24 40 hHeld ?_
 refine hT 25 41 hHeld ?_
 refine hT 26 42 hHeld ?_
 refine hT 27 43 hHeld ?_
 refine hT 28 44 hHeld ?_
 refine hT 29 45 hHeld ?_
 refine hT 30 46 hHeld ?_
 refine zcD (i := 31) rfl (by kernel_rfl) (by rfl) (fun K hK => ?_)
 clear hHeld
 simp only [q1, q2, q3]
 go_simp
 (try (go_wp2_with fail))
 obtain ⟨W8, g8, hW, hg, HE⟩ := Env.al HE.out 2 #[.int .i64 5, .int .i64 5]
 rw [hW, hg]
 clear hW hg
 (try (go_wp2_with fail))
 refine hK.out _ _ (by first | exact ⟨HE.out.o.1, HE.out.o.2.1.lac 0 (Nat.zero_lt_succ _), HE.out.o.2.1.lac 1 (Nat.one_lt_succ_succ _)⟩ | exact ⟨HE.out.drew.o.1, HE.out.drew.o.2.1.lac 0 (Nat.zero_lt_succ _), HE.out.drew.o.2.1.lac 1 (Nat.one_lt_succ_succ _)⟩) (fun hHeld => ?_)
 clear hK K
 try simp only [p1, p2, p3, p4]
 refine zcD (i := 32) rfl (by kernel_rfl) (by rfl) (fun K hK => ?_)
 clear hHeld
 simp only [q1, q2, q3]
 go_simp
 refine (zdn _ (some ⟨g8, 0, none⟩) 2 [5, 5] (li2 (HE.out.bx ⟨g8, 2, #[.int .i64 5, .int .i64 5]⟩ (by simp)) (fun _ _ => trivial)) (by decide) (by decide) HE.out.o.2.2.2 2 rfl).mono ?_
 rintro e w9 ⟨A9, c9, os, rfl, -, hos, hk9, hb9⟩
 have Hos := zmZ hos
 replace HE := zmZ (Env.ret HE.out hk9 hb9)
 clear hos hk9 hb9
 (try (go_wp2_with fail))
 refine hK.out _ _ (by first | exact ⟨HE.out.o.1, HE.out.o.2.1.lac 0 (Nat.zero_lt_succ _), HE.out.o.2.1.lac 1 (Nat.one_lt_succ_succ _)⟩ | exact ⟨HE.out.drew.o.1, HE.out.drew.o.2.1.lac 0 (Nat.zero_lt_succ _), HE.out.drew.o.2.1.lac 1 (Nat.one_lt_succ_succ _)⟩) (fun hHeld => ?_)
 clear hK K
 try simp only [p1, p2, p3, p4]
 refine zcD (i := 33) rfl (by kernel_rfl) (by rfl) (fun K hK => ?_)
 clear hHeld
 simp only [q1, q2, q3]
 go_simp
 refine (zh6 _ y0.Ab A9 y0.cb c9 y0.bias os (HE.out.o.2.1.ok y0 (by simp)).bias HE.out.n.1 (HB0.out.1.trans Hos.out.symm) (by have := HB0.out.2.1; omega) HB0.out.2.2 _ _ rfl rfl).mono ?_
 rintro e w8 ⟨rfl, hb⟩
 replace HE := zmZ (Env.call HE.out hb)
 clear hb
 (try (go_wp2_with fail))
 refine hK.out _ _ (by first | exact ⟨HE.out.o.1, HE.out.o.2.1.lac 0 (Nat.zero_lt_succ _), HE.out.o.2.1.lac 1 (Nat.one_lt_succ_succ _)⟩ | exact ⟨HE.out.drew.o.1, HE.out.drew.o.2.1.lac 0 (Nat.zero_lt_succ _), HE.out.drew.o.2.1.lac 1 (Nat.one_lt_succ_succ _)⟩) (fun hHeld => ?_)
 clear hK K
 try simp only [p1, p2, p3, p4]
 refine hT 34 50 hHeld ?_
 refine hT 35 51 hHeld ?_
 refine hT 36 52 hHeld ?_
 refine hT 37 53 hHeld ?_
 refine hT 38 54 hHeld ?_
 refine hT 39 55 hHeld ?_
 refine hT 40 56 hHeld ?_
 refine hT 41 57 hHeld ?_
 refine hT 42 58 hHeld ?_
 refine zeQ (i := 43) (v := ?_) (some 0) rfl rfl (by kernel_rfl) (by kernel_rfl) (by kernel_rfl) (fun _ _ _ h => h) (Or.inl ⟨by rfl, ?_⟩) hHeld ?_
 rotate_left 1
 ·intro w hSw
  (try dsimp only at hSw)
  (first | (go_simp; done) | (go_simp; with_reducible rfl))
 refine wpAnyH_done (by kernel_rfl) ?_ _
 refine NoPanic.normal ?_
 go_wp2_with fail
 go_ret
 exact ⟨rfl, Below.after HBl.out HE.out.bel⟩

theorem Env.more {w W : World} {bs : List Bo} {old new φ : World → Prop} (h : Env w bs old new W) (hr : Rests w (· < w.heap.size) φ) : Env w bs (fun V => φ V ∧ old V) new W :=
 ⟨h.bx, ((hr.below h.bel).mono fun n hn b hb e => by have := h.own b hb; omega).and h.rso, h.rsn, h.bel, h.own, h.nd⟩
end Go.Proofs.YtikmgoefjbhcjaaGreatDoor
