/-
 tripwirelaw14.LowerNumbers. What LowerNumbers' row over the three tables asks: the table of powers of ten out of the row's list, the world of the witness, the last step of a row whose law tells true and leaves its arguments. LowerNumbers returns true, whatever the input; no conditions: the row and its card.
-/
import Derived.Test.YtikmgoefjbhcjaaGreatDoorMI
import Derived.Test.YtikmgoefjbhcjaaGreatDoorQP
import Derived.Test.YtikmgoefjbhcjaaGreatDoorCards
import Derived.Test.YtikmgoefjbhcjaaGreatDoorTie
import Derived.Deep.Slices
import Derived.Lib.SmallJoins
import Derived.WalkKit
import Derived.ProofKit
import Derived.OpenShut
import Derived.Deep.DeepHandedRow
import Derived.Lib.LaidTab
import Derived.Stop.LaidErr
import Derived.Carry
import Derived.ChangeMaps5
namespace Go.Proofs.YtikmgoefjbhcjaaGreatDoor
set_option maxHeartbeats 16000000
open Go.RowKit

def cv1 (Ab : Option Addr) (cb : Nat) (bs : List (RV × Rat)) (Ak : Option Addr) (ck : Nat) (ks : List (RV × Rat)) (s : Int) : LaV := ⟨2, none, 0, [], Ab, cb, bs, 1, 1, 3, 1, 2, 2, s, 1, Ak, ck, ks, none, 0, []⟩
def cvQ (p s : Int) : LQ := if p = 0 then zbY (cvL none 0 [(zfi, 5)] none 0 [(zfi, 1), (zfi, -1)] s) else zbY (cv1 none 0 [(zfi, 5)] none 0 [(zfi, 0), (zfi, 0), (zfi, 1), (zfi, -1)] s)
structure CvOk (p s : Int) (l : LaV) : Prop where
 kind : l.kind = 2
 q : zbY l = cvQ p s
 z : ∀ x ∈ l.bias.map Prod.snd ++ l.kern.map Prod.snd, Sz x 1
 rows : l.rows = []
 grs : l.grs = []
 s : ConvS l
 n : l.ch * l.high * l.wide = 3
 u : ¬ (256 < zae l 3 ∨ 16384 < 0 + zay l)
 t : zae l 3 ≤ 100 ∧ zay l ≤ 100
 t0 : 0 ≤ zae l 3 ∧ 0 ≤ zay l
theorem zpT (q : Rat) (h : q = 0 ∨ q = 1 ∨ q = -1 ∨ q = 5) : Sz q 1 := by
 rcases h with rfl | rfl | rfl | rfl <;> refine ⟨?_, ?_⟩ <;> decide +kernel
theorem zrn {Ab cb bs Ak ck ks} {s : Int} (hs : s = 1 ∨ s = 2 ∨ s = 3) (hb : bs.map Prod.snd = [(5 : Rat)]) (hk : ks.map Prod.snd = [(1 : Rat), -1]) : CvOk 0 s (cvL Ab cb bs Ak ck ks s) := by
 have h1 := congrArg List.length hb
 have h2 := congrArg List.length hk
 simp only [List.length_map, List.length_cons, List.length_nil] at h1 h2
 refine ⟨rfl, ?_, ?_, rfl, rfl, ⟨?_, ?_, ?_, ?_, ?_, ?_, ?_⟩, ?_, ?_, ?_, ?_⟩
 ·unfold cvQ zbY nRows nCols cvL
  dsimp only
  rw [hb, hk, if_pos rfl]
  rfl
 ·intro x hx
  rw [show (cvL Ab cb bs Ak ck ks s).bias = bs from rfl, show (cvL Ab cb bs Ak ck ks s).kern = ks from rfl, hb, hk] at hx
  refine zpT x ?_
  simp at hx
  rcases hx with h | h | h <;> simp [h]
 ·unfold sidesP side cvL; dsimp only; omega
 ·unfold cvL; dsimp only; omega
 ·unfold cvL; dsimp only; omega
 ·show (ks.length : Int) = _; rw [h2]; unfold cvL; dsimp only; decide
 ·show (bs.length : Int) = _; rw [h1]; unfold cvL; dsimp only; decide
 ·unfold zbA zbx cvL; dsimp only; rcases hs with rfl | rfl | rfl <;> decide
 ·show ks.length ≤ _; omega
 ·unfold cvL; dsimp only; decide
 ·rcases hs with rfl | rfl | rfl <;> simp [zae, zay, zbA, zbx, cvL]
 ·rcases hs with rfl | rfl | rfl <;> simp [zae, zay, zbA, zbx, cvL]
 ·rcases hs with rfl | rfl | rfl <;> simp [zae, zay, zbA, zbx, cvL]
theorem zrx {Ab cb bs Ak ck ks} {s : Int} (hs : s = 1 ∨ s = 2 ∨ s = 3) (hb : bs.map Prod.snd = [(5 : Rat)]) (hk : ks.map Prod.snd = [(0 : Rat), 0, 1, -1]) : CvOk 1 s (cv1 Ab cb bs Ak ck ks s) := by
 have h1 := congrArg List.length hb
 have h2 := congrArg List.length hk
 simp only [List.length_map, List.length_cons, List.length_nil] at h1 h2
 refine ⟨rfl, ?_, ?_, rfl, rfl, ⟨?_, ?_, ?_, ?_, ?_, ?_, ?_⟩, ?_, ?_, ?_, ?_⟩
 ·unfold cvQ zbY nRows nCols cv1
  dsimp only
  rw [hb, hk, if_neg (by decide)]
  rfl
 ·intro x hx
  rw [show (cv1 Ab cb bs Ak ck ks s).bias = bs from rfl, show (cv1 Ab cb bs Ak ck ks s).kern = ks from rfl, hb, hk] at hx
  refine zpT x ?_
  simp at hx
  rcases hx with h | h | h | h <;> simp [h]
 ·unfold sidesP side cv1; dsimp only; omega
 ·unfold cv1; dsimp only; omega
 ·unfold cv1; dsimp only; omega
 ·show (ks.length : Int) = _; rw [h2]; unfold cv1; dsimp only; decide
 ·show (bs.length : Int) = _; rw [h1]; unfold cv1; dsimp only; decide
 ·unfold zbA zbx cv1; dsimp only; rcases hs with rfl | rfl | rfl <;> decide
 ·show ks.length ≤ _; omega
 ·unfold cv1; dsimp only; decide
 ·rcases hs with rfl | rfl | rfl <;> simp [zae, zay, zbA, zbx, cv1]
 ·rcases hs with rfl | rfl | rfl <;> simp [zae, zay, zbA, zbx, cv1]
 ·rcases hs with rfl | rfl | rfl <;> simp [zae, zay, zbA, zbx, cv1]
theorem CvOk.net {p s : Int} {l : LaV} (h : CvOk p s l) {g : Nat} {V : World} (hN : LaN l V) : NetP V ⟨3, some ⟨g, 0, none⟩, 2, [l, reL]⟩ 0 := by
 refine .inr ⟨⟨show (1 : Int) ≤ 3 by decide, show (3 : Int) ≤ 64 by decide, show 2 ≤ 16 by decide⟩, .inr ⟨.inr (.inl ⟨h.kind, h.s.s, h.s.pad, h.n, h.s.h, h.s.k, h.s.b, ⟨h.rows, h.grs⟩, hN.kern.ok, hN.bias.ok⟩), .inr ⟨h.u, ?_⟩⟩⟩
 refine .inr ⟨.inr (.inr (.inl ⟨rfl, ⟨rfl, rfl, rfl, rfl, rfl, rfl, rfl, rfl, rfl⟩, rfl, rfl, rfl⟩)), .inr ⟨?_, rfl⟩⟩
 have h1 := h.t
 have h2 := h.t0
 rw [show zae reL (zae l 3) = zae l 3 from rfl, show zay reL = 0 from rfl]
 omega
theorem CvOk.d {p s : Int} {l : LaV} (h : CvOk p s l) {g : Nat} {V : World} (hN : LsR 13 lacells LaN (some ⟨g, 0, none⟩) [l, reL] V) : NeD 1 ⟨3, some ⟨g, 0, none⟩, 2, [l, reL]⟩ V := by
 refine LsR.imp hN fun x hx hn => ?_
 simp only [List.mem_cons, List.not_mem_nil, or_false] at hx
 rcases hx with rfl | rfl
 ·refine ⟨by rw [h.rows]; exact ⟨by have := hn.rows.el; rw [h.rows] at this; exact this, by simp⟩, hn.bias.imp fun p hp h9 => RatN.rat h9 (h.z _ (List.mem_append_left _ (List.mem_map_of_mem (f := Prod.snd) hp))), hn.kern.imp fun p hp h9 => RatN.rat h9 (h.z _ (List.mem_append_right _ (List.mem_map_of_mem (f := Prod.snd) hp))), hn.grs⟩
 ·exact ⟨LsR.nil_ none, LsR.nil_ none, LsR.nil_ none, LsR.nil_ none⟩
theorem CvOk.las {p s : Int} {l : LaV} (h : CvOk p s l) : ∀ x ∈ [l, reL], LaT x ∧ x.kern.length ≤ 1000 := by
 intro x hx
 simp only [List.mem_cons, List.not_mem_nil, or_false] at hx
 rcases hx with rfl | rfl
 ·have h1 := h.s.e
  have h2 := h.s.b
  have h3 := h.s.s.nn
  exact ⟨{ rows := by rw [h.rows]; exact Nat.zero_le _, row := fun v hv => (by rw [h.rows] at hv; cases hv), bias := by omega, kern := by omega, grs := by rw [h.grs]; exact Nat.zero_le _, gr := fun g hg => (by rw [h.grs] at hg; cases hg), row1 := fun v hv => (by rw [h.rows] at hv; cases hv) }, h1⟩
 ·exact ⟨{ rows := Nat.zero_le _, row := fun v hv => (by cases hv), bias := Nat.zero_le _, kern := Nat.zero_le _, grs := Nat.zero_le _, gr := fun g hg => (by cases hg), row1 := fun v hv => (by cases hv) }, Nat.zero_le _⟩
theorem CvOk.lq {p s : Int} {l : LaV} (h : CvOk p s l) : [l, reL].map lowQ = [cvQ p s, reL.q] ∧ [l, reL].map zlD = [cvQ p s, reL.q] := by
 constructor
 ·show [lowQ l, lowQ reL] = _
  rw [show lowQ l = zbY l from if_pos h.kind, h.q]; rfl
 ·show [zlD l, zlD reL] = _
  rw [show zlD l = zbY l from if_pos h.kind, h.q]; rfl
theorem CvOk.sz {p s : Int} {l : LaV} (h : CvOk p s l) : ∀ q ∈ [cvQ p s, reL.q], q.Sz' 1 ∧ q.Ln := by
 intro q hq
 simp only [List.mem_cons, List.not_mem_nil, or_false] at hq
 rcases hq with rfl | rfl
 ·rw [← h.q]
  refine ⟨zjd ⟨fun r hr => ?_, fun x hx => h.z x (List.mem_append_left _ hx), fun x hx => h.z x (List.mem_append_right _ hx)⟩ (Nat.le_refl _), zja h.s⟩
  rw [show l.q.rows = [] from by unfold LaG.q; dsimp only; rw [h.rows]; rfl] at hr
  cases hr
 ·exact ⟨⟨fun r hr => (by cases hr), fun x hx => (by cases hx), fun x hx => (by cases hx)⟩, ⟨Nat.zero_le _, fun r hr => (by cases hr), Nat.zero_le _, Nat.zero_le _, Nat.zero_le _, fun r hr => (by cases hr)⟩⟩
theorem zpQ {p s : Int} {l1 l2 : LaV} (h1 : CvOk p s l1) (h2 : CvOk p s l2) {V : World} {A B : Option Addr} {c d : Nat} {ls ms : List LaV} (hA : LsR 13 lacells LaN A ls V) (hB : El V 13 B (ms.map lacells) ∧ ∀ l ∈ ms, (l ∈ [l2, reL] ∧ ¬ l.kind = 2) ∨ LaN l V) (e1 : ls.map LaG.q = [l1, reL].map lowQ) (e2 : ms.map LaG.q = [l2, reL].map zlD) :
 NwD ⟨3, A, c, ls.map (laF fN)⟩ V ∧ NwD ⟨3, B, d, ms.map (laF fN)⟩ V ∧ (∀ x ∈ ls.map (laF fN), LwS x) ∧ (⟨3, A, c, ls.map (laF fN)⟩ : NeW).wq = (⟨3, B, d, ms.map (laF fN)⟩ : NeW).wq := by
 rw [h1.lq.1] at e1
 rw [h2.lq.2] at e2
 have hzl : ∀ y ∈ ls, y.q.Sz' 1 ∧ y.q.Ln := fun y hy => h1.sz _ (by rw [← e1]; exact List.mem_map_of_mem (f := LaG.q) hy)
 have hzm : ∀ y ∈ ms, y.q.Sz' 1 ∧ y.q.Ln := fun y hy => h2.sz _ (by rw [← e2]; exact List.mem_map_of_mem (f := LaG.q) hy)
 refine ⟨zjf hA.el fun l hl => (hA.ok l hl).w (hzl l hl).1 (by decide), zjf hB.1 fun l hl => LaN.w ?_ (hzm l hl).1 (by decide), fun x hx => ?_, ?_⟩
 ·rcases hB.2 l hl with ⟨h, hk⟩ | h
  ·simp only [List.mem_cons, List.not_mem_nil, or_false] at h
   rcases h with rfl | rfl
   ·exact absurd h2.kind hk
   ·exact zlP V
  ·exact h
 ·obtain ⟨y, hy, rfl⟩ := List.mem_map.1 hx
  exact (hzl y hy).2.w fN
 ·unfold NeG.wq
  simp only [List.map_map]
  have g1 : ls.map (LaG.wq ∘ laF fN) = (ls.map LaG.q).map LQ.w := by rw [List.map_map]; exact List.map_congr_left fun l _ => zjT l
  have g2 : ms.map (LaG.wq ∘ laF fN) = (ms.map LaG.q).map LQ.w := by rw [List.map_map]; exact List.map_congr_left fun l _ => zjT l
  rw [g1, g2, e1, e2]
def zrp (p s : Int) (w : World) (e : Ending) (w' : World) : Prop := ∃ g l, e = .returned (.agg #[.int .i64 3, .slice (some ⟨g, 0, none⟩) 2 2]) ∧ CvOk p s l ∧ Rests w' (w.heap.size ≤ ·) (LsR 13 lacells LaN (some ⟨g, 0, none⟩) [l, reL]) ∧ Below w.heap.size w w'
theorem Env.put_at9 {w W : World} {bs : List Bo} {old new : World → Prop} {g : Nat} {t : TypeId} {cs : Array Value} (l : List Bo) (h : Env w (l ++ ⟨g, t, cs⟩ :: bs) old new W) (i : Nat) (v : Value) : Env w (l ++ ⟨g, t, cs.setIfInBounds i v⟩ :: bs) old new (W.setCell ⟨g, i, none⟩ v) :=
 ((h.perm List.perm_middle.symm).put i v).perm List.perm_middle
theorem li4 {W : World} {g : Nat} {t : TypeId} {x y z u : Int} (h : Blk W g t #[.int .i64 x, .int .i64 y, .int .i64 z, .int .i64 u]) : LsR 1 icells okI (some ⟨g, 0, none⟩) [x, y, z, u] W := by
 refine ⟨⟨Sl.some_ _ _ _, fun i hi => ?_, fun i hi j hj => ?_⟩, fun _ _ => trivial⟩
 ·match i, hi with
  | 0, _ => rfl
  | 1, _ => rfl
  | 2, _ => rfl
  | 3, _ => rfl
 ·rw [za4, Nat.zero_add, h.cell]
  match i, hi, j, hj with
  | 0, _, 0, _ => rfl
  | 1, _, 0, _ => rfl
  | 2, _, 0, _ => rfl
  | 3, _, 0, _ => rfl
set_option maxRecDepth 100000 in
theorem zqq (w : World) (s : Int) (hs : s = 1 ∨ s = 2 ∨ s = 3) (hT : Tz w) : Calls Tryz.prog 17 #[.int .i64 1, .int .i64 s] w (zrp 1 s w) := by
 obtain ⟨W0, hW0⟩ : ∃ W0, W0 = (w.alloc (.cells #[.int .i64 0, .slice none 0 0] 24)) := ⟨_, rfl⟩
 have HE := zmZ (Env.lay1 (Env.start (hT.old)) hW0)
 subst hW0
 have c := Env.c1 HE.out
 clear hT
 go_enter Tryz.func17, Tryz.ntmps17
 go_wp2_with fail
 clear c
 have HE1 := zmZ (HE.out.new_ (g := (w.heap.size + 1)) (by simp) 2 #[.int .i64 1, .int .i64 (-1)])
 clear HE
 have HE := HE1
 clear HE1
 refine (zdn _ (some ⟨(w.heap.size + 1), 0, none⟩) 2 [1, -1] (li2 (HE.out.bx ⟨(w.heap.size + 1), 2, #[.int .i64 (1), .int .i64 (-1)]⟩ (by simp)) (fun _ _ => trivial)) (by decide) (by decide) HE.out.o 2 rfl).mono ?_
 rintro e w9 ⟨A1, c1, ks, rfl, -, hks, hk9, hb9⟩
 have Hks := zmZ hks
 replace HE := zmZ (Env.ret HE.out hk9 hb9)
 clear hks hk9 hb9
 go_wp2_with fail
 obtain ⟨W2, g2, hW, hg, HE⟩ := Env.al HE.out 2 #[.int .i64 5]
 rw [hW, hg]
 clear hW hg
 refine (zdn _ (some ⟨g2, 0, none⟩) 1 [5] (li1 (HE.out.bx ⟨g2, 2, #[.int .i64 (5)]⟩ (by simp)) (fun _ _ => trivial)) (by decide) (by decide) HE.out.o 1 rfl).mono ?_
 rintro e w9 ⟨A2, c2, bs, rfl, -, hbs, hk9, hb9⟩
 have Hbs := zmZ hbs
 replace HE := zmZ (Env.ret HE.out hk9 hb9)
 clear hbs hk9 hb9
 go_upto_region 2 with fail
 obtain ⟨W3, g3, hW, hg, HE⟩ := Env.al HE.out 36 #[.int .u8 2, .slice none 0 0, .slice A2 (List.length bs) c2, .int .i64 1, .int .i64 1, .int .i64 3, .int .i64 1, .int .i64 1, .int .i64 2, .int .i64 s, .int .i64 0, .slice A1 (List.length ks) c1, .slice none 0 0]
 rw [hW, hg]
 clear hW hg
 go_wp2_with fail
 obtain ⟨W4, g4, hW, hg, HE⟩ := Env.al HE.out 2 #[.int .i64 0, .int .i64 0, .int .i64 1, .int .i64 (-1)]
 rw [hW, hg]
 clear hW hg
 refine (zdn _ (some ⟨g4, 0, none⟩) 4 [0, 0, 1, -1] (li4 (HE.out.bx ⟨g4, 2, #[.int .i64 (0), .int .i64 (0), .int .i64 (1), .int .i64 (-1)]⟩ (by simp))) (by decide) (by decide) HE.out.o 4 rfl).mono ?_
 rintro e w9 ⟨A4, c4, kz, rfl, -, hkz, hk9, hb9⟩
 have Hkz := zmZ hkz
 replace HE := zmZ (Env.ret HE.out hk9 hb9)
 clear hkz hk9 hb9
 have c := (HE.out.bx ⟨g3, 36, #[.int .u8 2, .slice none 0 0, .slice A2 (List.length bs) c2, .int .i64 1, .int .i64 1, .int .i64 3, .int .i64 1, .int .i64 1, .int .i64 2, .int .i64 s, .int .i64 0, .slice A1 (List.length ks) c1, .slice none 0 0]⟩ (by simp)).cb
 go_upto_region 4 with fail
 obtain ⟨W5, hW5, HE2⟩ := Env.nm9 (show Env w (⟨g4, 2, #[.int .i64 0, .int .i64 0, .int .i64 1, .int .i64 (-1)]⟩ :: ⟨g3, 36, #[.int .u8 2, .slice none 0 0, .slice A2 (List.length bs) c2, .int .i64 1, .int .i64 1, .int .i64 3, .int .i64 1, .int .i64 2, .int .i64 2, .int .i64 s, .int .i64 1, .slice A4 (List.length kz) c4, .slice none 0 0]⟩ :: [⟨g2, 2, #[.int .i64 5]⟩, ⟨(w.heap.size + 1), 2, #[.int .i64 1, .int .i64 (-1)]⟩, ⟨w.heap.size, 24, #[.int .i64 0, .slice none 0 0]⟩]) _ _ _ from (Env.put_at9 [⟨g4, 2, #[.int .i64 0, .int .i64 0, .int .i64 1, .int .i64 (-1)]⟩] (Env.put_at9 [⟨g4, 2, #[.int .i64 0, .int .i64 0, .int .i64 1, .int .i64 (-1)]⟩] (Env.put_at9 [⟨g4, 2, #[.int .i64 0, .int .i64 0, .int .i64 1, .int .i64 (-1)]⟩] HE.out 7 (.int .i64 2)) 11 (.slice A4 (List.length kz) c4)) 10 (.int .i64 1)))
 rw [hW5]
 clear hW5 HE c
 have HE := HE2
 clear HE2
 have c := (HE.out.bx ⟨g3, 36, #[.int .u8 2, .slice none 0 0, .slice A2 (List.length bs) c2, .int .i64 1, .int .i64 1, .int .i64 3, .int .i64 1, .int .i64 2, .int .i64 2, .int .i64 s, .int .i64 1, .slice A4 (List.length kz) c4, .slice none 0 0]⟩ (by simp)).cb
 have HE2 := zmZ (HE.out.new_ (g := W5.heap.size) rfl 36 #[.int .u8 2, .slice none 0 0, .slice A2 (List.length bs) c2, .int .i64 1, .int .i64 1, .int .i64 3, .int .i64 1, .int .i64 2, .int .i64 2, .int .i64 s, .int .i64 1, .slice A4 (List.length kz) c4, .slice none 0 0, .int .u8 3, .slice none 0 0, .slice none 0 0, .int .i64 0, .int .i64 0, .int .i64 0, .int .i64 0, .int .i64 0, .int .i64 0, .int .i64 0, .int .i64 0, .slice none 0 0, .slice none 0 0])
 have c0 := (HE2.out.bx ⟨w.heap.size, 24, #[.int .i64 0, .slice none 0 0]⟩ (by simp)).cb
 go_wp2_with fail
 have hE := Env.put2_at [⟨W5.heap.size, 36, #[.int .u8 2, .slice none 0 0, .slice A2 (List.length bs) c2, .int .i64 1, .int .i64 1, .int .i64 3, .int .i64 1, .int .i64 2, .int .i64 2, .int .i64 s, .int .i64 1, .slice A4 (List.length kz) c4, .slice none 0 0, .int .u8 3, .slice none 0 0, .slice none 0 0, .int .i64 0, .int .i64 0, .int .i64 0, .int .i64 0, .int .i64 0, .int .i64 0, .int .i64 0, .int .i64 0, .slice none 0 0, .slice none 0 0]⟩, ⟨g4, 2, #[.int .i64 0, .int .i64 0, .int .i64 1, .int .i64 (-1)]⟩, ⟨g3, 36, #[.int .u8 2, .slice none 0 0, .slice A2 (List.length bs) c2, .int .i64 1, .int .i64 1, .int .i64 3, .int .i64 1, .int .i64 2, .int .i64 2, .int .i64 s, .int .i64 1, .slice A4 (List.length kz) c4, .slice none 0 0]⟩, ⟨g2, 2, #[.int .i64 5]⟩, ⟨(w.heap.size + 1), 2, #[.int .i64 1, .int .i64 (-1)]⟩] HE2.out (.int .i64 3) (.slice (some ⟨W5.heap.size, 0, none⟩) 2 2)
 have c9 := (hE.bx ⟨w.heap.size, 24, #[.int .i64 3, .slice (some ⟨W5.heap.size, 0, none⟩) 2 2]⟩ (by simp)).cb
 have hE2 := hE.read
 exact bodyPost_ret (v := .agg #[.int .i64 3, .slice (some ⟨W5.heap.size, 0, none⟩) 2 2]) (by simp [results, Tryz.results17, go_sem, c9]) rfl ⟨W5.heap.size, cv1 A2 c2 bs A4 c4 kz s, rfl, zrx hs (Hbs.out.trans (by decide +kernel)) (Hkz.out.trans (by decide +kernel)), (hE2.rsn.imp fun V h => ls2l (x := cv1 A2 c2 bs A4 c4 kz s) (y := reL) h.1 (fun l hl => by
  simp only [List.mem_cons, List.not_mem_nil, or_false] at hl
  rcases hl with rfl | rfl
  ·exact ⟨LsR.nil_ none, h.2.2.1, h.2.1, LsR.nil_ none⟩
  ·exact zlP V)).mono fun _ h => h.1, hE2.bel⟩
theorem zo6 (w : World) (p s : Int) (hp : p = 0 ∨ p = 1) (hs : s = 1 ∨ s = 2 ∨ s = 3) (hT : Tz w) : Calls Tryz.prog 17 #[.int .i64 p, .int .i64 s] w (zrp p s w) := by
 rcases hp with rfl | rfl
 ·refine (zhw w s hT).mono ?_
  rintro e w' ⟨g, Ab, cb, bs, Ak, ck, ks, rfl, hb, hk, hr, hw⟩
  exact ⟨g, _, rfl, zrn hs hb hk, hr, hw⟩
 ·exact zqq w s hs hT
theorem zql (w : World) (p s : Int) (g : Nat) (l : LaV) (h : CvOk p s l) (hN : LsR 13 lacells LaN (some ⟨g, 0, none⟩) [l, reL] w) : Calls Tryz.prog 18 #[.agg #[.int .i64 3, .slice (some ⟨g, 0, none⟩) 2 2]] w fun e w' => ∃ (A : Option Addr) (c : Nat) (ls : List LaV), e = .returned (.tuple #[.agg #[.int .i64 3, .slice A (List.length ls) c], .int .i64 0]) ∧ ls.map LaG.q = [l, reL].map zlD ∧ Rests w' (w.heap.size ≤ ·) (fun V => El V 13 A (ls.map lacells) ∧ ∀ x ∈ ls, (x ∈ [l, reL] ∧ ¬ x.kind = 2) ∨ LaN x V) ∧ Below w.heap.size w w' := by
 refine (zoR w 1 (by decide) (by decide) ⟨3, some ⟨g, 0, none⟩, 2, [l, reL]⟩ (h.d hN) ⟨show 2 ≤ 100000 by decide, fun x hx => (h.las x hx).1⟩ (fun x hx => (h.las x hx).2) 2 rfl).mono ?_
 rintro e w' (⟨err, h0, hN', -, -⟩ | ⟨-, h⟩)
 ·exact absurd (NetP.uniq hN' (h.net (hN.ok _ (List.mem_cons_self ..)))) h0
 ·exact h
theorem zpW (w : World) (p s : Int) (g : Nat) (l : LaV) (h : CvOk p s l) (hN : LsR 13 lacells LaN (some ⟨g, 0, none⟩) [l, reL] w) (hT : Tz w) : Calls Tryz.prog 9 #[.agg #[.int .i64 3, .slice (some ⟨g, 0, none⟩) 2 2]] w fun e w' => ∃ (A : Option Addr) (c : Nat) (ls : List LaV), e = .returned (.tuple #[.agg #[.int .i64 3, .slice A (List.length ls) c], .int .i64 0]) ∧ ls.map LaG.q = [l, reL].map lowQ ∧ Rests w' (w.heap.size ≤ ·) (LsR 13 lacells LaN A ls) ∧ Below w.heap.size w w' := by
 refine (zcy w 1 (by decide) (by decide) ⟨3, some ⟨g, 0, none⟩, 2, [l, reL]⟩ (h.d hN) ⟨show 2 ≤ 100000 by decide, fun x hx => (h.las x hx).1.toLaS⟩ (fun x hx => (h.las x hx).2) hT 2 rfl).mono ?_
 rintro e w' (⟨err, h0, hN', -, -⟩ | ⟨-, A, c, ls, h1, -, h2⟩)
 ·exact absurd (NetP.uniq hN' (h.net (hN.ok _ (List.mem_cons_self ..)))) h0
 ·exact ⟨A, c, ls, h1, h2⟩
theorem zqi (w : World) (hT : Tz w) : Calls Tryz.prog 9 #[.agg #[.int .i64 0, .slice none 0 0]] w fun e w' => e = .returned (.tuple #[.agg #[.int .i64 0, .slice none 0 0], .int .i64 25]) ∧ Below w.heap.size w w' := by
 refine (zcy w 1 (by decide) (by decide) ⟨0, none, 0, []⟩ (LsR.nil_ none) ⟨Nat.zero_le _, fun x hx => (by cases hx)⟩ (fun x hx => (by cases hx)) hT 0 rfl).mono ?_
 rintro e w' (⟨err, h0, hN', he, hb⟩ | ⟨hN', -⟩)
 ·have : err = 25 := by
   rcases hN' with ⟨-, h⟩ | ⟨h, -⟩
   ·exact h
   ·exact absurd h.1 (by decide)
  subst this
  exact ⟨he, hb⟩
 ·rcases hN' with ⟨-, h⟩ | ⟨h, -⟩
  ·omega
  ·exact absurd h.1 (by decide)
theorem zru : (cvQ 1 1).rows.length = 8 ∧ (cvQ 1 1).rows[0]? = some [((0 : Int), (-1 : Rat))] := by
 unfold cvQ
 rw [if_neg (by decide)]
 exact ⟨by decide +kernel, by decide +kernel⟩
theorem zqb : zny (-1) = [45, 49] := by decide +kernel
set_option maxRecDepth 100000 in
theorem znX (w : World) (hT : Tz w) (ht : Tab w) : Calls Tryz.prog 5 #[] w fun e w' => e = .returned (.bool true) ∧ Below w.heap.size w w' := by
 have HE := zmZ (Env.start ((hT.old).and (ht.old)))
 clear hT ht
 go_enter Tryz.func5, Tryz.ntmps5
 go_upto_region 2 with fail
 go_loopw [1] (fun pv wr => ∃ p : Nat, pv = .int .i64 (p : Int) ∧ p ≤ 2 ∧ Hid (Env w [] (fun V => Tz V ∧ Tab V) (fun _ => True) wr)) (fun pv _ => 2 - (intOf pv).toNat)
 case atStart => exact ⟨0, rfl, by decide, HE⟩
 case round =>
  clear HE
  obtain ⟨p, rfl, hp, HE⟩ := hrel
  by_cases hlp : p < 2
  ·have Hp := zmZ (show (p : Int) = 0 ∨ (p : Int) = 1 by omega)
   have hpd : (p : Int) < 2 := by omega
   go_upto_region 5 with fail
   go_loopw [2] (fun sv wr => ∃ s : Nat, sv = .int .i64 (s : Int) ∧ 1 ≤ s ∧ s ≤ 4 ∧ Hid (Env w [] (fun V => Tz V ∧ Tab V) (fun _ => True) wr)) (fun sv _ => 4 - (intOf sv).toNat)
   case atStart => exact ⟨1, rfl, by decide, by decide, HE⟩
   case round =>
    clear HE
    obtain ⟨s, rfl, hs1, hs, HE⟩ := hrel
    by_cases hls : s < 4
    ·have Hs := zmZ (show (s : Int) = 1 ∨ (s : Int) = 2 ∨ (s : Int) = 3 by omega)
     have hsd : (s : Int) < 4 := by omega
     go_wp2_with fail
     refine (zo6 _ (p : Int) (s : Int) Hp.out Hs.out HE.out.o.1).mono ?_
     rintro e w1 ⟨g1, l1, rfl, hc, hk9, hb9⟩
     have HC1 := zmZ hc
     replace HE := zmZ (Env.ret HE.out hk9 hb9)
     clear hc hk9 hb9
     go_wp2_with fail
     refine (zpW _ _ _ g1 l1 HC1.out HE.out.n.1 HE.out.o.1).mono ?_
     rintro e w2 ⟨A2, c2, ls, rfl, hq, hk9, hb9⟩
     have HQ2 := zmZ hq
     replace HE := zmZ (Env.ret HE.out hk9 hb9)
     clear hq hk9 hb9
     obtain ⟨n2, hn⟩ : ∃ x, x = List.length ls := ⟨_, rfl⟩
     rw [← hn]
     have Hn2 := zmZ hn
     clear hn
     go_upto_region 8 with fail
     obtain ⟨W3, g3, hW, hg, HE⟩ := Env.al HE.out 24 #[.int .i64 3, .slice A2 n2 c2]
     rw [hW, hg]
     clear hW hg
     go_wp2_with fail
     refine (zo6 _ (p : Int) (s : Int) Hp.out Hs.out HE.out.o.1).mono ?_
     rintro e w1 ⟨g2, l2, rfl, hc, hk9, hb9⟩
     have HC2 := zmZ hc
     replace HE := zmZ (Env.ret HE.out hk9 hb9)
     clear hc hk9 hb9
     go_wp2_with fail
     refine (zql _ _ _ g2 l2 HC2.out HE.out.n.1).mono ?_
     rintro e w2 ⟨A3, c3, ms, rfl, hq, hk9, hb9⟩
     have HQ3 := zmZ hq
     replace HE := zmZ (Env.ret HE.out hk9 hb9)
     clear hq hk9 hb9
     obtain ⟨n3, hn⟩ : ∃ x, x = List.length ms := ⟨_, rfl⟩
     rw [← hn]
     have Hn3 := zmZ hn
     clear hn
     go_upto_region 9 with fail
     obtain ⟨W5, g5, hW, hg, HE⟩ := Env.al HE.out 24 #[.int .i64 3, .slice A3 n3 c3]
     rw [hW, hg]
     clear hW hg
     have k3 := (HE.out.bx ⟨g3, 24, #[.int .i64 3, .slice A2 n2 c2]⟩ (by simp)).cb
     have k5 := (HE.out.bx ⟨g5, 24, #[.int .i64 3, .slice A3 n3 c3]⟩ (by simp)).cb
     go_wp2_with fail
     have HNW := zmZ (zpQ (c := c2) (d := c3) HC1.out HC2.out HE.out.n.2.2.1 HE.out.n.1 HQ2.out HQ3.out)
     have hl2 : ls.length = 2 := by have h9 := congrArg List.length HQ2.out; simpa using h9
     refine (zcY _ ⟨3, A2, c2, ls.map (laF fN)⟩ ⟨3, A3, c3, ms.map (laF fN)⟩ HNW.out.1 HNW.out.2.1 HNW.out.2.2.1 (by show (ls.map (laF fN)).length ≤ _; rw [List.length_map]; omega) HNW.out.2.2.2 n2 n3 (by rw [Hn2.out]; exact (List.length_map _).symm) (by rw [Hn3.out]; exact (List.length_map _).symm)).mono ?_
     rintro e w8 ⟨rfl, hb⟩
     replace HE := zmZ ((((Env.call HE.out hb).read).read).imp (φ := (fun V => Tz V ∧ Tab V)) (ψ := fun _ => True) (fun _ h => h) (fun _ _ => trivial))
     clear hb k3 k5 hl2 HNW
     go_wp2_with fail
     go_roundw
     case rel => exact ⟨s + 1, by go_num, by omega, by omega, HE⟩
     case measure => (simp [intOf] <;> omega)
    ·obtain rfl : s = 4 := by omega
     go_wp2_with fail
     go_roundw
     case rel => exact ⟨p + 1, by go_num, by omega, HE⟩
     case measure => (simp [intOf] <;> omega)
  ·obtain rfl : p = 2 := by omega
   go_wp2_with fail
   refine (zo6 _ 1 1 (.inr rfl) (.inl rfl) HE.out.o.1).mono ?_
   rintro e w1 ⟨g1, l1, rfl, hc, hk9, hb9⟩
   have HC1 := zmZ hc
   replace HE := zmZ (Env.ret HE.out hk9 hb9)
   clear hc hk9 hb9
   go_wp2_with fail
   refine (zpW _ _ _ g1 l1 HC1.out HE.out.n.1 HE.out.o.1).mono ?_
   rintro e w2 ⟨A2, c2, ls, rfl, hq, hk9, hb9⟩
   have HQ2 := zmZ hq
   replace HE := zmZ (Env.ret HE.out hk9 hb9)
   clear hq hk9 hb9
   obtain ⟨n2, hn⟩ : ∃ x, x = List.length ls := ⟨_, rfl⟩
   rw [← hn]
   have Hn2 := zmZ hn
   clear hn
   go_upto_region 12 with fail
   obtain ⟨W3, g7, hW, hg, HE⟩ := Env.al HE.out 24 #[.int .i64 3, .slice A2 n2 c2]
   rw [hW, hg]
   clear hW hg
   go_wp2_with fail
   refine (zqi _ HE.out.o.1).mono ?_
   rintro e w5 ⟨rfl, hb⟩
   replace HE := zmZ (Env.call HE.out hb)
   clear hb
   go_upto_region 13 with fail
   obtain ⟨W6, g9, hW, hg, HE⟩ := Env.al HE.out 24 #[.int .i64 0, .slice none 0 0]
   rw [hW, hg]
   clear hW hg
   obtain ⟨y0, y1, rfl, q0, q1⟩ := zlE (HQ2.out.trans HC1.out.lq.1)
   have HR0 := zmZ (congrArg LQ.rows q0)
   clear q0 q1
   obtain rfl : n2 = 2 := Hn2.out
   have hr8 : y0.rows.length = 8 := by have h9 := congrArg List.length HR0.out; rw [zru.1] at h9; simpa [LaG.q] using h9
   have h0r : 0 < y0.rows.length := by omega
   have HV0 := zmZ (show (y0.rows[0]'h0r).ts.map plq = [((0 : Int), (-1 : Rat))] from by
    have h9 := congrArg (fun x => x[0]?) HR0.out
    rw [zru.2] at h9
    have h8 : y0.q.rows[0]? = some ((y0.rows[0]'h0r).ts.map plq) := by unfold LaG.q; dsimp only; rw [List.getElem?_map, List.getElem?_eq_getElem h0r]; rfl
    exact Option.some.inj (h8.symm.trans h9))
   have HLS := zmZ (HE.out.n.1)
   have HL0 := zmZ (HLS.out.ok y0 (by simp))
   have cl := HLS.out.lac 0 (Nat.zero_lt_succ _)
   have crw := HL0.out.rows.vc 0 h0r
   have Hvm := zmZ (show veF teN (y0.rows[0]'h0r) W6 from HL0.out.rows.ok _ (List.getElem_mem h0r))
   have slr := HL0.out.rows.sl
   rw [hr8] at slr
   dsimp only [LC] at cl
   simp only [List.getElem_cons_zero] at cl
   rw [hr8] at cl
   obtain ⟨v, hv⟩ : ∃ v, v = y0.rows[0] := ⟨_, rfl⟩
   rw [← hv] at HV0 crw Hvm
   clear hv h0r
   obtain ⟨t, ht1⟩ : ∃ t, v.ts = [t] := by
    have h9 := congrArg List.length HV0.out
    match hh : v.ts, h9 with
    | [t], _ => exact ⟨t, rfl⟩
   have HT := zmZ (show plq t = (0, -1) from by have h9 := HV0.out; rw [ht1] at h9; simpa using h9)
   have Htn := zmZ (show RatN t.r t.q W6 from (show LsR 5 tecells teN v.A v.ts W6 from Hvm.out).ok t (by rw [ht1]; simp))
   have ct := LsR.tc (show LsR 5 tecells teN v.A v.ts W6 from Hvm.out) 0 (by rw [ht1]; exact Nat.zero_lt_succ _)
   have slv := (show LsR 5 tecells teN v.A v.ts W6 from Hvm.out).sl
   rw [ht1] at slv crw
   simp only [ht1, List.getElem_cons_zero] at ct
   dsimp only [TC] at ct
   rw [show t.pl = 0 from congrArg Prod.fst HT.out] at ct
   have sll : Sl A2 2 := HLS.out.sl
   have szl := zb5
   have szc := zb9
   have szt := zas
   have hadd := za3
   simp only [List.length_cons, List.length_nil] at crw slv
   have c7 := (HE.out.bx ⟨g7, 24, #[.int .i64 3, .slice A2 2 c2]⟩ (by simp)).cb
   have c9 := (HE.out.bx ⟨g9, 24, #[.int .i64 0, .slice none 0 0]⟩ (by simp)).cb
   go_upto_region 15 with fail
   go_wp2_with fail
   refine (zpG _ t.r t.q 1 (by decide) (by decide) (RatN.rat Htn.out (by rw [show t.q = -1 from congrArg Prod.snd HT.out]; exact lits _ (.inr (.inl rfl)))) HE.out.o.1 HE.out.o.2).mono ?_
   rintro e w8 ⟨rfl, hb⟩
   rw [show t.q = -1 from congrArg Prod.snd HT.out, zqb]
   replace HE := zmZ (Env.call HE.out hb)
   clear hb c7 c9 cl crw ct
   have c9 := (HE.out.bx ⟨g9, 24, #[.int .i64 0, .slice none 0 0]⟩ (by simp)).cb
   go_wp2_with fail
   refine (zaY _ HE.out.o.1).mono ?_
   rintro e w9 ⟨rfl, hb⟩
   replace HE := zmZ (Env.call HE.out hb)
   clear hb
   go_wp2_with fail
   exact bodyPost_ret (v := .bool true) (by simp [results, Tryz.results5, go_sem]) rfl ⟨rfl, HE.out.bel⟩
open Go.ChangeShapes Go.WideShapes Go.ChangeAt Go.RowKit Go.Deep

theorem own : ownKnob Tryz.prog.godebug = none := by kernel_rfl
theorem zqp : (Tryz.prog.globals[(2 : Nat)]?).map (·.type) = some 196 := by kernel_rfl
theorem zqh : Tryz.prog.cellsOf 196 = 20 := by kernel_rfl
theorem ziN : Tryz.prog.cellsOf 105 = 1 := by kernel_rfl
def zhg : List (String × DataW Unit) := [("math/bits.deBruijn32tab", Rows.laid_math_bits_deBruijn32tab), ("math/bits.deBruijn64tab", Rows.laid_math_bits_deBruijn64tab), ("internal/strconv.uint64pow10", Rows.laid_internal_strconv_uint64pow10)]
theorem zrD {W : World} (h : laidMetH Tryz.prog zhg W) : Tab W :=
 Lib.tabIs_of_head (rest := []) (zs := Lib.pow10Tab) gPow zqp Tryz.underlying196 Tryz.underlying105 ziN zqh (laidMet.tail (laidMet.tail (show laidMet Tryz.prog zhg W from h)))

def zmu (cs : Array Value) : Obj → Obj
 | .cells _ t frozen => .cells cs t frozen
 | o => o
noncomputable def zby (os : Os) : World :=
 { World.holding Tryz.prog os ⟨#[], #[], []⟩ with heap := (((World.holding Tryz.prog os ⟨#[], #[], []⟩).heap.modify 4 (zmu #[.int .u8 0, .int .u8 1, .int .u8 28, .int .u8 2, .int .u8 29, .int .u8 14, .int .u8 24, .int .u8 3, .int .u8 30, .int .u8 22, .int .u8 20, .int .u8 15, .int .u8 25, .int .u8 17, .int .u8 4, .int .u8 8, .int .u8 31, .int .u8 27, .int .u8 13, .int .u8 23, .int .u8 21, .int .u8 19, .int .u8 16, .int .u8 7, .int .u8 26, .int .u8 12, .int .u8 18, .int .u8 6, .int .u8 11, .int .u8 5, .int .u8 10, .int .u8 9])).modify 5 (zmu #[.int .u8 0, .int .u8 1, .int .u8 56, .int .u8 2, .int .u8 57, .int .u8 49, .int .u8 28, .int .u8 3, .int .u8 61, .int .u8 58, .int .u8 42, .int .u8 50, .int .u8 38, .int .u8 29, .int .u8 17, .int .u8 4, .int .u8 62, .int .u8 47, .int .u8 59, .int .u8 36, .int .u8 45, .int .u8 43, .int .u8 51, .int .u8 22, .int .u8 53, .int .u8 39, .int .u8 33, .int .u8 30, .int .u8 24, .int .u8 18, .int .u8 12, .int .u8 5, .int .u8 63, .int .u8 55, .int .u8 48, .int .u8 27, .int .u8 60, .int .u8 41, .int .u8 37, .int .u8 16, .int .u8 46, .int .u8 35, .int .u8 44, .int .u8 21, .int .u8 52, .int .u8 32, .int .u8 23, .int .u8 11, .int .u8 54, .int .u8 26, .int .u8 40, .int .u8 15, .int .u8 34, .int .u8 20, .int .u8 31, .int .u8 10, .int .u8 25, .int .u8 14, .int .u8 19, .int .u8 9, .int .u8 13, .int .u8 8, .int .u8 7, .int .u8 6])).modify 2 (zmu #[.int .u64 1, .int .u64 10, .int .u64 100, .int .u64 1000, .int .u64 10000, .int .u64 100000, .int .u64 1000000, .int .u64 10000000, .int .u64 100000000, .int .u64 1000000000, .int .u64 10000000000, .int .u64 100000000000, .int .u64 1000000000000, .int .u64 10000000000000, .int .u64 100000000000000, .int .u64 1000000000000000, .int .u64 10000000000000000, .int .u64 100000000000000000, .int .u64 1000000000000000000, .int .u64 10000000000000000000]) }

theorem zeK {H : Type} {enc : TypeId × Value → H} {f : Func} {s : ChangeSpec} {W W' : World} {args : Array Value} {ds : List (DataW H)} {before : List MemPlace}
 (hW : DataW.Whole enc Tryz.prog f.params.toList s.vars false W args.toList ds [] before) (hv : s.vars = []) (hr : f.resultTypes = #[4])
 (hfn : s.fn H (ds ++ []) = { results := [.lit (.bool true)], args := ds }) (hb : Below W.heap.size W W')
 (hargs : DataW.TrodAll enc Tryz.prog W' 0 (fun b => decide (b < W.heap.size)) true f.params.toList args.toList ds before) :
 s.post enc Tryz.prog f false true false false W args (.bool true) W' := by
 refine ⟨ds, [], before, [], before, [], hW, ?_, ?_, ?_, ?_, fun h => by cases h⟩
 ·rw [hfn, hr]
  exact trodAll_cons_mk (shut_bool Tryz.underlying4 _) trodAll_mk0
 ·rw [hfn]; exact hargs
 ·rw [hfn, hv]; exact rfl
 ·exact World.keptBut_mono (fun p hp => ⟨hp, .inr (.inl hp)⟩) (hb.frame (· ∈ before))

theorem gTz : Tryz.prog.globalNamed "math/bits.deBruijn64tab" = some 5 := by kernel_rfl
theorem zkV : (Tryz.prog.globals[(5 : Nat)]?).map (·.type) = some 205 := by kernel_rfl
theorem zlm : Tryz.prog.cellsOf 205 = 64 := by kernel_rfl
theorem zkn : Tryz.prog.cellsOf 5 = 1 := by kernel_rfl
theorem zmk {W : World} (h : laidMetH Tryz.prog zhg W) : Tz W := by
 have h1 := Lib.tabIs_of_head (rest := [("internal/strconv.uint64pow10", Rows.laid_internal_strconv_uint64pow10)]) (zs := Lib.deBruijn64tab.map fun n : Nat => (n : Int)) gTz zkV Tryz.underlying205 Tryz.underlying5 zkn zlm (laidMet.tail (show laidMet Tryz.prog zhg W from h))
 unfold Lib.TabIs World.var? at h1
 simp only [gTz, Option.bind_some] at h1
 intro j hj
 cases hh : W.heap[(5 : Nat)]? with
 | none => rw [hh] at h1; simp at h1
 | some o =>
  rw [hh] at h1
  cases o with
  | cells cs t fr =>
   have e : cs = ((Lib.deBruijn64tab.map fun n : Nat => (n : Int)).map fun z => Value.int .u8 z).toArray := by simpa using h1
   rw [Joins.cell_of_block hh, e]
   simp [List.getD, hj]
  | _ => simp at h1
theorem laidOut : laidOutB Tryz.prog = true := by kernel_rfl
end Go.Proofs.YtikmgoefjbhcjaaGreatDoor
namespace Go.Proofs.YtikmgoefjbhcjaaGreatDoor.lowerNumbers
set_option maxHeartbeats 16000000
open Go.ChangeShapes Go.WideShapes Go.ChangeAt Go.RowKit Go.ChangeMaps

set_option maxRecDepth 100000 in
theorem zej (H : Type) (enc : TypeId × Value → H) (W : World) (base : Nat) (args : Array Value) (ds gs : List (DataW H)) (before : List MemPlace)
 (_hval : ∀ (j : Nat) t v, Tryz.f5.params[j]? = some t → args[j]? = some v → Value.okWide Tryz.prog W .any base t v)
 (hW : DataW.Whole enc Tryz.prog Tryz.f5.params.toList Rows.lowerNumbersSpec.vars false W args.toList ds gs before) (hL : laidMetH Tryz.prog Rows.lowerNumbersRow.laid W) :
 Calls Tryz.prog 5 args W fun e W' => ∃ v, e = .returned v ∧ Rows.lowerNumbersSpec.post enc Tryz.prog Tryz.f5 false true false false W args v W' := by
 have hW' := hW
 obtain ⟨p, q, hA, hV, rfl, hfz, hnd⟩ := hW
 obtain ⟨rfl, rfl⟩ := trodVars_none hV
 rw [Tryz.params5] at hA
 obtain ⟨hargs, rfl, rfl⟩ := trodAll_nil hA
 obtain rfl : args = #[] := by cases args; simp_all
 refine (znX W  (zmk hL) (zrD hL)).mono fun e W' ⟨he, hb⟩ => ?_
 subst he
 exact ⟨_, rfl, zeK hW' rfl rfl rfl hb (by rw [Tryz.params5]; exact trodAll_mk0)⟩

theorem ze0 (os : Os) : laidMet Tryz.prog Rows.lowerNumbersRow.laid ((zby os).forCall (fun _ _ => 0) ⟨#[], #[], []⟩).memory :=
 laidMet_of_run' 8 (by kernel_rfl) (by kernel_rfl)
theorem reads (os : Os) {H : Type} (enc : TypeId × Value → H) : ∃ places, DataW.whole enc Tryz.prog ((zby os).forCall (fun _ _ => 0) ⟨#[], #[], []⟩).memory Tryz.f5.params.toList Rows.lowerNumbersSpec.vars false (#[] : Array Value).toList 8 = some ([], [], places) :=
 ⟨[], by kernel_rfl⟩

set_option maxRecDepth 100000 in
theorem zhK (os : Os) (started : os.Started) (H : Type) (enc : TypeId × Value → H) (F : Stop.Interp) :
 ReturnsInHanded {} Tryz.checked os 5 .any ((OpenSpec.ofChange Rows.lowerNumbersSpec).preRow enc Tryz.prog Tryz.f5 Rows.lowerNumbersRow.domain false Rows.lowerNumbersRow.laid) (((OpenSpec.ofChange Rows.lowerNumbersSpec).at F).post enc Tryz.prog Tryz.f5 false true false false) := by
 obtain ⟨places, hx⟩ := reads os enc
 refine returnsInHanded_of_row (C := Tryz.checked) (s := OpenSpec.ofChange Rows.lowerNumbersSpec) own started (by kernel_rfl) Tryz.func5
  (witness_row_at (enc := enc) (C := Tryz.checked) false (zby os) #[] rfl (by kernel_rfl) (by kernel_rfl) (by kernel_rfl)
   (OpenSpec.preRow_of_cond 8 hx (by kernel_rfl) (fun k hk => by cases hk) (by kernel_rfl) (ze0 os))) ?_
 intro W base args ds gs before hval hW _ _ _ hL _ _
 exact zej H enc W base args ds gs before hval hW hL

theorem zhi {a b : Bool} (h : a = true) (h' : b = true) : (a && b) = true := by rw [h, h']; rfl
theorem zeV : joinedFacts Tryz.pinned.checked.prog 5 Tryz.f5 (OpenSpec.ofChange Rows.lowerNumbersSpec).bare Rows.lowerNumbersRow = true := by
 unfold joinedFacts
 repeat' (with_reducible refine zhi ?_ ?_)
 all_goals (as_aux_lemma => kernel_rfl)
theorem said : Rows.LowerNumbersSaid :=
 OpenClaim.holds_of_cond 5 Tryz.f5 rfl rfl rfl rfl rfl rfl rfl ⟨rfl, rfl, rfl, rfl, rfl⟩ rfl rfl rfl rfl rfl (by kernel_rfl) Tryz.func5 zeV
  (of_decide_eq_true (by kernel_rfl)) (by unfold Func.isWrapper; first | (rw [if_pos (by decide +kernel)]; kernel_rfl) | (rw [if_neg (by decide +kernel)]; exact ⟨rfl, rfl⟩))
  (fun os started H enc _ F => by rw [OpenClaim.pre_eq_preRow]; exact zhK os started H enc F)

theorem plain (f : FuncId) (fn : Func) (hf : Tryz.pinned.checked.prog.funcNamed "tripwire/tripwirelaw14.LowerNumbers" = some f) (hfn : Tryz.pinned.checked.prog.funcs[f]? = some fn) :
 false = Tryz.pinned.checked.prog.looks [] ∧ ∀ (j : Nat) t, fn.params[j]? = some t → Tryz.pinned.checked.prog.wantsStandIn t = false := by
 obtain rfl : f = 5 := Option.some.inj ((show Tryz.prog.funcNamed "tripwire/tripwirelaw14.LowerNumbers" = some 5 by kernel_rfl).symm.trans hf) |>.symm
 obtain rfl : fn = Tryz.f5 := (Option.some.inj (Tryz.func5.symm.trans hfn)).symm
 refine ⟨by kernel_rfl, fun j t ht => ?_⟩
 rw [Tryz.params5] at ht
 simp at ht

theorem card : Rows.LowerNumbersCardSaid :=
 Claim7.holds_tied_plain_at .later [] _ _ _ _ said (fun _ h => by cases h) (by kernel_rfl) (fun _ h => by cases h) lowerNumbers_row_tie rfl ⟨rfl, rfl⟩ (by kernel_rfl) rfl plain (by kernel_rfl)
end Go.Proofs.YtikmgoefjbhcjaaGreatDoor.lowerNumbers
#print axioms Go.Proofs.YtikmgoefjbhcjaaGreatDoor.lowerNumbers.card
