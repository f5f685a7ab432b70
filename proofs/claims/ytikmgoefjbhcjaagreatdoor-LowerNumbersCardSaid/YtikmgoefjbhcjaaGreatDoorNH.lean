/-
 Nets in memory: groups, layers, nets. shapes.exact. Calls that write one box (a captured variable) and leave all else alone. shapes: the tests of numbers, of fractions, of rows, of groups; all. shapes: groups, plain, affine, pool, conv, behind. shapes: conv, behind. shapes: sizes, Check, Sizes. shapes: Check, Sizes.
-/
import Derived.Test.YtikmgoefjbhcjaaGreatDoorPG
import Derived.Test.YtikmgoefjbhcjaaGreatDoorSS
import Derived.Test.YtikmgoefjbhcjaaGreatDoorQC
import Derived.Test.YtikmgoefjbhcjaaGreatDoorLowB
namespace Go.Proofs.YtikmgoefjbhcjaaGreatDoor
set_option maxHeartbeats 8000000
open Go.RowKit

section
variable {P : Program}
@[go_sem] theorem run_indexAt_el13 (w : World) (t : TypeId) (A : Option Addr) (len cap : Nat) (k : IntKind) (i : Int) (hs : Sl A len)
 (h : P.underlying t = some (.slice (P.elem t))) (h1 : (sizeOf (P.elem t)).run P w = .ok 13 w) :
 (Instr.indexAt t (.slice A len cap) (.int k i)).run P w =
  if 0 ≤ i ∧ i < len then .ok (.pointer (some (adr A (i.toNat * 13)))) w else (boundsPanic k i len .index).run P w := by
 rcases A with _ | a
 ·have h0 : len = 0 := by
   rcases Nat.eq_zero_or_pos len with h | h
   ·exact h
   ·obtain ⟨_, _, h⟩ := hs h; cases h
  subst h0
  rw [if_neg (by omega)]
  simp [Instr.indexAt, run_underlying h, asIntOf]
 ·rw [run_indexAt_slice w t a len cap k i h]
  split
  ·rename_i hi
   obtain ⟨b, o, e⟩ := hs (by omega)
   cases e
   rw [h1]
   simp only [Result.andThen_ok, zac, za4]
  ·rfl
end
theorem zcB : (Tryz.prog.info? 3).map (fun i => (i.zero, i.size, i.bytes)) = some (some (.int .i64 0), 1, 8) := by kernel_rfl
theorem zb5 (w : World) : (sizeOf (Tryz.prog.elem 22)).run Tryz.prog w = .ok 13 w := by kernel_rfl
theorem zdE : Tryz.prog.underlying 22 = some (.slice 36) := by kernel_rfl
theorem zbt (w : World) : (sizeOf (Tryz.prog.elem 34)).run Tryz.prog w = .ok 1 w := by kernel_rfl
theorem zdo : Tryz.prog.underlying 34 = some (.slice 46) := by kernel_rfl
theorem zfH : (Tryz.prog.info? 46).map (fun i => (i.zero, i.size, i.bytes)) = some (some (.slice none 0 0), 1, 24) := by kernel_rfl
def layZ : Value := .agg #[.int .u8 0, .slice none 0 0, .slice none 0 0, .int .i64 0, .int .i64 0, .int .i64 0, .int .i64 0, .int .i64 0, .int .i64 0, .int .i64 0, .int .i64 0, .slice none 0 0, .slice none 0 0]
theorem zep : (Tryz.prog.info? 36).map (fun i => (i.zero, i.size, i.bytes)) = some (some layZ, 13, 168) := by kernel_rfl
def icells (z : Int) : Array Value := #[.int .i64 z]
def okI (_ : Int) (_ : World) : Prop := True
theorem zdf (z : Int) (W : World) (_ : okI z W) : Rests W (· < W.heap.size) (okI z) := .pure trivial _ _
theorem LsR.ic {ok : Int → World → Prop} {A : Option Addr} {l : List Int} {w : World} (h : LsR 1 icells ok A l w) (i : Nat) (hi : i < l.length) : w.cell? (adr A i) = some (.int .i64 l[i]) := by
 have hc := h.cell i hi 0 (by decide)
 rw [Nat.mul_one, Nat.add_zero] at hc
 exact hc
structure GrV where
 A : Option Addr
 c : Nat
 l : List Int
def grcells (g : GrV) : Array Value := #[.slice g.A g.l.length g.c]
def grD (g : GrV) (W : World) : Prop := LsR 1 icells okI g.A g.l W
theorem zc1 (g : GrV) (W : World) (h : grD g W) : Rests W (· < W.heap.size) (grD g) := LsR.old zdf h
theorem LsR.gc {ok : GrV → World → Prop} {A : Option Addr} {l : List GrV} {w : World} (h : LsR 1 grcells ok A l w) (i : Nat) (hi : i < l.length) : w.cell? (adr A i) = some (.slice (l[i]).A (l[i]).l.length (l[i]).c) := by
 have hc := h.cell i hi 0 (by decide)
 rw [Nat.mul_one, Nat.add_zero] at hc
 exact hc
structure LaG (R N : Type) where
 kind : Int
 Ar : Option Addr
 cr : Nat
 rows : List R
 Ab : Option Addr
 cb : Nat
 bias : List N
 ch : Int
 high : Int
 wide : Int
 out : Int
 kh : Int
 kw : Int
 st : Int
 pad : Int
 Ak : Option Addr
 ck : Nat
 kern : List N
 Ag : Option Addr
 cg : Nat
 grs : List GrV
abbrev LaV := LaG VeV (RV × Rat)
def lacells {R N : Type} (l : LaG R N) : Array Value := #[.int .u8 l.kind, .slice l.Ar l.rows.length l.cr, .slice l.Ab l.bias.length l.cb, .int .i64 l.ch, .int .i64 l.high, .int .i64 l.wide, .int .i64 l.out, .int .i64 l.kh, .int .i64 l.kw, .int .i64 l.st, .int .i64 l.pad, .slice l.Ak l.kern.length l.ck, .slice l.Ag l.grs.length l.cg]
def veF (okT : TeV → World → Prop) (v : VeV) (W : World) : Prop := LsR 5 tecells okT v.A v.ts W
theorem zei {okT : TeV → World → Prop} (hT : ∀ p W, okT p W → Rests W (· < W.heap.size) (okT p)) (v : VeV) (W : World) (h : veF okT v W) : Rests W (· < W.heap.size) (veF okT v) := LsR.old hT h
structure LaF (okT : TeV → World → Prop) (okR : RV × Rat → World → Prop) (l : LaV) (W : World) : Prop where
 rows : LsR 1 vecells (veF okT) l.Ar l.rows W
 bias : LsR 4 rtcells okR l.Ab l.bias W
 kern : LsR 4 rtcells okR l.Ak l.kern W
 grs : LsR 1 grcells grD l.Ag l.grs W
theorem LaF.old {okT : TeV → World → Prop} {okR : RV × Rat → World → Prop} (hT : ∀ p W, okT p W → Rests W (· < W.heap.size) (okT p)) (hR : ∀ p W, okR p W → Rests W (· < W.heap.size) (okR p)) (l : LaV) (W : World) (h : LaF okT okR l W) : Rests W (· < W.heap.size) (LaF okT okR l) :=
 ((h.rows.old (zei hT)).and ((h.bias.old hR).and ((h.kern.old hR).and (h.grs.old zc1)))).imp fun _ h => ⟨h.1, h.2.1, h.2.2.1, h.2.2.2⟩
@[reducible] def LaD (n : Nat) : LaV → World → Prop := LaF (teD n) (roD n)
@[reducible] def LaN : LaV → World → Prop := LaF teN roN
theorem LaD.old {n : Nat} (l : LaV) (W : World) (h : LaD n l W) : Rests W (· < W.heap.size) (LaD n l) := LaF.old zb2 zaq l W h
structure LQ where
 kind : Int
 rows : List (List (Int × Rat))
 bias : List Rat
 dims : List Int
 kern : List Rat
 grs : List (List Int)
def LaG.q (l : LaV) : LQ := ⟨l.kind, l.rows.map fun v => v.ts.map plq, l.bias.map Prod.snd, [l.ch, l.high, l.wide, l.out, l.kh, l.kw, l.st, l.pad], l.kern.map Prod.snd, l.grs.map GrV.l⟩
@[reducible] def LC {R N : Type} (A : Option Addr) (i : Nat) (v : LaG R N) (W : World) : Prop :=
 W.cell? (adr A (i * 13)) = some (.int .u8 v.kind) ∧ W.cell? (adr A (i * 13 + 1)) = some (.slice v.Ar v.rows.length v.cr) ∧ W.cell? (adr A (i * 13 + 2)) = some (.slice v.Ab v.bias.length v.cb) ∧ W.cell? (adr A (i * 13 + 3)) = some (.int .i64 v.ch) ∧ W.cell? (adr A (i * 13 + 4)) = some (.int .i64 v.high) ∧ W.cell? (adr A (i * 13 + 5)) = some (.int .i64 v.wide) ∧ W.cell? (adr A (i * 13 + 6)) = some (.int .i64 v.out) ∧ W.cell? (adr A (i * 13 + 7)) = some (.int .i64 v.kh) ∧ W.cell? (adr A (i * 13 + 8)) = some (.int .i64 v.kw) ∧ W.cell? (adr A (i * 13 + 9)) = some (.int .i64 v.st) ∧ W.cell? (adr A (i * 13 + 10)) = some (.int .i64 v.pad) ∧ W.cell? (adr A (i * 13 + 11)) = some (.slice v.Ak v.kern.length v.ck) ∧ W.cell? (adr A (i * 13 + 12)) = some (.slice v.Ag v.grs.length v.cg)
theorem LsR.lac {R N : Type} {ok : LaG R N → World → Prop} {A : Option Addr} {l : List (LaG R N)} {w : World} (h : LsR 13 lacells ok A l w) (i : Nat) (hi : i < l.length) : LC A i l[i] w := by
 have hc := h.cell i hi
 exact ⟨hc 0 (by decide), hc 1 (by decide), hc 2 (by decide), hc 3 (by decide), hc 4 (by decide), hc 5 (by decide), hc 6 (by decide), hc 7 (by decide), hc 8 (by decide), hc 9 (by decide), hc 10 (by decide), hc 11 (by decide), hc 12 (by decide)⟩
structure NeG (R N : Type) where
 inputs : Int
 A : Option Addr
 c : Nat
 las : List (LaG R N)
abbrev NeV := NeG VeV (RV × Rat)
def NeD (n : Nat) (f : NeV) (W : World) : Prop := LsR 13 lacells (LaD n) f.A f.las W
theorem NeD.old {n : Nat} {f : NeV} {w : World} (h : NeD n f w) : Rests w (· < w.heap.size) (NeD n f) := LsR.old LaD.old h
def zap (l : LaV) : Prop := l.kern = [] ∧ l.ch = 0 ∧ l.high = 0 ∧ l.wide = 0 ∧ l.out = 0 ∧ l.kh = 0 ∧ l.kw = 0 ∧ l.st = 0 ∧ l.pad = 0
def GrP (n : Int) (g : GrV) : Prop := g.l ≠ [] ∧ (∀ z ∈ g.l, 0 ≤ z ∧ z < n) ∧ g.l.Pairwise (· < ·)
def exP (w : World) (p : RV × Rat) : Prop := RatN p.1 p.2 w
def side (z : Int) : Prop := 1 ≤ z ∧ z ≤ 256
structure ConvP (w : World) (l : LaV) (n : Int) : Prop where
 s : side l.ch ∧ side l.high ∧ side l.wide ∧ side l.out ∧ side l.kh ∧ side l.kw ∧ side l.st
 pad : 0 ≤ l.pad ∧ l.pad < l.kh ∧ l.pad < l.kw
 n : l.ch * l.high * l.wide = n
 h : 0 ≤ l.high + 2 * l.pad - l.kh ∧ 0 ≤ l.wide + 2 * l.pad - l.kw
 k : (l.kern.length : Int) = l.out * (l.ch * l.kh * l.kw)
 b : (l.bias.length : Int) = l.out
 e : l.rows = [] ∧ l.grs = []
 ek : ∀ p ∈ l.kern, exP w p
 eb : ∀ p ∈ l.bias, exP w p
structure AffP (w : World) (l : LaV) (n : Int) : Prop where
 p : zap l
 g : l.grs = []
 r : l.rows ≠ []
 b : l.rows.length = l.bias.length
 er : ∀ v ∈ l.rows, RightP v.ts n w
 eb : ∀ p ∈ l.bias, exP w p
structure PoolP (l : LaV) (n : Int) : Prop where
 p : zap l
 r : l.rows = [] ∧ l.bias = []
 g : l.grs ≠ []
 eg : ∀ g ∈ l.grs, GrP n g
def Fits (w : World) (l : LaV) (n : Int) : Prop :=
 (l.kind = 1 ∧ AffP w l n) ∨ (l.kind = 2 ∧ ConvP w l n) ∨ (l.kind = 3 ∧ zap l ∧ l.rows = [] ∧ l.bias = [] ∧ l.grs = []) ∨ (l.kind = 4 ∧ PoolP l n)
def zbA (l : LaV) : Int := (l.high + 2 * l.pad - l.kh) / l.st + 1
def zbx (l : LaV) : Int := (l.wide + 2 * l.pad - l.kw) / l.st + 1
def zae (l : LaV) (n : Int) : Int := if l.kind = 1 then l.rows.length else if l.kind = 2 then l.out * zbA l * zbx l else if l.kind = 3 then n else l.grs.length
def zay (l : LaV) : Int := if l.kind = 1 then ((l.rows.map fun v => (v.ts.length : Int)).sum) else if l.kind = 2 then l.out * zbA l * zbx l * (l.ch * l.kh * l.kw) else if l.kind = 3 then 0 else ((l.grs.map fun g => (g.l.length : Int)).sum)
def ChkP (w : World) : List LaV → Int → Int → Int → Prop
 | [], _, _, e => e = 0
 | l :: ls, n, s, e => (¬ Fits w l n ∧ e = 22) ∨ (Fits w l n ∧ (((256 < zae l n ∨ 16384 < s + zay l) ∧ e = 25) ∨ (¬ (256 < zae l n ∨ 16384 < s + zay l) ∧ ChkP w ls (zae l n) (s + zay l) e)))
theorem ChkP.uniq {w : World} : ∀ {ls : List LaV} {n s e e' : Int}, ChkP w ls n s e → ChkP w ls n s e' → e = e'
 | [], _, _, _, _, h, h' => h.trans h'.symm
 | l :: ls, n, s, e, e', h, h' => by
  rcases h with ⟨h1, h2⟩ | ⟨h1, ⟨h2, h3⟩ | ⟨h2, h3⟩⟩ <;> rcases h' with ⟨k1, k2⟩ | ⟨k1, ⟨k2, k3⟩ | ⟨k2, k3⟩⟩
  ·omega
  ·exact absurd k1 h1
  ·exact absurd k1 h1
  ·exact absurd h1 k1
  ·omega
  ·exact absurd h2 k2
  ·exact absurd h1 k1
  ·exact absurd k2 h2
  ·exact h3.uniq k3
def zfc (f : NeV) : Prop := 1 ≤ f.inputs ∧ f.inputs ≤ 64 ∧ f.las.length ≤ 16
def NetP (w : World) (f : NeV) (e : Int) : Prop := (¬ zfc f ∧ e = 25) ∨ (zfc f ∧ ChkP w f.las f.inputs 0 e)
theorem NetP.uniq {w : World} {f : NeV} {e e' : Int} (h : NetP w f e) (h' : NetP w f e') : e = e' := by
 rcases h with ⟨h1, h2⟩ | ⟨h1, h2⟩ <;> rcases h' with ⟨k1, k2⟩ | ⟨k1, k2⟩
 ·omega
 ·exact absurd k1 h1
 ·exact absurd h1 k1
 ·exact h2.uniq k2
def zc0 (w : World) : List LaV → Int → Prop
 | [], _ => True
 | l :: ls, n => Fits w l n ∧ zae l n ≤ 256 ∧ zc0 w ls (zae l n)
theorem ChkP.fits {w : World} : ∀ {ls : List LaV} {n s : Int}, ChkP w ls n s 0 → zc0 w ls n
 | [], _, _, _ => trivial
 | l :: ls, n, s, h => by
  rcases h with ⟨-, h2⟩ | ⟨h1, ⟨-, h3⟩ | ⟨h2, h3⟩⟩
  ·omega
  ·omega
  ·exact ⟨h1, by omega, h3.fits⟩
theorem Fits.same {w W : World} {k : Nat} {l : LaV} {n : Int} (h : LaD k l w) (hb : Below w.heap.size w W) : Fits W l n ↔ Fits w l n := by
 have hx : ∀ {A : Option Addr} {ps : List (RV × Rat)}, LsR 4 rtcells (roD k) A ps w → ((∀ p ∈ ps, exP W p) ↔ ∀ p ∈ ps, exP w p) := fun hl =>
  ⟨fun hh p hp => (RatD.same (hl.ok p hp) hb).1 (hh p hp), fun hh p hp => (RatD.same (hl.ok p hp) hb).2 (hh p hp)⟩
 have hr : (∀ v ∈ l.rows, RightP v.ts n W) ↔ ∀ v ∈ l.rows, RightP v.ts n w :=
  ⟨fun hh v hv => (RightP.same (show LsR 5 tecells (teD k) v.A v.ts w from h.rows.ok v hv) hb).1 (hh v hv), fun hh v hv => (RightP.same (show LsR 5 tecells (teD k) v.A v.ts w from h.rows.ok v hv) hb).2 (hh v hv)⟩
 have h1 : AffP W l n ↔ AffP w l n := ⟨fun x => ⟨x.p, x.g, x.r, x.b, hr.1 x.er, (hx h.bias).1 x.eb⟩, fun x => ⟨x.p, x.g, x.r, x.b, hr.2 x.er, (hx h.bias).2 x.eb⟩⟩
 have h2 : ConvP W l n ↔ ConvP w l n := ⟨fun x => ⟨x.s, x.pad, x.n, x.h, x.k, x.b, x.e, (hx h.kern).1 x.ek, (hx h.bias).1 x.eb⟩, fun x => ⟨x.s, x.pad, x.n, x.h, x.k, x.b, x.e, (hx h.kern).2 x.ek, (hx h.bias).2 x.eb⟩⟩
 unfold Fits
 rw [h1, h2]
theorem zf4 {α : Type} {f : α → Int} {l : List α} {i : Nat} (hi : i < l.length) : ((l.take (i + 1)).map f).sum = ((l.take i).map f).sum + f l[i] := by
 rw [List.take_succ_eq_append_getElem hi, List.map_append, List.sum_append]
 simp
abbrev dA {R N : Type} (l : LaG R N) (a b C H X O K L S P c d : Nat) : Value := .agg #[.int .u8 l.kind, .slice l.Ar a l.cr, .slice l.Ab b l.cb, .int .i64 (C : Int), .int .i64 (H : Int), .int .i64 (X : Int), .int .i64 (O : Int), .int .i64 (K : Int), .int .i64 (L : Int), .int .i64 (S : Int), .int .i64 (P : Int), .slice l.Ak c l.ck, .slice l.Ag d l.cg]
abbrev oD {R N : Type} (w : World) (l : LaG R N) (a b C H X O K L S P c d : Nat) (V : World) : Prop := ∀ x ∈ [(⟨w.heap.size, 36, #[.int .u8 l.kind, .slice l.Ar a l.cr, .slice l.Ab b l.cb, .int .i64 (C : Int), .int .i64 (H : Int), .int .i64 (X : Int), .int .i64 (O : Int), .int .i64 (K : Int), .int .i64 (L : Int), .int .i64 (S : Int), .int .i64 (P : Int), .slice l.Ak c l.ck, .slice l.Ag d l.cg]⟩ : Bo)], Blk V x.g x.t x.cs
theorem layD {R N : Type} {w : World} {o : World → Prop} (l : LaG R N) (a b C H X O K L S P c d : Nat) (h : Rests w (· < w.heap.size) o) : Env w [⟨w.heap.size, 36, #[.int .u8 l.kind, .slice l.Ar a l.cr, .slice l.Ab b l.cb, .int .i64 (C : Int), .int .i64 (H : Int), .int .i64 (X : Int), .int .i64 (O : Int), .int .i64 (K : Int), .int .i64 (L : Int), .int .i64 (S : Int), .int .i64 (P : Int), .slice l.Ak c l.ck, .slice l.Ag d l.cg]⟩] o (fun _ => True) (w.alloc (.cells #[.int .u8 l.kind, .slice l.Ar a l.cr, .slice l.Ab b l.cb, .int .i64 (C : Int), .int .i64 (H : Int), .int .i64 (X : Int), .int .i64 (O : Int), .int .i64 (K : Int), .int .i64 (L : Int), .int .i64 (S : Int), .int .i64 (P : Int), .slice l.Ak c l.ck, .slice l.Ag d l.cg] 36)) := Env.lay1 (Env.start h) rfl
theorem zmV {R N : Type} {w : World} {o : World → Prop} (l : LaG R N) (a b C H X O K L S P c d : Nat) (h : Rests w (· < w.heap.size) o) : Env w [⟨w.heap.size + 1, 36, #[.int .u8 0, .slice none 0 0, .slice none 0 0, .int .i64 0, .int .i64 0, .int .i64 0, .int .i64 0, .int .i64 0, .int .i64 0, .int .i64 0, .int .i64 0, .slice none 0 0, .slice none 0 0]⟩, ⟨w.heap.size, 36, #[.int .u8 l.kind, .slice l.Ar a l.cr, .slice l.Ab b l.cb, .int .i64 (C : Int), .int .i64 (H : Int), .int .i64 (X : Int), .int .i64 (O : Int), .int .i64 (K : Int), .int .i64 (L : Int), .int .i64 (S : Int), .int .i64 (P : Int), .slice l.Ak c l.ck, .slice l.Ag d l.cg]⟩] o (fun _ => True) ((w.alloc (.cells #[.int .u8 l.kind, .slice l.Ar a l.cr, .slice l.Ab b l.cb, .int .i64 (C : Int), .int .i64 (H : Int), .int .i64 (X : Int), .int .i64 (O : Int), .int .i64 (K : Int), .int .i64 (L : Int), .int .i64 (S : Int), .int .i64 (P : Int), .slice l.Ak c l.ck, .slice l.Ag d l.cg] 36)).alloc (.cells #[.int .u8 0, .slice none 0 0, .slice none 0 0, .int .i64 0, .int .i64 0, .int .i64 0, .int .i64 0, .int .i64 0, .int .i64 0, .int .i64 0, .int .i64 0, .slice none 0 0, .slice none 0 0] 36)) := Env.lay2 (Env.start h) rfl
abbrev lA {R N : Type} (l : LaG R N) (a b c d : Nat) : Value := .agg #[.int .u8 l.kind, .slice l.Ar a l.cr, .slice l.Ab b l.cb, .int .i64 l.ch, .int .i64 l.high, .int .i64 l.wide, .int .i64 l.out, .int .i64 l.kh, .int .i64 l.kw, .int .i64 l.st, .int .i64 l.pad, .slice l.Ak c l.ck, .slice l.Ag d l.cg]
theorem layL {R N : Type} {w : World} {o : World → Prop} (l : LaG R N) (a b c d : Nat) (h : Rests w (· < w.heap.size) o) : Env w [⟨w.heap.size, 36, #[.int .u8 l.kind, .slice l.Ar a l.cr, .slice l.Ab b l.cb, .int .i64 l.ch, .int .i64 l.high, .int .i64 l.wide, .int .i64 l.out, .int .i64 l.kh, .int .i64 l.kw, .int .i64 l.st, .int .i64 l.pad, .slice l.Ak c l.ck, .slice l.Ag d l.cg]⟩] o (fun _ => True) (w.alloc (.cells #[.int .u8 l.kind, .slice l.Ar a l.cr, .slice l.Ab b l.cb, .int .i64 l.ch, .int .i64 l.high, .int .i64 l.wide, .int .i64 l.out, .int .i64 l.kh, .int .i64 l.kw, .int .i64 l.st, .int .i64 l.pad, .slice l.Ak c l.ck, .slice l.Ag d l.cg] 36)) := Env.lay1 (Env.start h) rfl
theorem zkL {R N : Type} {w : World} {o : World → Prop} (l : LaG R N) (a b c d : Nat) (h : Rests w (· < w.heap.size) o) : Env w [⟨w.heap.size + 1, 36, #[.int .u8 0, .slice none 0 0, .slice none 0 0, .int .i64 0, .int .i64 0, .int .i64 0, .int .i64 0, .int .i64 0, .int .i64 0, .int .i64 0, .int .i64 0, .slice none 0 0, .slice none 0 0]⟩, ⟨w.heap.size, 36, #[.int .u8 l.kind, .slice l.Ar a l.cr, .slice l.Ab b l.cb, .int .i64 l.ch, .int .i64 l.high, .int .i64 l.wide, .int .i64 l.out, .int .i64 l.kh, .int .i64 l.kw, .int .i64 l.st, .int .i64 l.pad, .slice l.Ak c l.ck, .slice l.Ag d l.cg]⟩] o (fun _ => True) ((w.alloc (.cells #[.int .u8 l.kind, .slice l.Ar a l.cr, .slice l.Ab b l.cb, .int .i64 l.ch, .int .i64 l.high, .int .i64 l.wide, .int .i64 l.out, .int .i64 l.kh, .int .i64 l.kw, .int .i64 l.st, .int .i64 l.pad, .slice l.Ak c l.ck, .slice l.Ag d l.cg] 36)).alloc (.cells #[.int .u8 0, .slice none 0 0, .slice none 0 0, .int .i64 0, .int .i64 0, .int .i64 0, .int .i64 0, .int .i64 0, .int .i64 0, .int .i64 0, .int .i64 0, .slice none 0 0, .slice none 0 0] 36)) := Env.lay2 (Env.start h) rfl
theorem zdG {R N : Type} {w : World} {o : World → Prop} (l : LaG R N) (a b c d : Nat) (j : Int) (h : Rests w (· < w.heap.size) o) : Env w [⟨w.heap.size + 1, 3, #[.int .i64 j]⟩, ⟨w.heap.size, 36, #[.int .u8 l.kind, .slice l.Ar a l.cr, .slice l.Ab b l.cb, .int .i64 l.ch, .int .i64 l.high, .int .i64 l.wide, .int .i64 l.out, .int .i64 l.kh, .int .i64 l.kw, .int .i64 l.st, .int .i64 l.pad, .slice l.Ak c l.ck, .slice l.Ag d l.cg]⟩] o (fun _ => True) ((w.alloc (.cells #[.int .u8 l.kind, .slice l.Ar a l.cr, .slice l.Ab b l.cb, .int .i64 l.ch, .int .i64 l.high, .int .i64 l.wide, .int .i64 l.out, .int .i64 l.kh, .int .i64 l.kw, .int .i64 l.st, .int .i64 l.pad, .slice l.Ak c l.ck, .slice l.Ag d l.cg] 36)).alloc (.cells #[.int .i64 j] 3)) := Env.lay2 (Env.start h) rfl
abbrev yA {R N : Type} (l : LaG R N) : Value := .agg #[.int .u8 l.kind, .slice l.Ar l.rows.length l.cr, .slice l.Ab l.bias.length l.cb, .int .i64 l.ch, .int .i64 l.high, .int .i64 l.wide, .int .i64 l.out, .int .i64 l.kh, .int .i64 l.kw, .int .i64 l.st, .int .i64 l.pad, .slice l.Ak l.kern.length l.ck, .slice l.Ag l.grs.length l.cg]
set_option maxRecDepth 100000 in
theorem zgA (w : World) (i j : IV) (z y : Int) (n : Nat) (_hn : n ≤ 17592186044416) (_h : IntD i y n w) (_h' : IntN j z w) (hne : i.neg ≠ j.neg) :
 Calls Tryz.prog 190 #[iA i, iA j] w fun e w' => e = .returned (.bool false) ∧ Below w.heap.size w w' := by
 have HE := zmZ (lyII i j (Rests.pure trivial w _))
 have c := Env.c2 HE.out
 have dd := Env.d2 HE.out
 have he : (i.neg == j.neg) = false := by simpa using hne
 clear _h _h' hne
 unfold iA
 go_enter Tryz.func190, Tryz.ntmps190
 go_wp2_with fail
 go_ret
 exact ⟨rfl, HE.out.bel⟩
set_option maxRecDepth 100000 in
theorem zgL (w : World) (i j : IV) (z y : Int) (n : Nat) (hn : n ≤ 17592186044416) (h : IntD i y n w) (h' : IntN j z w) (hne : i.neg = j.neg) (B : Bool) (hB : ∀ l, i.k = l.length → Rd w .u64 i.A l → decide (l = digs B64 z.natAbs) = B) :
 Calls Tryz.prog 190 #[iA i, iA j] w fun e w' => e = .returned (.bool B) ∧ Below w.heap.size w w' := by
 obtain ⟨l, hk, hrd, -, -⟩ := h.ex
 have hB2 := hB l hk hrd
 have hln : l.length ≤ 17592186044416 := by have := h.le; omega
 have hjk := h'.k
 have HE := zmZ (lyII i j (((za7 hrd (fun k hk => hrd.lt k hk))).and ((za7 h'.rd (fun k hk => h'.rd.lt k hk)))))
 have c := Env.c2 HE.out
 have dd := Env.d2 HE.out
 have KE := zmZ (fun (V : World) (h1 : Rd V .u64 i.A l) (h2 : Rd V .u64 j.A (digs B64 z.natAbs)) => (show Calls Tryz.prog 191 #[.slice i.A i.k i.c, .slice j.A j.k j.c] V fun e w' => e = .returned (.bool B) ∧ Below V.heap.size V w' from by rw [hk, hjk, ← hB2]; exact zf1 V _ _ _ _ _ _ hln h1 h2))
 have he : (i.neg == j.neg) = true := by rw [hne]; simp
 clear h h' hB hrd hk hjk hB2 hne
 unfold iA
 go_enter Tryz.func190, Tryz.ntmps190
 go_wp2_with fail
 refine (KE.out _ HE.out.o.1 HE.out.o.2).mono ?_
 rintro e w1 ⟨rfl, hb⟩
 replace HE := zmZ (Env.call HE.out hb)
 clear hb
 go_wp2_with fail
 go_ret
 exact ⟨rfl, HE.out.bel⟩
theorem zdF (w : World) (i j : IV) (z y : Int) (n : Nat) (hn : n ≤ 17592186044416) (h : IntD i y n w) (h' : IntN j z w) : Calls Tryz.prog 190 #[iA i, iA j] w fun e w' => (∃ B, e = .returned (.bool B) ∧ (B = true ↔ IntN i z w)) ∧ Below w.heap.size w w' := by
 by_cases hne : i.neg = j.neg
 ·obtain ⟨l, hk, hrd, hx, hz⟩ := h.ex
  have key : (l = digs B64 z.natAbs) ↔ IntN i z w := by
   constructor
   ·intro e
    refine ⟨by rw [hk, e], h.cap, by rw [hne]; exact h'.neg, by rw [← e]; exact hrd⟩
   ·intro hi
    have h1 : l.length = (digs B64 z.natAbs).length := by rw [← hk]; exact hi.k
    exact zc5 _ _ h1 fun t ht => by
     have c1 := hrd.cell t ht
     have c2 := hi.rd.cell t (by omega)
     rw [c1] at c2
     have c3 : ((nth l t : Nat) : Int) = ((nth (digs B64 z.natAbs) t : Nat) : Int) := by simpa using c2
     omega
  refine (zgL w i j z y n hn h h' hne (decide (l = digs B64 z.natAbs)) (fun l' hk' hrd' => ?_)).mono ?_
  ·have : l' = l := zc5 _ _ (by omega) fun t ht => by
    have c1 := hrd'.cell t ht
    have c2 := hrd.cell t (by omega)
    rw [c1] at c2
    have c3 : ((nth l' t : Nat) : Int) = ((nth l t : Nat) : Int) := by simpa using c2
    omega
   rw [this]
  ·rintro e w' ⟨rfl, hb⟩
   exact ⟨⟨_, rfl, by rw [decide_eq_true_eq]; exact key⟩, hb⟩
 ·refine (zgA w i j z y n hn h h' hne).mono ?_
  rintro e w' ⟨rfl, hb⟩
  refine ⟨⟨false, rfl, fun h0 => absurd h0 (by decide), fun hi => ?_⟩, hb⟩
  exact absurd (hi.neg.trans h'.neg.symm) hne
set_option maxRecDepth 100000 in
theorem zdV (w : World) (r : RV) (q : Rat) (n : Nat) (hn : n ≤ 400000000000) (h1n : 1 ≤ n) (h : RatD r q n w) (hT : Tz w) :
 Calls Tryz.prog 137 #[rA r] w fun e w' => (∃ B, e = .returned (.bool B) ∧ (B = true ↔ RatN r q w)) ∧ Below w.heap.size w w' := by
 obtain ⟨x, d, hx, hd, hq⟩ := h.ex
 have HE := zmZ (lyR r (((RatD.old h)).and ((hx.old).and ((hd.old).and (hT.old)))))
 have c := Env.c1 HE.out
 have HX := zmZ hx
 have HD := zmZ hd
 clear h hx hd hT hq
 unfold rA
 go_enter Tryz.func137, Tryz.ntmps137
 go_wp2_with fail
 refine (zaG _ r q n (by omega) h1n HE.out.o.1 HE.out.o.2.2.2).mono ?_
 rintro e w1 ⟨k, rfl, hk, hb⟩
 replace HE := zmZ (Env.ret HE.out hk hb)
 clear hk hb
 go_upto_region 3 with fail
 obtain ⟨W2, g4, hW2, hg4, HE⟩ := Env.al HE.out 41 #[.bool k.num.neg, .slice k.num.A k.num.k k.num.c, .bool k.den.neg, .slice k.den.A k.den.k k.den.c]
 rw [hW2, hg4]
 clear hW2 hg4
 replace c := Env.c2 HE.out
 go_wp2_with fail
 refine (zdF _ r.num k.num q.num x n (by omega) HE.out.o.2.1 HE.out.n.1.num).mono ?_
 rintro e w3 ⟨⟨B1, rfl, hB1⟩, hb⟩
 have H1 := zmZ (hB1.trans (HX.out.same HE.out.bel))
 replace HE := zmZ (Env.call HE.out hb)
 replace c := Env.c2 HE.out
 clear hb hB1
 cases B1
 ·go_wp2_with fail
  exact bodyPost_ret (v := .bool false) (by simp [results, Tryz.results137, go_sem]) rfl (⟨⟨false, rfl, ⟨fun h0 => absurd h0 (by decide), fun hr => H1.out.2 hr.num⟩⟩, HE.out.bel⟩)
 ·go_wp2_with fail
  refine (zdF _ r.den k.den (dn q) d n (by omega) HE.out.o.2.2.1 HE.out.n.1.den).mono ?_
  rintro e w4 ⟨⟨B2, rfl, hB2⟩, hb⟩
  have H2 := zmZ (hB2.trans (HD.out.same HE.out.bel))
  replace HE := zmZ (Env.call HE.out hb)
  replace c := Env.c2 HE.out
  clear hb hB2
  go_wp2_with fail
  exact bodyPost_ret (v := .bool B2) (by simp [results, Tryz.results137, go_sem]) rfl (⟨⟨B2, rfl, ⟨fun h0 => ⟨H1.out.1 (by simp), H2.out.1 h0⟩, fun hr => H2.out.2 hr.den⟩⟩, HE.out.bel⟩)

structure Upd (g : Nat) (t : TypeId) (cs : Array Value) (w w' : World) : Prop where
 os : w'.os = w.os
 tape : w'.tape = w.tape
 output : w'.output = w.output
 size : w.heap.size ≤ w'.heap.size
 blk : Blk w' g t cs
 block : ∀ k, k < w.heap.size → k ≠ g → w'.heap[k]? = w.heap[k]?
section
variable {w w' w1 w2 W W' : World} {g : Nat} {t : TypeId} {cs cs' : Array Value} {F : Nat → Prop} {φ ψ old new : World → Prop} {bs : List Bo}
theorem Upd.keep (h : Blk w g t cs) (hb : Below w.heap.size w w') : Upd g t cs w w' :=
 ⟨hb.os, hb.tape, hb.output, hb.size, h.below hb h.lt, fun k hk _ => hb.block k hk⟩
theorem Upd.set1 {v0 : Value} (h : Blk w g t #[v0]) (hb : Below w.heap.size w w') (v : Value) : Upd g t #[v] w (w'.setCell ⟨g, 0, none⟩ v) :=
 ⟨hb.os, hb.tape, hb.output, by simp only [World.setCell, Array.size_modify]; exact hb.size, (h.below hb h.lt).set_ 0 v, fun k hk hg => (Below.heap_setCell _ _ _ _ hg).trans (hb.block k hk)⟩
theorem Upd.trans (h : Upd g t cs w w1) (k : Upd g t cs' w1 w2) : Upd g t cs' w w2 :=
 ⟨k.os.trans h.os, k.tape.trans h.tape, k.output.trans h.output, Nat.le_trans h.size k.size, k.blk, fun i hi hg => (k.block i (Nat.lt_of_lt_of_le hi h.size) hg).trans (h.block i hi hg)⟩
theorem Upd.call (h : Upd g t cs w w1) (hb : Below w1.heap.size w1 w2) : Upd g t cs w w2 := h.trans (.keep h.blk hb)
theorem Upd.below {B : Nat} (h : Upd g t cs w w') (hB : B ≤ w.heap.size) (hg : B ≤ g) : Below B w w' :=
 ⟨h.os, h.tape, h.output, h.size, fun k hk => h.block k (Nat.lt_of_lt_of_le hk hB) (by omega)⟩
theorem Rests.upd (h : Rests w F φ) (hF : ¬ F g) (hu : Upd g t cs w w') : Rests w' F φ :=
 ⟨h.lift _ fun b hf hlt => hu.block b hlt (fun e => hF (e ▸ hf)), fun _ hw => h.lift _ fun b hf hlt => (hw b hf (Nat.lt_of_lt_of_le hlt hu.size)).trans (hu.block b hlt (fun e => hF (e ▸ hf)))⟩
theorem Env.upd {cs0 : Array Value} (h : Env w (⟨g, t, cs0⟩ :: bs) old new W) (hu : Upd g t cs W W') : Env w (⟨g, t, cs⟩ :: bs) old new W' := by
 have hne : ∀ b ∈ bs, g ≠ b.g := (List.pairwise_cons.1 h.nd).1
 have hwg : w.heap.size ≤ g := h.own _ (List.mem_cons_self ..)
 have hfr : ∀ n, (∀ b ∈ (⟨g, t, cs0⟩ :: bs : List Bo), b.g ≠ n) → ∀ b ∈ (⟨g, t, cs⟩ :: bs : List Bo), b.g ≠ n := fun n hn b hm => by
  rcases List.mem_cons.1 hm with rfl | hm
  ·exact hn ⟨g, t, cs0⟩ (List.mem_cons_self ..)
  ·exact hn b (List.mem_cons_of_mem _ hm)
 refine ⟨fun b hm => ?_, (h.rso.upd (fun k => k _ (List.mem_cons_self ..) rfl) hu).mono hfr, (h.rsn.upd (fun k => k.2 _ (List.mem_cons_self ..) rfl) hu).mono fun n hn => ⟨hn.1, hfr n hn.2⟩, h.bel.trans (hu.below h.bel.size hwg), fun b hm => ?_, .cons hne (List.pairwise_cons.1 h.nd).2⟩
 ·rcases List.mem_cons.1 hm with rfl | hm
  ·exact hu.blk
  ·have hb := h.bx b (List.mem_cons_of_mem _ hm)
   exact (hu.block _ hb.lt (fun e => hne b hm e.symm)).trans hb
 ·rcases List.mem_cons.1 hm with rfl | hm
  ·exact hwg
  ·exact h.own b (List.mem_cons_of_mem _ hm)
theorem Env.apart (h : Env w (⟨g, t, cs⟩ :: bs) old new W) : Rests W (fun n => n ≠ g) (fun V => old V ∧ new V) :=
 (h.rso.mono fun n hn (e : n = g) => hn _ (List.mem_cons_self ..) e.symm).and (h.rsn.mono fun n hn (e : n = g) => hn.2 _ (List.mem_cons_self ..) e.symm)
theorem Env.box (h : Env w (⟨g, t, cs⟩ :: bs) old new W) : Blk W g t cs := h.bx _ (List.mem_cons_self ..)
theorem Upd.other {g' : Nat} {t' : TypeId} {cs2 : Array Value} (h : Upd g t cs w w1) (k : Upd g' t' cs2 w1 w2) (hg : g ≠ g') (hw : w.heap.size ≤ g') : Upd g t cs w w2 :=
 ⟨k.os.trans h.os, k.tape.trans h.tape, k.output.trans h.output, Nat.le_trans h.size k.size, (k.block g h.blk.lt hg).trans h.blk, fun i hi hgi => (k.block i (Nat.lt_of_lt_of_le hi h.size) (by omega)).trans (h.block i hi hgi)⟩
theorem Upd.al (h : Upd g t cs w W) (hr : Rests W F φ) (t' : TypeId) (cs' : Array Value) : ∃ W2 gl, W.alloc (.cells cs' t') = W2 ∧ W.heap.size = gl ∧ Hid (Upd g t cs w W2 ∧ Blk W2 gl t' cs' ∧ w.heap.size ≤ gl ∧ g ≠ gl ∧ Rests W2 (· ≠ gl) φ) :=
 ⟨_, _, rfl, rfl, zmZ ⟨h.call (Below.of_alloc W _), Blk.new W t' cs', h.size, by have := h.blk.lt; omega, (hr.lt.alloc _).mono fun b hb => by have := hb.1; have := hb.2; omega⟩⟩
theorem Env.nbr (h : Env w (⟨g, t, cs⟩ :: bs) old new W) {b : Bo} (hb : b ∈ bs) : Rests W (· ≠ g) (fun V => Blk V b.g b.t b.cs) :=
 have h0 := h.bx b (List.mem_cons_of_mem _ hb)
 ⟨h0, fun _ hw => (hw b.g (fun e => (List.pairwise_cons.1 h.nd).1 b hb e.symm) h0.lt).trans h0⟩
end
def zjX (P : Prop) (g : Nat) (t : TypeId) (z : Int) (w : World) (e : Ending) (w' : World) : Prop :=
 ∃ B s, e = .returned (.bool B) ∧ (B = true ↔ P) ∧ (P → s = z) ∧ Upd g t #[.int .i64 s] w w'
def zck (P : Prop) (g : Nat) (t : TypeId) (z : Int) (w : World) (e : Ending) (w' : World) : Prop :=
 ∃ B, e = .returned (.bool B) ∧ (B = true ↔ P) ∧ Upd g t #[.int .i64 z] w w'
def zkz (P : Prop) (g : Nat) (t : TypeId) (w : World) (e : Ending) (w' : World) : Prop :=
 ∃ B x, e = .returned (.bool B) ∧ (B = true ↔ P) ∧ Upd g t #[.int .i64 x] w w'

theorem zaB {α : Type} {l : List α} {P : α → Prop} {i : Nat} (h : ∀ v ∈ l.take i, P v) (hi : i < l.length) (h1 : P l[i]) : ∀ v ∈ l.take (i + 1), P v := by
 rw [List.take_succ_eq_append_getElem hi]
 intro v hv
 rcases List.mem_append.1 hv with hv | hv
 ·exact h v hv
 ·rw [List.mem_singleton.1 hv]; exact h1
set_option maxRecDepth 100000 in
theorem zgf (w : World) (z : Int) : Calls Tryz.prog 141 #[.int .i64 z] w fun e w' => zaJ (z = 0) e ∧ w' = w := by
 go_enter Tryz.func141, Tryz.ntmps141
 go_wp2_with fail
 go_ret
 exact ⟨za8 _ (by first | exact decide_eq_true_iff | exact beq_iff_eq | simp), rfl⟩
set_option maxRecDepth 100000 in
theorem zgl (w : World) (A : Option Addr) (c : Nat) (l : List Int) (h : LsR 1 icells okI A l w) (hl : l.length ≤ 1000000) :
 Calls Tryz.prog 138 #[.slice A l.length c, .func (.func 141) #[] #[]] w fun e w' => zaJ (∀ z ∈ l, z = 0) e ∧ Below w.heap.size w w' := by
 have sl1 := h.sl
 have hsz2 := zaF
 have hadd := za3
 have Ho := zmZ h
 clear h
 go_enter Tryz.func138, Tryz.ntmps138
 go_wp2_with fail
 go_loopw [9] (fun iv wr => ∃ i : Nat, iv = .int .i64 (i : Int) ∧ i ≤ l.length ∧ Hid (∀ z ∈ l.take i, z = 0) ∧ wr = w) (fun iv _ => l.length - (intOf iv).toNat)
 case atStart => exact ⟨0, rfl, Nat.zero_le _, zmZ (by simp), rfl⟩
 case round =>
  obtain ⟨i, rfl, hi, HP, rfl⟩ := hrel
  by_cases hlt : i < l.length
  ·have c0 := Ho.out.ic i hlt
   obtain ⟨v, hv⟩ : ∃ v, v = l[i] := ⟨_, rfl⟩
   rw [← hv] at c0
   have Hm := zmZ (show v ∈ l by rw [hv]; exact List.getElem_mem hlt)
   have Hv := zmZ hv
   clear hv
   go_wp2_with fail
   refine (zgf _ v).mono ?_
   rintro e w3 ⟨⟨B, rfl, hB⟩, rfl⟩
   have HB := zmZ hB
   clear hB
   cases B
   ·go_wp2_with fail
    go_ret
    exact ⟨za8 false ⟨fun h0 => absurd h0 (by decide), fun hr => absurd (HB.out.2 (hr v Hm.out)) (by simp)⟩, Below.refl _ _⟩
   ·go_wp2_with fail
    go_roundw
    case rel => exact ⟨i + 1, by go_num, by omega, zmZ (zaB HP.out hlt (by rw [← Hv.out]; exact HB.out.1 (by simp))), (by first | trivial | rfl)⟩
    case measure => (simp [intOf] <;> omega)
  ·obtain rfl : i = l.length := by omega
   have HP2 := zmZ (show ∀ z ∈ l, z = 0 by have := HP.out; rwa [List.take_length] at this)
   go_wp2_with fail
   go_ret
   exact ⟨za8 true ⟨fun _ => HP2.out, fun _ => rfl⟩, Below.refl _ _⟩
set_option maxRecDepth 100000 in
theorem ziF (w : World) (z : Int) (hz : ¬ 1 ≤ z) : Calls Tryz.prog 139 #[.int .i64 z] w fun e w' => zaJ (side z) e ∧ w' = w := by
 have hz' : ¬ z ≥ 1 := hz
 have Hz := zmZ hz
 go_enter Tryz.func139, Tryz.ntmps139
 go_wp2_with fail
 go_ret
 exact ⟨za8 false ⟨fun h => absurd h (by decide), fun h => by have h1 := h.1; have h2 := Hz.out; omega⟩, rfl⟩
set_option maxRecDepth 100000 in
theorem zj5 (w : World) (z : Int) (hz : 1 ≤ z) : Calls Tryz.prog 139 #[.int .i64 z] w fun e w' => zaJ (side z) e ∧ w' = w := by
 have hz' : z ≥ 1 := hz
 go_enter Tryz.func139, Tryz.ntmps139
 go_wp2_with fail
 go_ret
 exact ⟨za8 _ (by unfold side; simp only [decide_eq_true_iff]; omega), rfl⟩
theorem zhD (w : World) (z : Int) : Calls Tryz.prog 139 #[.int .i64 z] w fun e w' => zaJ (side z) e ∧ w' = w := by
 by_cases hz : 1 ≤ z
 ·exact zj5 w z hz
 ·exact ziF w z hz
set_option maxRecDepth 100000 in
theorem zhx (w : World) (A : Option Addr) (c : Nat) (l : List Int) (h : LsR 1 icells okI A l w) (hl : l.length ≤ 1000000) :
 Calls Tryz.prog 138 #[.slice A l.length c, .func (.func 139) #[] #[]] w fun e w' => zaJ (∀ z ∈ l, side z) e ∧ Below w.heap.size w w' := by
 have sl1 := h.sl
 have hsz2 := zaF
 have hadd := za3
 have Ho := zmZ h
 clear h
 go_enter Tryz.func138, Tryz.ntmps138
 go_wp2_with fail
 go_loopw [9] (fun iv wr => ∃ i : Nat, iv = .int .i64 (i : Int) ∧ i ≤ l.length ∧ Hid (∀ z ∈ l.take i, side z) ∧ wr = w) (fun iv _ => l.length - (intOf iv).toNat)
 case atStart => exact ⟨0, rfl, Nat.zero_le _, zmZ (by simp), rfl⟩
 case round =>
  obtain ⟨i, rfl, hi, HP, rfl⟩ := hrel
  by_cases hlt : i < l.length
  ·have c0 := Ho.out.ic i hlt
   obtain ⟨v, hv⟩ : ∃ v, v = l[i] := ⟨_, rfl⟩
   rw [← hv] at c0
   have Hm := zmZ (show v ∈ l by rw [hv]; exact List.getElem_mem hlt)
   have Hv := zmZ hv
   clear hv
   go_wp2_with fail
   refine (zhD _ v).mono ?_
   rintro e w3 ⟨⟨B, rfl, hB⟩, rfl⟩
   have HB := zmZ hB
   clear hB
   cases B
   ·go_wp2_with fail
    go_ret
    exact ⟨za8 false ⟨fun h0 => absurd h0 (by decide), fun hr => absurd (HB.out.2 (hr v Hm.out)) (by simp)⟩, Below.refl _ _⟩
   ·go_wp2_with fail
    go_roundw
    case rel => exact ⟨i + 1, by go_num, by omega, zmZ (zaB HP.out hlt (by rw [← Hv.out]; exact HB.out.1 (by simp))), (by first | trivial | rfl)⟩
    case measure => (simp [intOf] <;> omega)
  ·obtain rfl : i = l.length := by omega
   have HP2 := zmZ (show ∀ z ∈ l, side z by have := HP.out; rwa [List.take_length] at this)
   go_wp2_with fail
   go_ret
   exact ⟨za8 true ⟨fun _ => HP2.out, fun _ => rfl⟩, Below.refl _ _⟩
set_option maxRecDepth 100000 in
theorem zj4 (w : World) (n : Nat) (hn : n ≤ 400000000000) (h1n : 1 ≤ n) (r : RV) (q : Rat) (h : RatD r q n w) (hT : Tz w) :
 Calls Tryz.prog 136 #[rA r] w fun e w' => zaJ (RatN r q w) e ∧ Below w.heap.size w w' := by
 have HE := zmZ (lyR r (((RatD.old h)).and (hT.old)))
 have c := Env.c1 HE.out
 have HR := zmZ h
 clear h hT
 unfold rA
 go_enter Tryz.func136, Tryz.ntmps136
 go_wp2_with fail
 refine (zdV _ r q n hn h1n HE.out.o.1 HE.out.o.2).mono ?_
 rintro e w1 ⟨⟨B, rfl, hB⟩, hb⟩
 have HB := zmZ (hB.trans (RatD.same HR.out HE.out.bel))
 replace HE := zmZ (Env.call HE.out hb)
 clear hb hB
 go_wp2_with fail
 exact bodyPost_ret (v := .bool B) (by simp [results, Tryz.results136, go_sem]) rfl ⟨za8 B HB.out, HE.out.bel⟩
set_option maxRecDepth 100000 in
theorem ziO (w : World) (n : Nat) (hn : n ≤ 400000000000) (h1n : 1 ≤ n) (A : Option Addr) (c : Nat) (l : List (RV × Rat)) (h : LsR 4 rtcells (roD n) A l w) (hl : l.length ≤ 1000000) (hT : Tz w) (k : Nat) (hk : k = l.length) :
 Calls Tryz.prog 135 #[.slice A k c, .func (.func 136) #[] #[]] w fun e w' => zaJ (∀ p ∈ l, exP w p) e ∧ Below w.heap.size w w' := by
 subst hk
 have sl1 := h.sl
 have hsz2 := zak
 have hadd := za3
 have Ho := zmZ ((h.old zaq).and hT.old)
 have HD := zmZ (show ∀ p ∈ l, RatD p.1 p.2 n w from h.ok)
 have Hb := zmZ (Below.refl w.heap.size w)
 clear h hT
 go_enter Tryz.func135, Tryz.ntmps135
 go_wp2_with fail
 go_loopw [9] (fun iv wr => ∃ i : Nat, iv = .int .i64 (i : Int) ∧ i ≤ l.length ∧ Hid (∀ v ∈ l.take i, exP w v) ∧ Hid (Below w.heap.size w wr)) (fun iv _ => l.length - (intOf iv).toNat)
 case atStart => exact ⟨0, rfl, Nat.zero_le _, zmZ (by simp), Hb⟩
 case round =>
  clear Hb
  obtain ⟨i, rfl, hi, HP, Hb⟩ := hrel
  by_cases hlt : i < l.length
  ·have HE := zmZ (Env.start ((LsR.old zaq (Ho.out.below Hb.out).now.1).and (Ho.out.below Hb.out).now.2.old))
   have c0 := HE.out.o.1.rc i hlt
   obtain ⟨v, hv⟩ : ∃ v, v = l[i] := ⟨_, rfl⟩
   rw [← hv] at c0
   have Hm := zmZ (show v ∈ l by rw [hv]; exact List.getElem_mem hlt)
   have Hv := zmZ hv
   clear hv
   go_upto_region 4 with fail
   obtain ⟨W2, gt, hW2, hgt, HE⟩ := Env.al HE.out 41 #[.bool v.1.num.neg, .slice v.1.num.A v.1.num.k v.1.num.c, .bool v.1.den.neg, .slice v.1.den.A v.1.den.k v.1.den.c]
   rw [hW2, hgt]
   clear hW2 hgt c0
   have cb := Env.c1 HE.out
   go_wp2_with fail
   refine (zj4 _ n hn h1n v.1 v.2 (HE.out.o.1.ok v Hm.out) HE.out.o.2).mono ?_
   rintro e w3 ⟨⟨B, rfl, hB⟩, hb⟩
   have HB := zmZ (hB.trans (RatD.same (HD.out v Hm.out) (Below.after Hb.out HE.out.bel)))
   replace HE := zmZ (Env.call HE.out hb)
   clear hb hB cb
   cases B
   ·go_wp2_with fail
    go_ret
    exact ⟨za8 false ⟨fun h0 => absurd h0 (by decide), fun hr => absurd (HB.out.2 (hr v Hm.out)) (by simp)⟩, Below.after Hb.out HE.out.bel⟩
   ·go_wp2_with fail
    go_roundw
    case rel => exact ⟨i + 1, by go_num, by omega, zmZ (zaB HP.out hlt (by rw [← Hv.out]; exact HB.out.1 (by simp))), zmZ (Below.after Hb.out HE.out.bel)⟩
    case measure => (simp [intOf] <;> omega)
  ·obtain rfl : i = l.length := by omega
   have HP2 := zmZ (show ∀ v ∈ l, exP w v by have := HP.out; rwa [List.take_length] at this)
   go_wp2_with fail
   go_ret
   exact ⟨za8 true ⟨fun _ => HP2.out, fun _ => rfl⟩, Hb.out⟩
set_option maxRecDepth 100000 in
theorem zil (w : World) (n : Nat) (hn : n ≤ 400000000000) (h1n : 1 ≤ n) (r : RV) (q : Rat) (h : RatD r q n w) (hT : Tz w) :
 Calls Tryz.prog 140 #[rA r] w fun e w' => zaJ (RatN r q w) e ∧ Below w.heap.size w w' := by
 have HE := zmZ (lyR r (((RatD.old h)).and (hT.old)))
 have c := Env.c1 HE.out
 have HR := zmZ h
 clear h hT
 unfold rA
 go_enter Tryz.func140, Tryz.ntmps140
 go_wp2_with fail
 refine (zdV _ r q n hn h1n HE.out.o.1 HE.out.o.2).mono ?_
 rintro e w1 ⟨⟨B, rfl, hB⟩, hb⟩
 have HB := zmZ (hB.trans (RatD.same HR.out HE.out.bel))
 replace HE := zmZ (Env.call HE.out hb)
 clear hb hB
 go_wp2_with fail
 exact bodyPost_ret (v := .bool B) (by simp [results, Tryz.results140, go_sem]) rfl ⟨za8 B HB.out, HE.out.bel⟩
set_option maxRecDepth 100000 in
theorem zf6 (w : World) (n : Nat) (hn : n ≤ 400000000000) (h1n : 1 ≤ n) (A : Option Addr) (c : Nat) (l : List (RV × Rat)) (h : LsR 4 rtcells (roD n) A l w) (hl : l.length ≤ 1000000) (hT : Tz w) (k : Nat) (hk : k = l.length) :
 Calls Tryz.prog 135 #[.slice A k c, .func (.func 140) #[] #[]] w fun e w' => zaJ (∀ p ∈ l, exP w p) e ∧ Below w.heap.size w w' := by
 subst hk
 have sl1 := h.sl
 have hsz2 := zak
 have hadd := za3
 have Ho := zmZ ((h.old zaq).and hT.old)
 have HD := zmZ (show ∀ p ∈ l, RatD p.1 p.2 n w from h.ok)
 have Hb := zmZ (Below.refl w.heap.size w)
 clear h hT
 go_enter Tryz.func135, Tryz.ntmps135
 go_wp2_with fail
 go_loopw [9] (fun iv wr => ∃ i : Nat, iv = .int .i64 (i : Int) ∧ i ≤ l.length ∧ Hid (∀ v ∈ l.take i, exP w v) ∧ Hid (Below w.heap.size w wr)) (fun iv _ => l.length - (intOf iv).toNat)
 case atStart => exact ⟨0, rfl, Nat.zero_le _, zmZ (by simp), Hb⟩
 case round =>
  clear Hb
  obtain ⟨i, rfl, hi, HP, Hb⟩ := hrel
  by_cases hlt : i < l.length
  ·have HE := zmZ (Env.start ((LsR.old zaq (Ho.out.below Hb.out).now.1).and (Ho.out.below Hb.out).now.2.old))
   have c0 := HE.out.o.1.rc i hlt
   obtain ⟨v, hv⟩ : ∃ v, v = l[i] := ⟨_, rfl⟩
   rw [← hv] at c0
   have Hm := zmZ (show v ∈ l by rw [hv]; exact List.getElem_mem hlt)
   have Hv := zmZ hv
   clear hv
   go_upto_region 4 with fail
   obtain ⟨W2, gt, hW2, hgt, HE⟩ := Env.al HE.out 41 #[.bool v.1.num.neg, .slice v.1.num.A v.1.num.k v.1.num.c, .bool v.1.den.neg, .slice v.1.den.A v.1.den.k v.1.den.c]
   rw [hW2, hgt]
   clear hW2 hgt c0
   have cb := Env.c1 HE.out
   go_wp2_with fail
   refine (zil _ n hn h1n v.1 v.2 (HE.out.o.1.ok v Hm.out) HE.out.o.2).mono ?_
   rintro e w3 ⟨⟨B, rfl, hB⟩, hb⟩
   have HB := zmZ (hB.trans (RatD.same (HD.out v Hm.out) (Below.after Hb.out HE.out.bel)))
   replace HE := zmZ (Env.call HE.out hb)
   clear hb hB cb
   cases B
   ·go_wp2_with fail
    go_ret
    exact ⟨za8 false ⟨fun h0 => absurd h0 (by decide), fun hr => absurd (HB.out.2 (hr v Hm.out)) (by simp)⟩, Below.after Hb.out HE.out.bel⟩
   ·go_wp2_with fail
    go_roundw
    case rel => exact ⟨i + 1, by go_num, by omega, zmZ (zaB HP.out hlt (by rw [← Hv.out]; exact HB.out.1 (by simp))), zmZ (Below.after Hb.out HE.out.bel)⟩
    case measure => (simp [intOf] <;> omega)
  ·obtain rfl : i = l.length := by omega
   have HP2 := zmZ (show ∀ v ∈ l, exP w v by have := HP.out; rwa [List.take_length] at this)
   go_wp2_with fail
   go_ret
   exact ⟨za8 true ⟨fun _ => HP2.out, fun _ => rfl⟩, Hb.out⟩
set_option maxRecDepth 100000 in
theorem ziU (w : World) (n : Nat) (hn : n ≤ 400000000000) (h1n : 1 ≤ n) (gt gn : Nat) (s m : Int) (hb : Blk w gt 3 #[.int .i64 s]) (hs0 : 0 ≤ s) (hs1 : s ≤ 1000000000000) (v : VeV) (hl : v.ts.length ≤ 1000000) (P : Prop) (h : Rests w (· ≠ gt) (fun V => Blk V gn 3 #[.int .i64 m] ∧ LsR 5 tecells (teD n) v.A v.ts V ∧ Tz V ∧ (RightP v.ts m V ↔ P))) :
 Calls Tryz.prog 132 #[.slice v.A v.ts.length v.c, .pointer (some ⟨gt, 0, none⟩), .pointer (some ⟨gn, 0, none⟩)] w (zck P gt 3 (s + v.ts.length) w) := by
 have c0 := hb.cb
 have hadd : IntKind.i64.wrap (s + (v.ts.length : Int)) = s + (v.ts.length : Int) := by rw [IntKind.wrap_i64]; omega
 have HU := zmZ (Upd.set1 hb (Below.refl _ _) (.int .i64 (s + v.ts.length)))
 have HR := zmZ (h.upd (by simp) HU.out)
 clear h hb
 go_enter Tryz.func132, Tryz.ntmps132
 go_upto_region 2 with fail
 revert HU HR
 generalize World.setCell w _ _ = W1
 intro HU HR
 have cn := (HR.out.now.1).cb
 clear c0 hadd
 go_wp2_with fail
 refine (zgQ _ n hn h1n v.A v.c v.ts m HR.out.now.2.1 hl HR.out.now.2.2.1).mono ?_
 rintro e w2 ⟨⟨B, rfl, hB⟩, hb⟩
 have HB := zmZ (hB.trans HR.out.now.2.2.2)
 replace HU := zmZ (HU.out.call hb)
 clear hb hB cn
 go_wp2_with fail
 exact bodyPost_ret (v := .bool B) (by simp [results, Tryz.results132, go_sem]) rfl ⟨B, rfl, HB.out, HU.out⟩
def veS (vs : List VeV) : Int := (vs.map fun v => (v.ts.length : Int)).sum
theorem zk0 {vs : List VeV} (h : ∀ v ∈ vs, v.ts.length ≤ 1000) : 0 ≤ veS vs ∧ veS vs ≤ 1000 * vs.length := by
 induction vs with
 | nil => simp [veS]
 | cons v vs ih =>
  have h1 := ih fun u hu => h u (List.mem_cons_of_mem _ hu)
  have h2 := h v (List.mem_cons_self ..)
  unfold veS at h1 ⊢
  simp only [List.map_cons, List.sum_cons, List.length_cons]
  omega
set_option maxRecDepth 100000 in
theorem zjw (w : World) (n : Nat) (hn : n ≤ 400000000000) (h1n : 1 ≤ n) (gt gn : Nat) (s m : Int) (hb : Blk w gt 3 #[.int .i64 s]) (hs : s = 0) (A : Option Addr) (c : Nat) (vs : List VeV) (hl : vs.length ≤ 100000) (hv : ∀ v ∈ vs, v.ts.length ≤ 1000) (P : VeV → Prop) (h : Rests w (· ≠ gt) (fun V => Blk V gn 3 #[.int .i64 m] ∧ LsR 1 vecells (veF (teD n)) A vs V ∧ Tz V ∧ ∀ v ∈ vs, (RightP v.ts m V ↔ P v))) (k : Nat) (hk : k = vs.length) :
 Calls Tryz.prog 134 #[.slice A k c, .func (.func 132) #[] #[.pointer (some ⟨gt, 0, none⟩), .pointer (some ⟨gn, 0, none⟩)]] w (zjX (∀ v ∈ vs, P v) gt 3 (veS vs) w) := by
 subst hk
 have sl1 := h.now.2.1.sl
 have hsz2 := zb9
 have hadd := za3
 have Hs := zmZ (fun (i : Nat) => zk0 (vs := vs.take i) fun v hm => hv v (List.mem_of_mem_take hm))
 have Hu := zmZ (Upd.keep hb (Below.refl _ _))
 have Hh := zmZ h
 have Hv := zmZ hv
 subst hs
 clear h hb hv
 go_enter Tryz.func134, Tryz.ntmps134
 go_wp2_with fail
 go_loopw [9] (fun iv wr => ∃ i : Nat, iv = .int .i64 (i : Int) ∧ i ≤ vs.length ∧ Hid (∀ v ∈ vs.take i, P v) ∧ Hid (Upd gt 3 #[.int .i64 (veS (vs.take i))] w wr)) (fun iv _ => vs.length - (intOf iv).toNat)
 case atStart => exact ⟨0, rfl, Nat.zero_le _, zmZ (by simp), Hu⟩
 case round =>
  clear Hu
  obtain ⟨i, rfl, hi, HP, Hu⟩ := hrel
  by_cases hlt : i < vs.length
  ·have HR := zmZ (Hh.out.upd (by simp) Hu.out)
   have c0 := HR.out.now.2.1.vc i hlt
   have Hn := zmZ (show veS (vs.take i) + ((vs[i]).ts.length : Int) = veS (vs.take (i + 1)) from (zf4 hlt).symm)
   obtain ⟨v, hv⟩ : ∃ v, v = vs[i] := ⟨_, rfl⟩
   rw [← hv] at c0 Hn
   have Hm := zmZ (show v ∈ vs by rw [hv]; exact List.getElem_mem hlt)
   have Hve := zmZ hv
   clear hv
   go_wp2_with fail
   refine (ziU _ n hn h1n gt gn _ m Hu.out.blk (Hs.out i).1 (by have := (Hs.out i).2; rw [List.length_take] at this; omega) v (by have := Hv.out v Hm.out; omega) (P v) (HR.out.imp fun V h => ⟨h.1, h.2.1.ok v Hm.out, h.2.2.1, h.2.2.2 v Hm.out⟩)).mono ?_
   rintro e w3 ⟨B, rfl, hB, hu⟩
   rw [Hn.out] at hu
   have HB := zmZ hB
   replace Hu := zmZ (Hu.out.trans hu)
   clear hu hB HR c0
   cases B
   ·go_wp2_with fail
    go_ret
    exact ⟨false, _, rfl, ⟨fun h0 => absurd h0 (by decide), fun hr => absurd (HB.out.2 (hr v Hm.out)) (by simp)⟩, fun hr => absurd (HB.out.2 (hr v Hm.out)) (by simp), Hu.out⟩
   ·go_wp2_with fail
    go_roundw
    case rel => exact ⟨i + 1, by go_num, by omega, zmZ (zaB HP.out hlt (by rw [← Hve.out]; exact HB.out.1 (by simp))), Hu⟩
    case measure => (simp [intOf] <;> omega)
  ·obtain rfl : i = vs.length := by omega
   have HP2 := zmZ (show ∀ v ∈ vs, P v by have := HP.out; rwa [List.take_length] at this)
   have hu := Hu.out
   rw [List.take_length] at hu
   replace Hu := zmZ hu
   clear hu
   go_wp2_with fail
   go_ret
   exact ⟨true, _, rfl, ⟨fun _ => HP2.out, fun _ => rfl⟩, fun _ => rfl, Hu.out⟩
set_option maxRecDepth 100000 in
theorem zie (w : World) (gl gn : Nat) (y m z : Int) (hb : Blk w gl 3 #[.int .i64 y]) (hn : Blk w gn 3 #[.int .i64 m]) (h : ¬ y < z) :
 Calls Tryz.prog 143 #[.int .i64 z, .pointer (some ⟨gl, 0, none⟩), .pointer (some ⟨gn, 0, none⟩)] w (zck (y < z ∧ z < m) gl 3 z w) := by
 have c0 := hb.cb
 have c1 := hn.cb
 have HU := zmZ (Upd.set1 hb (Below.refl _ _) (.int .i64 z))
 have h' : ¬ z > y := h
 have Hh := zmZ h
 clear hb hn
 go_enter Tryz.func143, Tryz.ntmps143
 go_wp2_with fail
 go_ret
 exact ⟨false, rfl, ⟨fun h0 => absurd h0 (by decide), fun h0 => by have h1 := h0.1; have h2 := Hh.out; omega⟩, HU.out⟩
set_option maxRecDepth 100000 in
theorem zh1 (w : World) (gl gn : Nat) (y m z : Int) (hb : Blk w gl 3 #[.int .i64 y]) (hn : Blk w gn 3 #[.int .i64 m]) (h : y < z) :
 Calls Tryz.prog 143 #[.int .i64 z, .pointer (some ⟨gl, 0, none⟩), .pointer (some ⟨gn, 0, none⟩)] w (zck (y < z ∧ z < m) gl 3 z w) := by
 have c0 := hb.cb
 have c1 := hn.cb
 have HU := zmZ (Upd.set1 hb (Below.refl _ _) (.int .i64 z))
 have h' : z > y := h
 clear hb hn
 go_enter Tryz.func143, Tryz.ntmps143
 go_wp2_with fail
 go_ret
 exact ⟨_, rfl, (by simp only [decide_eq_true_iff]; omega), HU.out⟩
theorem zgv (w : World) (gl gn : Nat) (y m z : Int) (hb : Blk w gl 3 #[.int .i64 y]) (hn : Blk w gn 3 #[.int .i64 m]) :
 Calls Tryz.prog 143 #[.int .i64 z, .pointer (some ⟨gl, 0, none⟩), .pointer (some ⟨gn, 0, none⟩)] w (zck (y < z ∧ z < m) gl 3 z w) := by
 by_cases h : y < z
 ·exact zh1 w gl gn y m z hb hn h
 ·exact zie w gl gn y m z hb hn h
def RisI (m : Int) : Int → List Int → Prop
 | _, [] => True
 | y, z :: l => (y < z ∧ z < m) ∧ RisI m z l
theorem zfL {m : Int} : ∀ {l : List Int} {y : Int}, RisI m y l ↔ (∀ z ∈ l, y < z ∧ z < m) ∧ l.Pairwise (· < ·)
 | [], y => by simp [RisI]
 | z :: l, y => by
  unfold RisI
  rw [zfL (l := l) (y := z)]
  simp only [List.mem_cons, forall_eq_or_imp, List.pairwise_cons]
  constructor
  ·rintro ⟨h1, h2, h3⟩
   exact ⟨⟨h1, fun x hx => ⟨by have := (h2 x hx).1; omega, (h2 x hx).2⟩⟩, fun x hx => (h2 x hx).1, h3⟩
  ·rintro ⟨⟨h1, h2⟩, h3, h4⟩
   exact ⟨h1, fun x hx => ⟨h3 x hx, (h2 x hx).2⟩, h4⟩
theorem zfF {m : Int} {g : GrV} : GrP m g ↔ 0 < g.l.length ∧ RisI m (-1) g.l := by
 unfold GrP
 rw [zfL, List.length_pos_iff]
 refine and_congr Iff.rfl (and_congr (forall_congr' fun z => forall_congr' fun _ => ?_) Iff.rfl)
 omega
theorem zh8 {m : Int} {l : List Int} {i : Nat} (hi : i < l.length) {y : Int} : RisI m y (l.drop i) ↔ (y < l[i] ∧ l[i] < m) ∧ RisI m l[i] (l.drop (i + 1)) := by
 rw [List.drop_eq_getElem_cons hi]
 exact Iff.rfl
set_option maxRecDepth 100000 in
theorem zgw (w : World) (gl gn : Nat) (y m : Int) (hb : Blk w gl 3 #[.int .i64 y]) (A : Option Addr) (c : Nat) (l : List Int) (hl : l.length ≤ 1000000) (h : Rests w (· ≠ gl) (fun V => Blk V gn 3 #[.int .i64 m] ∧ LsR 1 icells okI A l V)) :
 Calls Tryz.prog 138 #[.slice A l.length c, .func (.func 143) #[] #[.pointer (some ⟨gl, 0, none⟩), .pointer (some ⟨gn, 0, none⟩)]] w (zkz (RisI m y l) gl 3 w) := by
 have sl1 := h.now.2.sl
 have hsz2 := zaF
 have hadd := za3
 have Hu := zmZ (Upd.keep hb (Below.refl _ _))
 have Hh := zmZ h
 clear h hb
 go_enter Tryz.func138, Tryz.ntmps138
 go_wp2_with fail
 go_loopw [9] (fun iv wr => ∃ (i : Nat) (x : Int), iv = .int .i64 (i : Int) ∧ i ≤ l.length ∧ Hid (RisI m y l ↔ RisI m x (l.drop i)) ∧ Hid (Upd gl 3 #[.int .i64 x] w wr)) (fun iv _ => l.length - (intOf iv).toNat)
 case atStart => exact ⟨0, y, rfl, Nat.zero_le _, zmZ Iff.rfl, Hu⟩
 case round =>
  clear Hu
  obtain ⟨i, x, rfl, hi, HP, Hu⟩ := hrel
  by_cases hlt : i < l.length
  ·have HR := zmZ (Hh.out.upd (by simp) Hu.out)
   have c0 := HR.out.now.2.ic i hlt
   have Hn := zmZ (HP.out.trans (zh8 hlt))
   obtain ⟨v, hv⟩ : ∃ v, v = l[i] := ⟨_, rfl⟩
   rw [← hv] at c0 Hn
   clear hv
   go_wp2_with fail
   refine (zgv _ gl gn x m v Hu.out.blk HR.out.now.1).mono ?_
   rintro e w3 ⟨B, rfl, hB, hu⟩
   have HB := zmZ hB
   replace Hu := zmZ (Hu.out.trans hu)
   clear hu hB HR c0
   cases B
   ·go_wp2_with fail
    go_ret
    exact ⟨false, _, rfl, ⟨fun h0 => absurd h0 (by decide), fun hr => absurd (HB.out.2 (Hn.out.1 hr).1) (by simp)⟩, Hu.out⟩
   ·go_wp2_with fail
    go_roundw
    case rel => exact ⟨i + 1, v, by go_num, by omega, zmZ (Hn.out.trans ⟨fun h => h.2, fun h => ⟨HB.out.1 (by first | rfl | trivial), h⟩⟩), Hu⟩
    case measure => (simp [intOf] <;> omega)
  ·obtain rfl : i = l.length := by omega
   have HP2 := zmZ (show RisI m y l from HP.out.2 (by rw [List.drop_length]; trivial))
   go_wp2_with fail
   go_ret
   exact ⟨true, _, rfl, ⟨fun _ => HP2.out, fun _ => rfl⟩, Hu.out⟩

theorem IntD.iffR {i : IV} {y z : Int} {n : Nat} {w : World} (h : IntD i y n w) : Rests w (· < w.heap.size) (fun V => IntN i z V ↔ IntN i z w) := by
 obtain ⟨l, hk, hrd, -, -⟩ := h.ex
 have hr : Rests w (· < w.heap.size) (fun V => Rd V .u64 i.A l) := za7 hrd fun k hk => hrd.lt k hk
 exact ⟨Iff.rfl, fun w' hw => by rw [zda hk (hr.lift w' hw) h.cap, zda hk hrd h.cap]⟩
theorem RatD.iffR {r : RV} {q q' : Rat} {n : Nat} {w : World} (h : RatD r q n w) : Rests w (· < w.heap.size) (fun V => RatN r q' V ↔ RatN r q' w) := by
 obtain ⟨x, d, hx, hd, -⟩ := h.ex
 refine ⟨Iff.rfl, fun w' hw => ⟨fun k => ⟨(hx.iffR.lift w' hw).1 k.num, (hd.iffR.lift w' hw).1 k.den⟩, fun k => ⟨(hx.iffR.lift w' hw).2 k.num, (hd.iffR.lift w' hw).2 k.den⟩⟩⟩
theorem RightP.iffR {ts : List TeV} {n : Nat} {A : Option Addr} {w : World} (h : LsR 5 tecells (teD n) A ts w) : Rests w (· < w.heap.size) (fun V => ∀ m, RightP ts m V ↔ RightP ts m w) := by
 refine ⟨fun _ => Iff.rfl, fun w' hw m => ⟨fun ⟨h1, h2, h3, h4⟩ => ⟨h1, h2, h3, fun t ht => ((RatD.iffR (h.ok t ht)).lift w' hw).1 (h4 t ht)⟩, fun ⟨h1, h2, h3, h4⟩ => ⟨h1, h2, h3, fun t ht => ((RatD.iffR (h.ok t ht)).lift w' hw).2 (h4 t ht)⟩⟩⟩
structure LaI (w : World) (l : LaV) (V : World) : Prop where
 rows : ∀ v ∈ l.rows, ∀ m, RightP v.ts m V ↔ RightP v.ts m w
 bias : ∀ p ∈ l.bias, exP V p ↔ exP w p
 kern : ∀ p ∈ l.kern, exP V p ↔ exP w p
theorem LaD.iffR {n : Nat} {l : LaV} {w : World} (h : LaD n l w) : Rests w (· < w.heap.size) (LaI w l) :=
 ⟨⟨fun _ _ _ => Iff.rfl, fun _ _ => Iff.rfl, fun _ _ => Iff.rfl⟩, fun w' hw => ⟨fun v hv => (RightP.iffR (show LsR 5 tecells (teD n) v.A v.ts w from h.rows.ok v hv)).lift w' hw, fun p hp => (RatD.iffR (h.bias.ok p hp)).lift w' hw, fun p hp => (RatD.iffR (h.kern.ok p hp)).lift w' hw⟩⟩
theorem zfK {w : World} {g : Nat} {t : TypeId} {l : List Int} (h : Blk w g t (l.map fun z => Value.int .i64 z).toArray) : LsR 1 icells okI (some ⟨g, 0, none⟩) l w := by
 refine ⟨⟨Sl.some_ _ _ _, fun i hi => ?_, fun i hi j hj => ?_⟩, fun _ _ => trivial⟩
 ·rw [List.getElem_map]; rfl
 ·obtain rfl : j = 0 := by omega
  rw [za4, Nat.zero_add, Nat.mul_one, Nat.add_zero, h.cell, List.getElem_map]
  have hi' : i < l.length := by simpa using hi
  simp [icells, hi']
structure Lens (l : LaV) (nr nb nk ng : Nat) : Prop where
 r : nr = l.rows.length
 b : nb = l.bias.length
 k : nk = l.kern.length
 g : ng = l.grs.length
theorem Lens.of (l : LaV) : Lens l l.rows.length l.bias.length l.kern.length l.grs.length := ⟨rfl, rfl, rfl, rfl⟩
theorem zfb {α : Type} {l : List α} {k : Nat} (h : k = l.length) (hk : ¬ 0 < k) : l = [] := List.eq_nil_of_length_eq_zero (by omega)
theorem zd2 {α : Type} {l : List α} {k : Nat} (h : k = l.length) : l = [] ↔ k = 0 := by rw [h]; exact List.length_eq_zero_iff.symm
def BehRes (P : Prop) (u t : Int) (e : Ending) : Prop := (P ∧ e = .returned (.tuple #[.int .i64 u, .int .i64 t, .bool true])) ∨ (¬ P ∧ e = .returned (.tuple #[.int .i64 0, .int .i64 0, .bool false]))
theorem BehRes.no {P : Prop} {u t : Int} {w w' : World} {e : Ending} (hP : ¬ P) (h : e = .returned (.tuple #[.int .i64 0, .int .i64 0, .bool false]) ∧ Below w.heap.size w w') : BehRes P u t e ∧ Below w.heap.size w w' := ⟨.inr ⟨hP, h.1⟩, h.2⟩
set_option maxRecDepth 100000 in
theorem zhu (w : World) (gt gn : Nat) (s m : Int) (hb : Blk w gt 3 #[.int .i64 s]) (hs0 : 0 ≤ s) (hs1 : s ≤ 1000000000000) (g : GrV) (hl : g.l.length ≤ 1000000) (h : Rests w (· ≠ gt) (fun V => Blk V gn 3 #[.int .i64 m] ∧ grD g V)) (hlen : ¬ 0 < g.l.length) :
 Calls Tryz.prog 142 #[.slice g.A g.l.length g.c, .pointer (some ⟨gt, 0, none⟩), .pointer (some ⟨gn, 0, none⟩)] w (zck (GrP m g) gt 3 (s + g.l.length) w) := by
 have c0 := hb.cb
 have hadd : IntKind.i64.wrap (s + (g.l.length : Int)) = s + (g.l.length : Int) := by rw [IntKind.wrap_i64]; omega
 have HU := zmZ (Upd.set1 hb (Below.refl _ _) (.int .i64 (s + g.l.length)))
 have HR := zmZ (h.upd (by simp) HU.out)
 clear h hb
 obtain ⟨k, hk⟩ : ∃ k, k = g.l.length := ⟨_, rfl⟩
 rw [← hk] at hadd HU HR hlen ⊢
 have Hk := zmZ hk
 clear hk
 go_enter Tryz.func142, Tryz.ntmps142
 go_upto_region 2 with fail
 revert HU HR
 generalize World.setCell w _ _ = W1
 intro HR HU
 clear c0 hadd
 go_upto_region 3 with fail
 obtain ⟨W2, gl, hW2, hgl, HA⟩ := Upd.al HU.out HR.out 3 #[.int .i64 (-1)]
 rw [hW2, hgl]
 clear hW2 hgl HR
 have Hl := zmZ hlen
 have hlen' : (k : Int) = 0 := by omega
 have hk0 : k = 0 := by omega
 clear hlen
 subst hk0
 go_wp2_with fail
 go_ret
 exact ⟨false, rfl, ⟨fun h0 => absurd h0 (by decide), fun h0 => absurd (zfF.1 h0).1 (by rw [← Hk.out]; decide)⟩, HA.out.1⟩
set_option maxRecDepth 100000 in
theorem zix (w : World) (gt gn : Nat) (s m : Int) (hb : Blk w gt 3 #[.int .i64 s]) (hs0 : 0 ≤ s) (hs1 : s ≤ 1000000000000) (g : GrV) (hl : g.l.length ≤ 1000000) (h : Rests w (· ≠ gt) (fun V => Blk V gn 3 #[.int .i64 m] ∧ grD g V)) (hlen : 0 < g.l.length) :
 Calls Tryz.prog 142 #[.slice g.A g.l.length g.c, .pointer (some ⟨gt, 0, none⟩), .pointer (some ⟨gn, 0, none⟩)] w (zck (GrP m g) gt 3 (s + g.l.length) w) := by
 have c0 := hb.cb
 have hadd : IntKind.i64.wrap (s + (g.l.length : Int)) = s + (g.l.length : Int) := by rw [IntKind.wrap_i64]; omega
 have HU := zmZ (Upd.set1 hb (Below.refl _ _) (.int .i64 (s + g.l.length)))
 have HR := zmZ (h.upd (by simp) HU.out)
 clear h hb
 obtain ⟨k, hk⟩ : ∃ k, k = g.l.length := ⟨_, rfl⟩
 rw [← hk] at hadd HU HR hlen ⊢
 have Hk := zmZ hk
 clear hk
 go_enter Tryz.func142, Tryz.ntmps142
 go_upto_region 2 with fail
 revert HU HR
 generalize World.setCell w _ _ = W1
 intro HR HU
 clear c0 hadd
 go_upto_region 3 with fail
 obtain ⟨W2, gl, hW2, hgl, HA⟩ := Upd.al HU.out HR.out 3 #[.int .i64 (-1)]
 rw [hW2, hgl]
 clear hW2 hgl HR
 have Hl := zmZ hlen
 have cl := HA.out.2.1.cb
 go_wp2_with fail
 refine (show Calls Tryz.prog 138 #[.slice g.A k g.c, .func (.func 143) #[] #[.pointer (some ⟨gl, 0, none⟩), .pointer (some ⟨gn, 0, none⟩)]] W2 _ from by rw [Hk.out]; exact zgw W2 gl gn (-1) m HA.out.2.1 g.A g.c g.l hl (HA.out.2.2.2.2.imp fun V h => ⟨h.1, h.2⟩)).mono ?_
 rintro e w3 ⟨B, x, rfl, hB, hu⟩
 have HB := zmZ hB
 have HU3 := zmZ (HA.out.1.other hu HA.out.2.2.2.1 HA.out.2.2.1)
 clear hB hu cl HU
 go_wp2_with fail
 exact bodyPost_ret (v := .bool B) (by simp [results, Tryz.results142, go_sem]) rfl ⟨B, rfl, HB.out.trans ⟨fun h => zfF.2 ⟨by rw [← Hk.out]; exact Hl.out, h⟩, fun h => (zfF.1 h).2⟩, HU3.out⟩
theorem zi5 (w : World) (gt gn : Nat) (s m : Int) (hb : Blk w gt 3 #[.int .i64 s]) (hs0 : 0 ≤ s) (hs1 : s ≤ 1000000000000) (g : GrV) (hl : g.l.length ≤ 1000000) (h : Rests w (· ≠ gt) (fun V => Blk V gn 3 #[.int .i64 m] ∧ grD g V)) :
 Calls Tryz.prog 142 #[.slice g.A g.l.length g.c, .pointer (some ⟨gt, 0, none⟩), .pointer (some ⟨gn, 0, none⟩)] w (zck (GrP m g) gt 3 (s + g.l.length) w) := by
 by_cases hlen : 0 < g.l.length
 ·exact zix w gt gn s m hb hs0 hs1 g hl h hlen
 ·exact zhu w gt gn s m hb hs0 hs1 g hl h hlen
def grS (gs : List GrV) : Int := (gs.map fun g => (g.l.length : Int)).sum
theorem zjS {gs : List GrV} (h : ∀ g ∈ gs, g.l.length ≤ 1000) : 0 ≤ grS gs ∧ grS gs ≤ 1000 * gs.length := by
 induction gs with
 | nil => simp [grS]
 | cons v vs ih =>
  have h1 := ih fun u hu => h u (List.mem_cons_of_mem _ hu)
  have h2 := h v (List.mem_cons_self ..)
  unfold grS at h1 ⊢
  simp only [List.map_cons, List.sum_cons, List.length_cons]
  omega
set_option maxRecDepth 100000 in
theorem zhX (w : World) (gt gn : Nat) (s m : Int) (hb : Blk w gt 3 #[.int .i64 s]) (hs : s = 0) (A : Option Addr) (c : Nat) (gs : List GrV) (hl : gs.length ≤ 100000) (hv : ∀ g ∈ gs, g.l.length ≤ 1000) (h : Rests w (· ≠ gt) (fun V => Blk V gn 3 #[.int .i64 m] ∧ LsR 1 grcells grD A gs V)) (k : Nat) (hk : k = gs.length) :
 Calls Tryz.prog 144 #[.slice A k c, .func (.func 142) #[] #[.pointer (some ⟨gt, 0, none⟩), .pointer (some ⟨gn, 0, none⟩)]] w (zjX (∀ g ∈ gs, GrP m g) gt 3 (grS gs) w) := by
 subst hk
 have sl1 := h.now.2.sl
 have hsz2 := zbt
 have hadd := za3
 have Hs := zmZ (fun (i : Nat) => zjS (gs := gs.take i) fun v hm => hv v (List.mem_of_mem_take hm))
 have Hu := zmZ (Upd.keep hb (Below.refl _ _))
 have Hh := zmZ h
 have Hv := zmZ hv
 subst hs
 clear h hb hv
 go_enter Tryz.func144, Tryz.ntmps144
 go_wp2_with fail
 go_loopw [9] (fun iv wr => ∃ i : Nat, iv = .int .i64 (i : Int) ∧ i ≤ gs.length ∧ Hid (∀ v ∈ gs.take i, GrP m v) ∧ Hid (Upd gt 3 #[.int .i64 (grS (gs.take i))] w wr)) (fun iv _ => gs.length - (intOf iv).toNat)
 case atStart => exact ⟨0, rfl, Nat.zero_le _, zmZ (by simp), Hu⟩
 case round =>
  clear Hu
  obtain ⟨i, rfl, hi, HP, Hu⟩ := hrel
  by_cases hlt : i < gs.length
  ·have HR := zmZ (Hh.out.upd (by simp) Hu.out)
   have c0 := HR.out.now.2.gc i hlt
   have Hn := zmZ (show grS (gs.take i) + ((gs[i]).l.length : Int) = grS (gs.take (i + 1)) from (zf4 hlt).symm)
   obtain ⟨v, hv⟩ : ∃ v, v = gs[i] := ⟨_, rfl⟩
   rw [← hv] at c0 Hn
   have Hm := zmZ (show v ∈ gs by rw [hv]; exact List.getElem_mem hlt)
   have Hve := zmZ hv
   clear hv
   go_wp2_with fail
   refine (zi5 _ gt gn _ m Hu.out.blk (Hs.out i).1 (by have := (Hs.out i).2; rw [List.length_take] at this; omega) v (by have := Hv.out v Hm.out; omega) (HR.out.imp fun V h => ⟨h.1, h.2.ok v Hm.out⟩)).mono ?_
   rintro e w3 ⟨B, rfl, hB, hu⟩
   rw [Hn.out] at hu
   have HB := zmZ hB
   replace Hu := zmZ (Hu.out.trans hu)
   clear hu hB HR c0
   cases B
   ·go_wp2_with fail
    go_ret
    exact ⟨false, _, rfl, ⟨fun h0 => absurd h0 (by decide), fun hr => absurd (HB.out.2 (hr v Hm.out)) (by simp)⟩, fun hr => absurd (HB.out.2 (hr v Hm.out)) (by simp), Hu.out⟩
   ·go_wp2_with fail
    go_roundw
    case rel => exact ⟨i + 1, by go_num, by omega, zmZ (zaB HP.out hlt (by rw [← Hve.out]; exact HB.out.1 (by simp))), Hu⟩
    case measure => (simp [intOf] <;> omega)
  ·obtain rfl : i = gs.length := by omega
   have HP2 := zmZ (show ∀ v ∈ gs, GrP m v by have := HP.out; rwa [List.take_length] at this)
   have hu := Hu.out
   rw [List.take_length] at hu
   replace Hu := zmZ hu
   clear hu
   go_wp2_with fail
   go_ret
   exact ⟨true, _, rfl, ⟨fun _ => HP2.out, fun _ => rfl⟩, fun _ => rfl, Hu.out⟩
set_option maxRecDepth 100000 in
theorem zjb (w : World) (l : LaV) (nr nb nk ng : Nat) (HL : Hid (Lens l nr nb nk ng)) (hk : l.kern ≠ []) : Calls Tryz.prog 91 #[lA l nr nb nk ng] w fun e w' => zaJ (zap l) e ∧ Below w.heap.size w w' := by
 have HK := zmZ hk
 have HE := zmZ (layL l nr nb nk ng (Rests.pure trivial w _))
 have c := Env.c1 HE.out
 clear hk
 unfold lA
 go_enter Tryz.func91, Tryz.ntmps91
 go_upto_region 2 with fail
 obtain ⟨W2, g4, hW2, hg4, HE⟩ := Env.al HE.out 3 #[.int .i64 l.ch, .int .i64 l.high, .int .i64 l.wide, .int .i64 l.out, .int .i64 l.kh, .int .i64 l.kw, .int .i64 l.st, .int .i64 l.pad]
 replace hg4 : w.heap.size + 1 = g4 := by rw [← hg4]; simp
 rw [hW2, hg4]
 clear hW2 hg4
 replace c := Env.c2 HE.out
 have hk0 : nk ≠ 0 := fun h => HK.out ((zd2 HL.out.k).2 h)
 have hk1 : ((nk : Int) == 0) = false := by simp [hk0]
 go_wp2_with fail
 exact bodyPost_ret (v := .bool false) (by simp [results, Tryz.results91, go_sem]) rfl ⟨za8 false ⟨fun h0 => absurd h0 (by decide), fun h => absurd h.1 HK.out⟩, HE.out.bel⟩
set_option maxRecDepth 100000 in
theorem zjG (w : World) (l : LaV) (nr nb nk ng : Nat) (HL : Hid (Lens l nr nb nk ng)) (hk : l.kern = []) : Calls Tryz.prog 91 #[lA l nr nb nk ng] w fun e w' => zaJ (zap l) e ∧ Below w.heap.size w w' := by
 have HK := zmZ hk
 have HE := zmZ (layL l nr nb nk ng (Rests.pure trivial w _))
 have c := Env.c1 HE.out
 clear hk
 unfold lA
 go_enter Tryz.func91, Tryz.ntmps91
 go_upto_region 2 with fail
 obtain ⟨W2, g4, hW2, hg4, HE⟩ := Env.al HE.out 3 #[.int .i64 l.ch, .int .i64 l.high, .int .i64 l.wide, .int .i64 l.out, .int .i64 l.kh, .int .i64 l.kw, .int .i64 l.st, .int .i64 l.pad]
 replace hg4 : w.heap.size + 1 = g4 := by rw [← hg4]; simp
 rw [hW2, hg4]
 clear hW2 hg4
 replace c := Env.c2 HE.out
 have hk1 : ((nk : Int) == 0) = true := by rw [(zd2 HL.out.k).1 HK.out]; rfl
 have Hi := zmZ (zfK (l := [l.ch, l.high, l.wide, l.out, l.kh, l.kw, l.st, l.pad]) (HE.out.bx ⟨g4, 3, #[.int .i64 l.ch, .int .i64 l.high, .int .i64 l.wide, .int .i64 l.out, .int .i64 l.kh, .int .i64 l.kw, .int .i64 l.st, .int .i64 l.pad]⟩ (List.mem_cons_self ..)))
 go_wp2_with fail
 refine (zgl W2 (some ⟨g4, 0, none⟩) 8 [l.ch, l.high, l.wide, l.out, l.kh, l.kw, l.st, l.pad] Hi.out (by simp)).mono ?_
 rintro e w3 ⟨⟨B, rfl, hB⟩, hb⟩
 have HB := zmZ (show B = true ↔ zap l by
  rw [hB]
  simp only [List.mem_cons, List.not_mem_nil, or_false, forall_eq_or_imp, forall_eq]
  exact ⟨fun h => ⟨HK.out, h⟩, fun h => h.2⟩)
 replace HE := zmZ (Env.call HE.out hb)
 clear hb hB c
 go_wp2_with fail
 exact bodyPost_ret (v := .bool B) (by simp [results, Tryz.results91, go_sem]) rfl ⟨za8 B HB.out, HE.out.bel⟩
theorem zan (w : World) (l : LaV) (nr nb nk ng : Nat) (HL : Hid (Lens l nr nb nk ng)) : Calls Tryz.prog 91 #[lA l nr nb nk ng] w fun e w' => zaJ (zap l) e ∧ Below w.heap.size w w' := by
 by_cases hk : l.kern = []
 ·exact zjG w l nr nb nk ng HL hk
 ·exact zjb w l nr nb nk ng HL hk
structure LaS (l : LaV) : Prop where
 rows : l.rows.length ≤ 100000
 row : ∀ v ∈ l.rows, v.ts.length ≤ 1000
 bias : l.bias.length ≤ 100000
 kern : l.kern.length ≤ 100000
 grs : l.grs.length ≤ 100000
 gr : ∀ g ∈ l.grs, g.l.length ≤ 1000
set_option maxRecDepth 100000 in
theorem zjD (w : World) (n : Nat) (_hn : n ≤ 400000000000) (_h1n : 1 ≤ n) (l : LaV) (N : Int) (h : LaD n l w) (hs : LaS l) (hT : Tz w) (nr nb nk ng : Nat) (HL : Hid (Lens l nr nb nk ng)) (hp : ¬ zap l) : Calls Tryz.prog 89 #[lA l nr nb nk ng, .int .i64 N] w fun e w' => e = .returned (.tuple #[.int .i64 0, .int .i64 0, .bool false]) ∧ Below w.heap.size w w' := by
 have HP := zmZ hp
 clear hp
 have Hs := zmZ hs
 have Hl := zmZ h
 have HE := zmZ (zdG l nr nb nk ng N (((LaD.old l w h)).and ((hT.old).and ((LaD.iffR h)))))
 have c := Env.c2 HE.out
 have dd := Env.d2 HE.out
 clear h hs hT
 unfold lA
 go_enter Tryz.func89, Tryz.ntmps89
 go_wp2_with fail
 refine (zan _ l nr nb nk ng HL).mono ?_
 rintro e w1 ⟨⟨B, rfl, hB⟩, hb⟩
 replace HE := zmZ (Env.call HE.out hb)
 replace c := Env.c2 HE.out
 clear hb
 obtain rfl : B = false := by
  cases B
  ·rfl
  ·exact absurd (hB.1 rfl) HP.out
 clear hB
 go_wp2_with fail
 go_ret3
 exact ⟨rfl, HE.out.bel⟩
set_option maxRecDepth 100000 in
theorem zjC (w : World) (n : Nat) (_hn : n ≤ 400000000000) (_h1n : 1 ≤ n) (l : LaV) (N : Int) (h : LaD n l w) (hs : LaS l) (hT : Tz w) (nr nb nk ng : Nat) (HL : Hid (Lens l nr nb nk ng)) (hp : zap l)  (h0 : (0 < ng)) : Calls Tryz.prog 89 #[lA l nr nb nk ng, .int .i64 N] w fun e w' => e = .returned (.tuple #[.int .i64 0, .int .i64 0, .bool false]) ∧ Below w.heap.size w w' := by
 have HP := zmZ hp
 clear hp
 have H0 := zmZ h0
 clear h0
 have Hs := zmZ hs
 have Hl := zmZ h
 have HE := zmZ (zdG l nr nb nk ng N (((LaD.old l w h)).and ((hT.old).and ((LaD.iffR h)))))
 have c := Env.c2 HE.out
 have dd := Env.d2 HE.out
 clear h hs hT
 unfold lA
 go_enter Tryz.func89, Tryz.ntmps89
 go_wp2_with fail
 refine (zan _ l nr nb nk ng HL).mono ?_
 rintro e w1 ⟨⟨B, rfl, hB⟩, hb⟩
 replace HE := zmZ (Env.call HE.out hb)
 replace c := Env.c2 HE.out
 clear hb
 obtain rfl : B = true := by
  cases B
  ·exact absurd (hB.2 HP.out) (by decide)
  ·rfl
 clear hB
 have h0 := H0.out
 go_wp2_with fail
 go_ret3
 exact ⟨rfl, HE.out.bel⟩
set_option maxRecDepth 100000 in
theorem ziy (w : World) (n : Nat) (_hn : n ≤ 400000000000) (_h1n : 1 ≤ n) (l : LaV) (N : Int) (h : LaD n l w) (hs : LaS l) (hT : Tz w) (nr nb nk ng : Nat) (HL : Hid (Lens l nr nb nk ng)) (hp : zap l) (h0 : ¬ 0 < ng) (h1 : (((nr : Int) == 0) = true)) : Calls Tryz.prog 89 #[lA l nr nb nk ng, .int .i64 N] w fun e w' => e = .returned (.tuple #[.int .i64 0, .int .i64 0, .bool false]) ∧ Below w.heap.size w w' := by
 have HP := zmZ hp
 clear hp
 have H0 := zmZ h0
 have H1 := zmZ h1
 clear h0 h1
 have Hs := zmZ hs
 have Hl := zmZ h
 have HE := zmZ (zdG l nr nb nk ng N (((LaD.old l w h)).and ((hT.old).and ((LaD.iffR h)))))
 have c := Env.c2 HE.out
 have dd := Env.d2 HE.out
 clear h hs hT
 unfold lA
 go_enter Tryz.func89, Tryz.ntmps89
 go_wp2_with fail
 refine (zan _ l nr nb nk ng HL).mono ?_
 rintro e w1 ⟨⟨B, rfl, hB⟩, hb⟩
 replace HE := zmZ (Env.call HE.out hb)
 replace c := Env.c2 HE.out
 clear hb
 obtain rfl : B = true := by
  cases B
  ·exact absurd (hB.2 HP.out) (by decide)
  ·rfl
 clear hB
 have h0 := H0.out
 have h1 := H1.out
 go_wp2_with fail
 go_ret3
 exact ⟨rfl, HE.out.bel⟩
set_option maxRecDepth 100000 in
theorem zjm (w : World) (n : Nat) (_hn : n ≤ 400000000000) (_h1n : 1 ≤ n) (l : LaV) (N : Int) (h : LaD n l w) (hs : LaS l) (hT : Tz w) (nr nb nk ng : Nat) (HL : Hid (Lens l nr nb nk ng)) (hp : zap l) (h0 : ¬ 0 < ng) (h1 : (((nr : Int) == 0) = false)) (h2 : (((nr : Int) != (nb : Int)) = true)) : Calls Tryz.prog 89 #[lA l nr nb nk ng, .int .i64 N] w fun e w' => e = .returned (.tuple #[.int .i64 0, .int .i64 0, .bool false]) ∧ Below w.heap.size w w' := by
 have HP := zmZ hp
 clear hp
 have H0 := zmZ h0
 have H1 := zmZ h1
 have H2 := zmZ h2
 clear h0 h1 h2
 have Hs := zmZ hs
 have Hl := zmZ h
 have HE := zmZ (zdG l nr nb nk ng N (((LaD.old l w h)).and ((hT.old).and ((LaD.iffR h)))))
 have c := Env.c2 HE.out
 have dd := Env.d2 HE.out
 clear h hs hT
 unfold lA
 go_enter Tryz.func89, Tryz.ntmps89
 go_wp2_with fail
 refine (zan _ l nr nb nk ng HL).mono ?_
 rintro e w1 ⟨⟨B, rfl, hB⟩, hb⟩
 replace HE := zmZ (Env.call HE.out hb)
 replace c := Env.c2 HE.out
 clear hb
 obtain rfl : B = true := by
  cases B
  ·exact absurd (hB.2 HP.out) (by decide)
  ·rfl
 clear hB
 have h0 := H0.out
 have h1 := H1.out
 have h2 := H2.out
 go_wp2_with fail
 go_ret3
 exact ⟨rfl, HE.out.bel⟩
set_option maxRecDepth 100000 in
theorem zhR (w : World) (n : Nat) (hn : n ≤ 400000000000) (h1n : 1 ≤ n) (l : LaV) (N : Int) (h : LaD n l w) (hs : LaS l) (hT : Tz w) (nr nb nk ng : Nat) (HL : Hid (Lens l nr nb nk ng)) (hp : zap l) (h0 : ¬ 0 < ng) (h1 : (((nr : Int) == 0) = false)) (h2 : (((nr : Int) != (nb : Int)) = false)) : Calls Tryz.prog 89 #[lA l nr nb nk ng, .int .i64 N] w fun e w' => BehRes (AffP w l N) nr (veS l.rows) e ∧ Below w.heap.size w w' := by
 have HP := zmZ hp
 have H0 := zmZ h0
 have H1 := zmZ h1
 have H2 := zmZ h2
 clear hp h0 h1 h2
 have Hs := zmZ hs
 have Hl := zmZ h
 have HE := zmZ (zdG l nr nb nk ng N (((LaD.old l w h)).and ((hT.old).and ((LaD.iffR h)))))
 have c := Env.c2 HE.out
 have dd := Env.d2 HE.out
 clear h hs hT
 unfold lA
 go_enter Tryz.func89, Tryz.ntmps89
 go_wp2_with fail
 refine (zan _ l nr nb nk ng HL).mono ?_
 rintro e w1 ⟨⟨B, rfl, hB⟩, hb⟩
 replace HE := zmZ (Env.call HE.out hb)
 replace c := Env.c2 HE.out
 clear hb
 obtain rfl : B = true := by
  cases B
  ·exact absurd (hB.2 HP.out) (by decide)
  ·rfl
 clear hB
 have h0 := H0.out
 have h1 := H1.out
 have h2 := H2.out
 go_upto_region 4 with fail
 obtain ⟨W2, gt, hW2, hgt, HE⟩ := Env.al HE.out 3 #[.int .i64 0]
 rw [hW2, hgt]
 clear hW2 hgt
 replace c := Env.c3 HE.out
 go_wp2_with fail
 refine (zjw _ n hn h1n gt (w.heap.size + 1) 0 N HE.out.box rfl l.Ar l.cr l.rows Hs.out.rows Hs.out.row (fun v => RightP v.ts N w) ((HE.out.nbr (b := ⟨w.heap.size + 1, 3, #[.int .i64 N]⟩) (by simp)).and HE.out.apart |>.imp fun V h => ⟨h.1, h.2.1.1.rows, h.2.1.2.1, fun v hv => h.2.1.2.2.rows v hv N⟩) nr HL.out.r).mono ?_
 rintro e w3 ⟨B, s, rfl, hB, hsum, hu⟩
 replace HE := zmZ (Env.upd HE.out hu)
 replace c := Env.c3 HE.out
 have HB := zmZ hB
 have HS := zmZ hsum
 clear hu hB hsum
 cases B
 ·go_wp2_with fail
  go_ret3
  exact BehRes.no (fun hA => absurd (HB.out.2 hA.er) (by decide)) ⟨rfl, HE.out.bel⟩
 ·obtain rfl : s = veS l.rows := HS.out (HB.out.1 rfl)
  go_wp2_with fail
  refine (ziO _ n hn h1n l.Ab l.cb l.bias HE.out.o.1.bias (by have := Hs.out.bias; omega) HE.out.o.2.1 nb HL.out.b).mono ?_
  rintro e w4 ⟨⟨B, rfl, hB⟩, hb⟩
  have HB2 := zmZ (hB.trans ⟨fun h p hp => (HE.out.o.2.2.bias p hp).1 (h p hp), fun h p hp => (HE.out.o.2.2.bias p hp).2 (h p hp)⟩)
  replace HE := zmZ (Env.call HE.out hb)
  replace c := Env.c3 HE.out
  clear hb hB
  cases B
  ·go_wp2_with fail
   go_ret3
   exact BehRes.no (fun hA => absurd (HB2.out.2 hA.eb) (by decide)) ⟨rfl, HE.out.bel⟩
  ·go_upto_region 7 with fail
   go_quiet (fail)
   go_wp2_with fail
   go_ret3
   exact ⟨.inl ⟨⟨HP.out, zfb HL.out.g H0.out, fun h => by have h9 := H1.out; rw [(zd2 HL.out.r).1 h] at h9; exact absurd h9 (by decide), by have h9 := H2.out; simp at h9; have := HL.out.r; have := HL.out.b; omega, HB.out.1 (by first | rfl | trivial), HB2.out.1 (by first | rfl | trivial)⟩, rfl⟩, by first | exact HE.out.bel | exact (HE.out.drewN _).bel⟩
theorem zgy (w : World) (n : Nat) (hn : n ≤ 400000000000) (h1n : 1 ≤ n) (l : LaV) (N : Int) (h : LaD n l w) (hs : LaS l) (hT : Tz w) (nr nb nk ng : Nat) (HL : Hid (Lens l nr nb nk ng)) : Calls Tryz.prog 89 #[lA l nr nb nk ng, .int .i64 N] w fun e w' => BehRes (AffP w l N) nr (veS l.rows) e ∧ Below w.heap.size w w' := by
 have er := HL.out.r
 have eb := HL.out.b
 have eg := HL.out.g
 by_cases hp : zap l
 ·by_cases h0 : 0 < ng
  ·exact (zjC w n hn h1n l N h hs hT nr nb nk ng HL hp h0).mono fun e w' he => BehRes.no (fun hA => by rw [hA.g] at eg; simp at eg; omega) he
  ·by_cases h1 : nr = 0
   ·exact (ziy w n hn h1n l N h hs hT nr nb nk ng HL hp h0 (by simp [h1])).mono fun e w' he => BehRes.no (fun hA => hA.r ((zd2 er).2 h1)) he
   ·by_cases h2 : nr = nb
    ·exact zhR w n hn h1n l N h hs hT nr nb nk ng HL hp h0 (by simp [h1]) (by simp [h2])
    ·exact (zjm w n hn h1n l N h hs hT nr nb nk ng HL hp h0 (by simp [h1]) (by simp; omega)).mono fun e w' he => BehRes.no (fun hA => h2 (by rw [er, eb]; exact hA.b)) he
 ·exact (zjD w n hn h1n l N h hs hT nr nb nk ng HL hp).mono fun e w' he => BehRes.no (fun hA => hp hA.p) he
set_option maxRecDepth 100000 in
theorem zmr (w : World) (n : Nat) (_hn : n ≤ 400000000000) (_h1n : 1 ≤ n) (l : LaV) (N : Int) (h : LaD n l w) (hs : LaS l) (hT : Tz w) (nr nb nk ng : Nat) (HL : Hid (Lens l nr nb nk ng)) (hp : ¬ zap l) : Calls Tryz.prog 92 #[lA l nr nb nk ng, .int .i64 N] w fun e w' => e = .returned (.tuple #[.int .i64 0, .int .i64 0, .bool false]) ∧ Below w.heap.size w w' := by
 have HP := zmZ hp
 clear hp
 have Hs := zmZ hs
 have Hl := zmZ h
 have HE := zmZ (zdG l nr nb nk ng N (((LaD.old l w h)).and ((hT.old).and ((LaD.iffR h)))))
 have c := Env.c2 HE.out
 have dd := Env.d2 HE.out
 clear h hs hT
 unfold lA
 go_enter Tryz.func92, Tryz.ntmps92
 go_wp2_with fail
 refine (zan _ l nr nb nk ng HL).mono ?_
 rintro e w1 ⟨⟨B, rfl, hB⟩, hb⟩
 replace HE := zmZ (Env.call HE.out hb)
 replace c := Env.c2 HE.out
 clear hb
 obtain rfl : B = false := by
  cases B
  ·rfl
  ·exact absurd (hB.1 rfl) HP.out
 clear hB
 go_wp2_with fail
 go_ret3
 exact ⟨rfl, HE.out.bel⟩
set_option maxRecDepth 100000 in
theorem zlr (w : World) (n : Nat) (_hn : n ≤ 400000000000) (_h1n : 1 ≤ n) (l : LaV) (N : Int) (h : LaD n l w) (hs : LaS l) (hT : Tz w) (nr nb nk ng : Nat) (HL : Hid (Lens l nr nb nk ng)) (hp : zap l)  (h0 : (0 < nr)) : Calls Tryz.prog 92 #[lA l nr nb nk ng, .int .i64 N] w fun e w' => e = .returned (.tuple #[.int .i64 0, .int .i64 0, .bool false]) ∧ Below w.heap.size w w' := by
 have HP := zmZ hp
 clear hp
 have H0 := zmZ h0
 clear h0
 have Hs := zmZ hs
 have Hl := zmZ h
 have HE := zmZ (zdG l nr nb nk ng N (((LaD.old l w h)).and ((hT.old).and ((LaD.iffR h)))))
 have c := Env.c2 HE.out
 have dd := Env.d2 HE.out
 clear h hs hT
 unfold lA
 go_enter Tryz.func92, Tryz.ntmps92
 go_wp2_with fail
 refine (zan _ l nr nb nk ng HL).mono ?_
 rintro e w1 ⟨⟨B, rfl, hB⟩, hb⟩
 replace HE := zmZ (Env.call HE.out hb)
 replace c := Env.c2 HE.out
 clear hb
 obtain rfl : B = true := by
  cases B
  ·exact absurd (hB.2 HP.out) (by decide)
  ·rfl
 clear hB
 have h0 := H0.out
 go_wp2_with fail
 go_ret3
 exact ⟨rfl, HE.out.bel⟩
set_option maxRecDepth 100000 in
theorem zlV (w : World) (n : Nat) (_hn : n ≤ 400000000000) (_h1n : 1 ≤ n) (l : LaV) (N : Int) (h : LaD n l w) (hs : LaS l) (hT : Tz w) (nr nb nk ng : Nat) (HL : Hid (Lens l nr nb nk ng)) (hp : zap l) (h0 : ¬ 0 < nr) (h1 : (0 < nb)) : Calls Tryz.prog 92 #[lA l nr nb nk ng, .int .i64 N] w fun e w' => e = .returned (.tuple #[.int .i64 0, .int .i64 0, .bool false]) ∧ Below w.heap.size w w' := by
 have HP := zmZ hp
 clear hp
 have H0 := zmZ h0
 have H1 := zmZ h1
 clear h0 h1
 have Hs := zmZ hs
 have Hl := zmZ h
 have HE := zmZ (zdG l nr nb nk ng N (((LaD.old l w h)).and ((hT.old).and ((LaD.iffR h)))))
 have c := Env.c2 HE.out
 have dd := Env.d2 HE.out
 clear h hs hT
 unfold lA
 go_enter Tryz.func92, Tryz.ntmps92
 go_wp2_with fail
 refine (zan _ l nr nb nk ng HL).mono ?_
 rintro e w1 ⟨⟨B, rfl, hB⟩, hb⟩
 replace HE := zmZ (Env.call HE.out hb)
 replace c := Env.c2 HE.out
 clear hb
 obtain rfl : B = true := by
  cases B
  ·exact absurd (hB.2 HP.out) (by decide)
  ·rfl
 clear hB
 have h0 := H0.out
 have h1 := H1.out
 go_wp2_with fail
 go_ret3
 exact ⟨rfl, HE.out.bel⟩
set_option maxRecDepth 100000 in
theorem zlJ (w : World) (n : Nat) (_hn : n ≤ 400000000000) (_h1n : 1 ≤ n) (l : LaV) (N : Int) (h : LaD n l w) (hs : LaS l) (hT : Tz w) (nr nb nk ng : Nat) (HL : Hid (Lens l nr nb nk ng)) (hp : zap l) (h0 : ¬ 0 < nr) (h1 : ¬ 0 < nb) (h2 : (((ng : Int) == 0) = true)) : Calls Tryz.prog 92 #[lA l nr nb nk ng, .int .i64 N] w fun e w' => e = .returned (.tuple #[.int .i64 0, .int .i64 0, .bool false]) ∧ Below w.heap.size w w' := by
 have HP := zmZ hp
 clear hp
 have H0 := zmZ h0
 have H1 := zmZ h1
 have H2 := zmZ h2
 clear h0 h1 h2
 have Hs := zmZ hs
 have Hl := zmZ h
 have HE := zmZ (zdG l nr nb nk ng N (((LaD.old l w h)).and ((hT.old).and ((LaD.iffR h)))))
 have c := Env.c2 HE.out
 have dd := Env.d2 HE.out
 clear h hs hT
 unfold lA
 go_enter Tryz.func92, Tryz.ntmps92
 go_wp2_with fail
 refine (zan _ l nr nb nk ng HL).mono ?_
 rintro e w1 ⟨⟨B, rfl, hB⟩, hb⟩
 replace HE := zmZ (Env.call HE.out hb)
 replace c := Env.c2 HE.out
 clear hb
 obtain rfl : B = true := by
  cases B
  ·exact absurd (hB.2 HP.out) (by decide)
  ·rfl
 clear hB
 have h0 := H0.out
 have h1 := H1.out
 have h2 := H2.out
 go_wp2_with fail
 go_ret3
 exact ⟨rfl, HE.out.bel⟩
set_option maxRecDepth 100000 in
theorem zkW (w : World) (n : Nat) (_hn : n ≤ 400000000000) (_h1n : 1 ≤ n) (l : LaV) (N : Int) (h : LaD n l w) (hs : LaS l) (hT : Tz w) (nr nb nk ng : Nat) (HL : Hid (Lens l nr nb nk ng)) (hp : zap l) (h0 : ¬ 0 < nr) (h1 : ¬ 0 < nb) (h2 : (((ng : Int) == 0) = false)) : Calls Tryz.prog 92 #[lA l nr nb nk ng, .int .i64 N] w fun e w' => BehRes (PoolP l N) ng (grS l.grs) e ∧ Below w.heap.size w w' := by
 have HP := zmZ hp
 have H0 := zmZ h0
 have H1 := zmZ h1
 have H2 := zmZ h2
 clear hp h0 h1 h2
 have Hs := zmZ hs
 have Hl := zmZ h
 have HE := zmZ (zdG l nr nb nk ng N (((LaD.old l w h)).and ((hT.old).and ((LaD.iffR h)))))
 have c := Env.c2 HE.out
 have dd := Env.d2 HE.out
 clear h hs hT
 unfold lA
 go_enter Tryz.func92, Tryz.ntmps92
 go_wp2_with fail
 refine (zan _ l nr nb nk ng HL).mono ?_
 rintro e w1 ⟨⟨B, rfl, hB⟩, hb⟩
 replace HE := zmZ (Env.call HE.out hb)
 replace c := Env.c2 HE.out
 clear hb
 obtain rfl : B = true := by
  cases B
  ·exact absurd (hB.2 HP.out) (by decide)
  ·rfl
 clear hB
 have h0 := H0.out
 have h1 := H1.out
 have h2 := H2.out
 go_upto_region 4 with fail
 obtain ⟨W2, gt, hW2, hgt, HE⟩ := Env.al HE.out 3 #[.int .i64 0]
 rw [hW2, hgt]
 clear hW2 hgt
 replace c := Env.c3 HE.out
 go_wp2_with fail
 refine (zhX _ gt (w.heap.size + 1) 0 N HE.out.box rfl l.Ag l.cg l.grs Hs.out.grs Hs.out.gr ((HE.out.nbr (b := ⟨w.heap.size + 1, 3, #[.int .i64 N]⟩) (by simp)).and HE.out.apart |>.imp fun V h => ⟨h.1, h.2.1.1.grs⟩) ng HL.out.g).mono ?_
 rintro e w3 ⟨B, s, rfl, hB, hsum, hu⟩
 replace HE := zmZ (Env.upd HE.out hu)
 replace c := Env.c3 HE.out
 have HB := zmZ hB
 have HS := zmZ hsum
 clear hu hB hsum
 cases B
 ·go_wp2_with fail
  go_ret3
  exact BehRes.no (fun hA => absurd (HB.out.2 hA.eg) (by decide)) ⟨rfl, HE.out.bel⟩
 ·obtain rfl : s = grS l.grs := HS.out (HB.out.1 rfl)
  go_upto_region 7 with fail
  go_quiet (fail)
  go_wp2_with fail
  go_ret3
  exact ⟨.inl ⟨⟨HP.out, ⟨zfb HL.out.r H0.out, zfb HL.out.b H1.out⟩, fun h => by have h9 := H2.out; rw [(zd2 HL.out.g).1 h] at h9; exact absurd h9 (by decide), HB.out.1 (by first | rfl | trivial)⟩, rfl⟩, by first | exact HE.out.bel | exact (HE.out.drewN _).bel⟩
theorem ziZ (w : World) (n : Nat) (hn : n ≤ 400000000000) (h1n : 1 ≤ n) (l : LaV) (N : Int) (h : LaD n l w) (hs : LaS l) (hT : Tz w) (nr nb nk ng : Nat) (HL : Hid (Lens l nr nb nk ng)) : Calls Tryz.prog 92 #[lA l nr nb nk ng, .int .i64 N] w fun e w' => BehRes (PoolP l N) ng (grS l.grs) e ∧ Below w.heap.size w w' := by
 have er := HL.out.r
 have eb := HL.out.b
 have eg := HL.out.g
 by_cases hp : zap l
 ·by_cases h0 : 0 < nr
  ·exact (zlr w n hn h1n l N h hs hT nr nb nk ng HL hp h0).mono fun e w' he => BehRes.no (fun hA => by rw [hA.r.1] at er; simp at er; omega) he
  ·by_cases h1 : 0 < nb
   ·exact (zlV w n hn h1n l N h hs hT nr nb nk ng HL hp h0 h1).mono fun e w' he => BehRes.no (fun hA => by rw [hA.r.2] at eb; simp at eb; omega) he
   ·by_cases h2 : ng = 0
    ·exact (zlJ w n hn h1n l N h hs hT nr nb nk ng HL hp h0 h1 (by simp [h2])).mono fun e w' he => BehRes.no (fun hA => hA.g ((zd2 eg).2 h2)) he
    ·exact zkW w n hn h1n l N h hs hT nr nb nk ng HL hp h0 h1 (by simp [h2])
 ·exact (zmr w n hn h1n l N h hs hT nr nb nk ng HL hp).mono fun e w' he => BehRes.no (fun hA => hp hA.p) he

theorem BehRes.iff {P Q : Prop} {u t : Int} {e : Ending} (hPQ : P ↔ Q) (h : BehRes P u t e) : BehRes Q u t e := by
 rcases h with ⟨h1, h2⟩ | ⟨h1, h2⟩
 ·exact .inl ⟨hPQ.1 h1, h2⟩
 ·exact .inr ⟨fun h => h1 (hPQ.2 h), h2⟩
theorem lenz {α : Type} {l : List α} {k : Nat} (h : k = l.length) (e : l = []) : (((k : Int) == 0) = true) := by rw [(zd2 h).1 e]; rfl
theorem lenn {α : Type} {l : List α} {k : Nat} (h : k = l.length) (e : l ≠ []) : (((k : Int) == 0) = false) := by
 have : k ≠ 0 := fun h0 => e ((zd2 h).2 h0)
 simp [this]
theorem zbT {a b m : Int} (ha : 0 ≤ a ∧ a ≤ m) (hb : 0 ≤ b ∧ b ≤ 1024) : 0 ≤ a * b ∧ a * b ≤ m * 1024 := by
 have h1 := Int.mul_nonneg ha.1 hb.1
 have h2 : a * b ≤ m * b := Int.mul_le_mul_of_nonneg_right ha.2 hb.1
 have h3 : m * b ≤ m * 1024 := Int.mul_le_mul_of_nonneg_left hb.2 (by omega)
 omega
theorem zad {z : Int} (h : 0 ≤ z ∧ z ≤ 4611686018427387904) : IntKind.i64.wrap z = z := by rw [IntKind.wrap_i64]; omega
theorem zaH {z : Int} (h : -4611686018427387904 ≤ z ∧ z ≤ 4611686018427387904) : IntKind.i64.wrap z = z := by rw [IntKind.wrap_i64]; omega
def sidesP (l : LaV) : Prop := side l.ch ∧ side l.high ∧ side l.wide ∧ side l.out ∧ side l.kh ∧ side l.kw ∧ side l.st
theorem sidesP.nn {l : LaV} (h : sidesP l) : (0 ≤ l.ch ∧ l.ch ≤ 256) ∧ (0 ≤ l.high ∧ l.high ≤ 256) ∧ (0 ≤ l.wide ∧ l.wide ≤ 256) ∧ (0 ≤ l.out ∧ l.out ≤ 256) ∧ (0 ≤ l.kh ∧ l.kh ≤ 256) ∧ (0 ≤ l.kw ∧ l.kw ≤ 256) ∧ (1 ≤ l.st ∧ l.st ≤ 256) := by
 unfold sidesP side at h; omega
theorem sidesP.w1 {l : LaV} (h : sidesP l) : (0 ≤ l.ch * l.high ∧ l.ch * l.high ≤ 262144) ∧ (0 ≤ l.ch * l.high * l.wide ∧ l.ch * l.high * l.wide ≤ 268435456) ∧ (0 ≤ l.ch * l.kh ∧ l.ch * l.kh ≤ 262144) ∧ (0 ≤ l.ch * l.kh * l.kw ∧ l.ch * l.kh * l.kw ≤ 268435456) ∧ (0 ≤ l.out * (l.ch * l.kh * l.kw) ∧ l.out * (l.ch * l.kh * l.kw) ≤ 274877906944) := by
 have hn := h.nn
 have a1 := zbT (m := 256) hn.1 (b := l.high) (by omega)
 have a2 := zbT (m := 256 * 1024) a1 (b := l.wide) (by omega)
 have a3 := zbT (m := 256) hn.1 (b := l.kh) (by omega)
 have a4 := zbT (m := 256 * 1024) a3 (b := l.kw) (by omega)
 have a5 := zbT (m := 256 * 1024 * 1024) a4 (b := l.out) (by omega)
 rw [Int.mul_comm (l.ch * l.kh * l.kw) l.out] at a5
 omega
theorem zjY {a b : Int} (ha : 0 ≤ a) : a.tdiv b = a / b := Int.tdiv_eq_ediv_of_nonneg ha
theorem zd7 {h p k s : Int} (hh : 0 ≤ h ∧ h ≤ 256) (hp : 0 ≤ p ∧ p < k) (hk : k ≤ 256) (hs : 1 ≤ s) (h0 : 0 ≤ h + 2 * p - k) : 0 ≤ (h + 2 * p - k) / s ∧ (h + 2 * p - k) / s + 1 ≤ 1024 := by
 have h1 : 0 ≤ (h + 2 * p - k) / s := Int.ediv_nonneg h0 (by omega)
 have h2 : (h + 2 * p - k) / s ≤ h + 2 * p - k := Int.ediv_le_self _ h0
 omega
theorem zhN {o a b e : Int} (ho : 0 ≤ o ∧ o ≤ 256) (ha : 0 ≤ a ∧ a ≤ 1024) (hb : 0 ≤ b ∧ b ≤ 1024) (he : 0 ≤ e ∧ e ≤ 268435456) : (0 ≤ o * a ∧ o * a ≤ 262144) ∧ (0 ≤ o * a * b ∧ o * a * b ≤ 268435456) ∧ (0 ≤ o * a * b * e ∧ o * a * b * e ≤ 72057594037927936) := by
 have a1 := zbT (m := 256) ho ha
 have a2 := zbT (m := 256 * 1024) a1 hb
 refine ⟨by omega, by omega, Int.mul_nonneg a2.1 he.1, ?_⟩
 have h1 : o * a * b * e ≤ 268435456 * e := Int.mul_le_mul_of_nonneg_right (by omega) he.1
 omega
set_option maxRecDepth 100000 in
theorem zj3 (w : World) (n : Nat) (hn : n ≤ 400000000000) (h1n : 1 ≤ n) (l : LaV) (N : Int) (h : LaD n l w) (hs : LaS l) (hT : Tz w) (nr nb nk ng : Nat) (HL : Hid (Lens l nr nb nk ng)) : Calls Tryz.prog 90 #[lA l nr nb nk ng, .int .i64 N] w fun e w' => BehRes (ConvP w l N) (l.out * zbA l * zbx l) (l.out * zbA l * zbx l * (l.ch * l.kh * l.kw)) e ∧ Below w.heap.size w w' := by
 unfold zbA zbx
 have Hs := zmZ hs
 have HE := zmZ (layL l nr nb nk ng (((LaD.old l w h)).and ((hT.old).and ((LaD.iffR h)))))
 have c := Env.c1 HE.out
 clear h hs hT
 unfold lA
 go_enter Tryz.func90, Tryz.ntmps90
 go_upto_region 2 with fail
 obtain ⟨W2, g4, hW2, hg4, HE⟩ := Env.al HE.out 3 #[.int .i64 l.ch, .int .i64 l.high, .int .i64 l.wide, .int .i64 l.out, .int .i64 l.kh, .int .i64 l.kw, .int .i64 l.st]
 replace hg4 : w.heap.size + 1 = g4 := by rw [← hg4]; simp
 rw [hW2, hg4]
 clear hW2 hg4
 replace c := Env.c2 HE.out
 have Hi := zmZ (zfK (l := [l.ch, l.high, l.wide, l.out, l.kh, l.kw, l.st]) (HE.out.bx ⟨g4, 3, #[.int .i64 l.ch, .int .i64 l.high, .int .i64 l.wide, .int .i64 l.out, .int .i64 l.kh, .int .i64 l.kw, .int .i64 l.st]⟩ (List.mem_cons_self ..)))
 go_wp2_with fail
 refine (zhx W2 (some ⟨g4, 0, none⟩) 7 [l.ch, l.high, l.wide, l.out, l.kh, l.kw, l.st] Hi.out (by simp)).mono ?_
 rintro e w3 ⟨⟨B, rfl, hB⟩, hb⟩
 have HB := zmZ (show B = true ↔ sidesP l by
  rw [hB]
  simp only [List.mem_cons, List.not_mem_nil, or_false, forall_eq_or_imp, forall_eq]
  exact Iff.rfl)
 replace HE := zmZ (Env.call HE.out hb)
 replace c := Env.c2 HE.out
 clear hb hB Hi
 cases B
 ·go_wp2_with fail
  go_ret3
  exact BehRes.no (fun hA => absurd (HB.out.2 hA.s) (by decide)) ⟨rfl, HE.out.bel⟩
 ·have HS := zmZ (HB.out.1 rfl)
  have hn := HS.out.nn
  have hw := HS.out.w1
  have w1 := zad (z := l.ch * l.high) (by omega)
  have w2 := zad (z := l.ch * l.high * l.wide) (by omega)
  have Hn := zmZ hn
  have Hw := zmZ hw
  clear hn hw HB
  go_upto_region 4 with fail
  by_cases q0 : l.pad < 0
  ·have Hq0 := zmZ q0
   go_wp2_with fail
   go_ret3
   exact BehRes.no (fun hA => by have := hA.pad; have := Hq0.out; omega) ⟨rfl, by first | exact HE.out.bel | exact (HE.out.drewN _).bel⟩
  ·have Hq0 := zmZ q0
   by_cases q1 : l.pad ≥ l.kh
   ·have Hq1 := zmZ q1
    go_wp2_with fail
    go_ret3
    exact BehRes.no (fun hA => by have := hA.pad; have := Hq1.out; omega) ⟨rfl, by first | exact HE.out.bel | exact (HE.out.drewN _).bel⟩
   ·have Hq1 := zmZ q1
    by_cases q2 : l.pad ≥ l.kw
    ·have Hq2 := zmZ q2
     go_wp2_with fail
     go_ret3
     exact BehRes.no (fun hA => by have := hA.pad; have := Hq2.out; omega) ⟨rfl, by first | exact HE.out.bel | exact (HE.out.drewN _).bel⟩
    ·have Hq2 := zmZ q2
     by_cases q3 : ¬ l.ch * l.high * l.wide = N
     ·have Hq3 := zmZ q3
      have q3b : ((l.ch * l.high * l.wide) != N) = true := by simp [q3]
      go_wp2_with fail
      go_ret3
      exact BehRes.no (fun hA => Hq3.out hA.n) ⟨rfl, by first | exact HE.out.bel | exact (HE.out.drewN _).bel⟩
     ·have Hq3 := zmZ q3
      have q3' : l.ch * l.high * l.wide = N := by simpa using q3
      have q3b : ((l.ch * l.high * l.wide) != N) = false := by simp [q3']
      have Hq3' := zmZ q3'
      clear q3 q3'
      have hn := Hn.out
      have hw := Hw.out
      have v1 := zad (z := 2 * l.pad) (by omega)
      have v2 := zaH (z := l.high + 2 * l.pad) (by omega)
      have v3 := zaH (z := l.high + 2 * l.pad - l.kh) (by omega)
      have v4 := zaH (z := l.wide + 2 * l.pad) (by omega)
      have v5 := zaH (z := l.wide + 2 * l.pad - l.kw) (by omega)
      have v6 := zad (z := l.ch * l.kh) (by omega)
      have v7 := zad (z := l.ch * l.kh * l.kw) (by omega)
      have v8 := zad (z := l.out * (l.ch * l.kh * l.kw)) (by omega)
      clear hn hw
      go_upto_region 6 with fail
      clear q0 q1 q2 q3b w1 w2
      go_quiet (fail)
      replace HE := zmZ (HE.out.drewN nq)
      replace c := Env.c2 HE.out
      go_upto_region 8 with fail
      by_cases r0 : l.high + 2 * l.pad - l.kh < 0
      ·have Hr0 := zmZ r0
       go_wp2_with fail
       go_ret3
       exact BehRes.no (fun hA => by have := hA.h; have := Hr0.out; omega) ⟨rfl, by first | exact HE.out.bel | exact (HE.out.drewN _).bel⟩
      ·have Hr0 := zmZ r0
       by_cases r1 : l.wide + 2 * l.pad - l.kw < 0
       ·have Hr1 := zmZ r1
        go_wp2_with fail
        go_ret3
        exact BehRes.no (fun hA => by have := hA.h; have := Hr1.out; omega) ⟨rfl, by first | exact HE.out.bel | exact (HE.out.drewN _).bel⟩
       ·have Hr1 := zmZ r1
        by_cases r2 : ¬ (nk : Int) = l.out * (l.ch * l.kh * l.kw)
        ·have Hr2 := zmZ r2
         have r2b : ((nk : Int) != l.out * (l.ch * l.kh * l.kw)) = true := by simp [r2]
         go_wp2_with fail
         go_ret3
         exact BehRes.no (fun hA => Hr2.out (by rw [HL.out.k]; exact hA.k)) ⟨rfl, by first | exact HE.out.bel | exact (HE.out.drewN _).bel⟩
        ·have Hr2 := zmZ r2
         have r2' : (nk : Int) = l.out * (l.ch * l.kh * l.kw) := by simpa using r2
         have r2b : ((nk : Int) != l.out * (l.ch * l.kh * l.kw)) = false := by simp [r2']
         have Hr2' := zmZ r2'
         clear r2 r2'
         by_cases r3 : ¬ (nb : Int) = l.out
         ·have Hr3 := zmZ r3
          have r3b : ((nb : Int) != l.out) = true := by simp [r3]
          go_wp2_with fail
          go_ret3
          exact BehRes.no (fun hA => Hr3.out (by rw [HL.out.b]; exact hA.b)) ⟨rfl, by first | exact HE.out.bel | exact (HE.out.drewN _).bel⟩
         ·have Hr3 := zmZ r3
          have r3' : (nb : Int) = l.out := by simpa using r3
          have r3b : ((nb : Int) != l.out) = false := by simp [r3']
          have Hr3' := zmZ r3'
          clear r3 r3'
          go_upto_region 11 with fail
          by_cases s0 : 0 < nr
          ·have Hs0 := zmZ s0
           go_wp2_with fail
           go_ret3
           exact BehRes.no (fun hA => by have h8 := Hs0.out; have h9 := HL.out.r; rw [hA.e.1] at h9; simp at h9; omega) ⟨rfl, by first | exact HE.out.bel | exact (HE.out.drewN _).bel⟩
          ·have Hs0 := zmZ s0
           by_cases s1 : 0 < ng
           ·have Hs1 := zmZ s1
            go_wp2_with fail
            go_ret3
            exact BehRes.no (fun hA => by have h8 := Hs1.out; have h9 := HL.out.g; rw [hA.e.2] at h9; simp at h9; omega) ⟨rfl, by first | exact HE.out.bel | exact (HE.out.drewN _).bel⟩
           ·have Hs1 := zmZ s1
            go_wp2_with fail
            refine (zf6 _ n hn h1n l.Ak l.ck l.kern HE.out.o.1.kern (by have := Hs.out.kern; omega) HE.out.o.2.1 nk HL.out.k).mono ?_
            rintro e w4 ⟨⟨B, rfl, hB⟩, hb⟩
            have HK := zmZ (hB.trans ⟨fun h p hp => (HE.out.o.2.2.kern p hp).1 (h p hp), fun h p hp => (HE.out.o.2.2.kern p hp).2 (h p hp)⟩)
            replace HE := zmZ (Env.call HE.out hb)
            replace c := Env.c2 HE.out
            clear hb hB
            cases B
            ·go_wp2_with fail
             go_ret3
             exact BehRes.no (fun hA => absurd (HK.out.2 hA.ek) (by decide)) ⟨rfl, HE.out.bel⟩
            ·go_wp2_with fail
             refine (zf6 _ n hn h1n l.Ab l.cb l.bias HE.out.o.1.bias (by have := Hs.out.bias; omega) HE.out.o.2.1 nb HL.out.b).mono ?_
             rintro e w4 ⟨⟨B, rfl, hB⟩, hb⟩
             have HB := zmZ (hB.trans ⟨fun h p hp => (HE.out.o.2.2.bias p hp).1 (h p hp), fun h p hp => (HE.out.o.2.2.bias p hp).2 (h p hp)⟩)
             replace HE := zmZ (Env.call HE.out hb)
             replace c := Env.c2 HE.out
             clear hb hB
             cases B
             ·go_wp2_with fail
              go_ret3
              exact BehRes.no (fun hA => absurd (HB.out.2 hA.eb) (by decide)) ⟨rfl, HE.out.bel⟩
             ·have hn := Hn.out
              have hw := Hw.out
              have b1 := zd7 (h := l.high) (p := l.pad) (k := l.kh) (s := l.st) (by omega) (by have := Hq0.out; have := Hq1.out; omega) (by omega) (by omega) (by have := Hr0.out; omega)
              have b2 := zd7 (h := l.wide) (p := l.pad) (k := l.kw) (s := l.st) (by omega) (by have := Hq0.out; have := Hq2.out; omega) (by omega) (by omega) (by have := Hr1.out; omega)
              have b3 := zhN (o := l.out) (a := (l.high + 2 * l.pad - l.kh) / l.st + 1) (b := (l.wide + 2 * l.pad - l.kw) / l.st + 1) (e := l.ch * l.kh * l.kw) (by omega) (by omega) (by omega) (by omega)
              have hst : ¬ l.st = 0 := by omega
              have hst' : (l.st == 0) = false := by simp [hst]
              have d1 := zjY (a := l.high + 2 * l.pad - l.kh) (b := l.st) (by have := Hr0.out; omega)
              have d2 := zjY (a := l.wide + 2 * l.pad - l.kw) (b := l.st) (by have := Hr1.out; omega)
              have Hf := zmZ (show ConvP w l N from ⟨HS.out, by have := Hq0.out; have := Hq1.out; have := Hq2.out; omega, Hq3'.out, by have := Hr0.out; have := Hr1.out; omega, by rw [← HL.out.k]; exact Hr2'.out, by rw [← HL.out.b]; exact Hr3'.out, ⟨zfb HL.out.r Hs0.out, zfb HL.out.g Hs1.out⟩, HK.out.1 (by first | rfl | trivial), HB.out.1 (by first | rfl | trivial)⟩)
              have e1 := zad (z := (l.high + 2 * l.pad - l.kh) / l.st) (by omega)
              have e2 := zad (z := (l.high + 2 * l.pad - l.kh) / l.st + 1) (by omega)
              have e3 := zad (z := (l.wide + 2 * l.pad - l.kw) / l.st) (by omega)
              have e4 := zad (z := (l.wide + 2 * l.pad - l.kw) / l.st + 1) (by omega)
              have e5 := zad (z := l.out * ((l.high + 2 * l.pad - l.kh) / l.st + 1)) (by omega)
              have e6 := zad (z := l.out * ((l.high + 2 * l.pad - l.kh) / l.st + 1) * ((l.wide + 2 * l.pad - l.kw) / l.st + 1)) (by omega)
              have e7 := zad (z := l.out * ((l.high + 2 * l.pad - l.kh) / l.st + 1) * ((l.wide + 2 * l.pad - l.kw) / l.st + 1) * (l.ch * l.kh * l.kw)) (by omega)
              clear hn hw b1 b2 b3
              go_upto_region 13 with fail
              go_quiet (fail)
              go_wp2_with fail
              go_ret3
              exact ⟨.inl ⟨Hf.out, rfl⟩, by first | exact HE.out.bel | exact (HE.out.drewN _).bel⟩
set_option maxRecDepth 100000 in
theorem ziA (w : World) (n : Nat) (hn : n ≤ 400000000000) (h1n : 1 ≤ n) (l : LaV) (N : Int) (h : LaD n l w) (hs : LaS l) (hT : Tz w) (nr nb nk ng : Nat) (HL : Hid (Lens l nr nb nk ng)) (hk : l.kind = 1) : Calls Tryz.prog 54 #[lA l nr nb nk ng, .int .i64 N] w fun e w' => BehRes (AffP w l N) nr (veS l.rows) e ∧ Below w.heap.size w w' := by
 have e0 : (l.kind == 1) = true := by simp [hk]
 clear hk
 have Hs := zmZ hs
 have HE := zmZ (layL l nr nb nk ng (((LaD.old l w h)).and ((hT.old).and ((LaD.iffR h)))))
 have c := Env.c1 HE.out
 clear h hs hT
 unfold lA
 go_enter Tryz.func54, Tryz.ntmps54
 go_wp2_with fail
 refine (zgy _ n hn h1n l N HE.out.o.1 Hs.out HE.out.o.2.1 nr nb nk ng HL).mono ?_
 rintro e w1 ⟨hr, hb⟩
 have HR := zmZ (show BehRes (AffP w l N) nr (veS l.rows) e from BehRes.iff ⟨fun h => ⟨h.p, h.g, h.r, h.b, fun v hv => (HE.out.o.2.2.rows v hv N).1 (h.er v hv), fun p hp => (HE.out.o.2.2.bias p hp).1 (h.eb p hp)⟩, fun h => ⟨h.p, h.g, h.r, h.b, fun v hv => (HE.out.o.2.2.rows v hv N).2 (h.er v hv), fun p hp => (HE.out.o.2.2.bias p hp).2 (h.eb p hp)⟩⟩ hr)
 replace HE := zmZ (Env.call HE.out hb)
 clear hr hb
 rcases HR.out with ⟨hP, rfl⟩ | ⟨hP, rfl⟩
 all_goals
  have HP := zmZ hP
  clear hP HR
  go_wp2_with fail
  go_ret3
 ·exact ⟨.inl ⟨HP.out, rfl⟩, HE.out.bel⟩
 ·exact ⟨.inr ⟨HP.out, rfl⟩, HE.out.bel⟩
set_option maxRecDepth 100000 in
theorem zjj (w : World) (n : Nat) (hn : n ≤ 400000000000) (h1n : 1 ≤ n) (l : LaV) (N : Int) (h : LaD n l w) (hs : LaS l) (hT : Tz w) (nr nb nk ng : Nat) (HL : Hid (Lens l nr nb nk ng)) (hk : l.kind = 2) : Calls Tryz.prog 54 #[lA l nr nb nk ng, .int .i64 N] w fun e w' => BehRes (ConvP w l N) (l.out * zbA l * zbx l) (l.out * zbA l * zbx l * (l.ch * l.kh * l.kw)) e ∧ Below w.heap.size w w' := by
 have e0 : (l.kind == 1) = false := by simp; omega
 have e1 : (l.kind == 2) = true := by simp [hk]
 clear hk
 have Hs := zmZ hs
 have HE := zmZ (layL l nr nb nk ng (((LaD.old l w h)).and ((hT.old).and ((LaD.iffR h)))))
 have c := Env.c1 HE.out
 clear h hs hT
 unfold lA
 go_enter Tryz.func54, Tryz.ntmps54
 go_wp2_with fail
 refine (zj3 _ n hn h1n l N HE.out.o.1 Hs.out HE.out.o.2.1 nr nb nk ng HL).mono ?_
 rintro e w1 ⟨hr, hb⟩
 have HR := zmZ (show BehRes (ConvP w l N) (l.out * zbA l * zbx l) (l.out * zbA l * zbx l * (l.ch * l.kh * l.kw)) e from BehRes.iff ⟨fun h => ⟨h.s, h.pad, h.n, h.h, h.k, h.b, h.e, fun p hp => (HE.out.o.2.2.kern p hp).1 (h.ek p hp), fun p hp => (HE.out.o.2.2.bias p hp).1 (h.eb p hp)⟩, fun h => ⟨h.s, h.pad, h.n, h.h, h.k, h.b, h.e, fun p hp => (HE.out.o.2.2.kern p hp).2 (h.ek p hp), fun p hp => (HE.out.o.2.2.bias p hp).2 (h.eb p hp)⟩⟩ hr)
 replace HE := zmZ (Env.call HE.out hb)
 clear hr hb
 rcases HR.out with ⟨hP, rfl⟩ | ⟨hP, rfl⟩
 all_goals
  have HP := zmZ hP
  clear hP HR
  go_wp2_with fail
  go_ret3
 ·exact ⟨.inl ⟨HP.out, rfl⟩, HE.out.bel⟩
 ·exact ⟨.inr ⟨HP.out, rfl⟩, HE.out.bel⟩
set_option maxRecDepth 100000 in
theorem zij (w : World) (n : Nat) (_hn : n ≤ 400000000000) (_h1n : 1 ≤ n) (l : LaV) (N : Int) (h : LaD n l w) (hs : LaS l) (hT : Tz w) (nr nb nk ng : Nat) (HL : Hid (Lens l nr nb nk ng)) (hk : l.kind = 3) (hp : ¬ zap l) : Calls Tryz.prog 54 #[lA l nr nb nk ng, .int .i64 N] w fun e w' => e = .returned (.tuple #[.int .i64 0, .int .i64 0, .bool false]) ∧ Below w.heap.size w w' := by
 have e0 : (l.kind == 1) = false := by simp; omega
 have e1 : (l.kind == 2) = false := by simp; omega
 have e2 : (l.kind == 3) = true := by simp [hk]
 clear hk
 have HP := zmZ hp
 clear hp
 have Hs := zmZ hs
 have HE := zmZ (layL l nr nb nk ng (((LaD.old l w h)).and ((hT.old).and ((LaD.iffR h)))))
 have c := Env.c1 HE.out
 clear h hs hT
 unfold lA
 go_enter Tryz.func54, Tryz.ntmps54
 go_wp2_with fail
 refine (zan _ l nr nb nk ng HL).mono ?_
 rintro e w1 ⟨⟨B, rfl, hB⟩, hb⟩
 replace HE := zmZ (Env.call HE.out hb)
 replace c := Env.c1 HE.out
 clear hb
 obtain rfl : B = false := by
  cases B
  ·rfl
  ·exact absurd (hB.1 rfl) HP.out
 clear hB
 go_wp2_with fail
 go_ret3
 exact ⟨rfl, HE.out.bel⟩
set_option maxRecDepth 100000 in
theorem zgN (w : World) (n : Nat) (_hn : n ≤ 400000000000) (_h1n : 1 ≤ n) (l : LaV) (N : Int) (h : LaD n l w) (hs : LaS l) (hT : Tz w) (nr nb nk ng : Nat) (HL : Hid (Lens l nr nb nk ng)) (hk : l.kind = 3) (hp : zap l)  (h0 : (((nr : Int) == 0) = false)) : Calls Tryz.prog 54 #[lA l nr nb nk ng, .int .i64 N] w fun e w' => e = .returned (.tuple #[.int .i64 0, .int .i64 0, .bool false]) ∧ Below w.heap.size w w' := by
 have e0 : (l.kind == 1) = false := by simp; omega
 have e1 : (l.kind == 2) = false := by simp; omega
 have e2 : (l.kind == 3) = true := by simp [hk]
 clear hk
 have HP := zmZ hp
 clear hp
 have Hs := zmZ hs
 have HE := zmZ (layL l nr nb nk ng (((LaD.old l w h)).and ((hT.old).and ((LaD.iffR h)))))
 have c := Env.c1 HE.out
 clear h hs hT
 unfold lA
 go_enter Tryz.func54, Tryz.ntmps54
 go_wp2_with fail
 refine (zan _ l nr nb nk ng HL).mono ?_
 rintro e w1 ⟨⟨B, rfl, hB⟩, hb⟩
 replace HE := zmZ (Env.call HE.out hb)
 replace c := Env.c1 HE.out
 clear hb
 obtain rfl : B = true := by
  cases B
  ·exact absurd (hB.2 HP.out) (by decide)
  ·rfl
 clear hB
 go_wp2_with fail
 go_ret3
 exact ⟨rfl, HE.out.bel⟩
set_option maxRecDepth 100000 in
theorem zi0 (w : World) (n : Nat) (_hn : n ≤ 400000000000) (_h1n : 1 ≤ n) (l : LaV) (N : Int) (h : LaD n l w) (hs : LaS l) (hT : Tz w) (nr nb nk ng : Nat) (HL : Hid (Lens l nr nb nk ng)) (hk : l.kind = 3) (hp : zap l) (h0 : (((nr : Int) == 0) = true)) (h1 : (((nb : Int) == 0) = false)) : Calls Tryz.prog 54 #[lA l nr nb nk ng, .int .i64 N] w fun e w' => e = .returned (.tuple #[.int .i64 0, .int .i64 0, .bool false]) ∧ Below w.heap.size w w' := by
 have e0 : (l.kind == 1) = false := by simp; omega
 have e1 : (l.kind == 2) = false := by simp; omega
 have e2 : (l.kind == 3) = true := by simp [hk]
 clear hk
 have HP := zmZ hp
 clear hp
 have Hs := zmZ hs
 have HE := zmZ (layL l nr nb nk ng (((LaD.old l w h)).and ((hT.old).and ((LaD.iffR h)))))
 have c := Env.c1 HE.out
 clear h hs hT
 unfold lA
 go_enter Tryz.func54, Tryz.ntmps54
 go_wp2_with fail
 refine (zan _ l nr nb nk ng HL).mono ?_
 rintro e w1 ⟨⟨B, rfl, hB⟩, hb⟩
 replace HE := zmZ (Env.call HE.out hb)
 replace c := Env.c1 HE.out
 clear hb
 obtain rfl : B = true := by
  cases B
  ·exact absurd (hB.2 HP.out) (by decide)
  ·rfl
 clear hB
 go_wp2_with fail
 go_ret3
 exact ⟨rfl, HE.out.bel⟩
set_option maxRecDepth 100000 in
theorem zi1 (w : World) (n : Nat) (_hn : n ≤ 400000000000) (_h1n : 1 ≤ n) (l : LaV) (N : Int) (h : LaD n l w) (hs : LaS l) (hT : Tz w) (nr nb nk ng : Nat) (HL : Hid (Lens l nr nb nk ng)) (hk : l.kind = 3) (hp : zap l) (h0 : (((nr : Int) == 0) = true)) (h1 : (((nb : Int) == 0) = true)) (h2 : (((ng : Int) == 0) = false)) : Calls Tryz.prog 54 #[lA l nr nb nk ng, .int .i64 N] w fun e w' => e = .returned (.tuple #[.int .i64 0, .int .i64 0, .bool false]) ∧ Below w.heap.size w w' := by
 have e0 : (l.kind == 1) = false := by simp; omega
 have e1 : (l.kind == 2) = false := by simp; omega
 have e2 : (l.kind == 3) = true := by simp [hk]
 clear hk
 have HP := zmZ hp
 clear hp
 have Hs := zmZ hs
 have HE := zmZ (layL l nr nb nk ng (((LaD.old l w h)).and ((hT.old).and ((LaD.iffR h)))))
 have c := Env.c1 HE.out
 clear h hs hT
 unfold lA
 go_enter Tryz.func54, Tryz.ntmps54
 go_wp2_with fail
 refine (zan _ l nr nb nk ng HL).mono ?_
 rintro e w1 ⟨⟨B, rfl, hB⟩, hb⟩
 replace HE := zmZ (Env.call HE.out hb)
 replace c := Env.c1 HE.out
 clear hb
 obtain rfl : B = true := by
  cases B
  ·exact absurd (hB.2 HP.out) (by decide)
  ·rfl
 clear hB
 go_wp2_with fail
 go_ret3
 exact ⟨rfl, HE.out.bel⟩
set_option maxRecDepth 100000 in
theorem zha (w : World) (n : Nat) (_hn : n ≤ 400000000000) (_h1n : 1 ≤ n) (l : LaV) (N : Int) (h : LaD n l w) (hs : LaS l) (hT : Tz w) (nr nb nk ng : Nat) (HL : Hid (Lens l nr nb nk ng)) (hk : l.kind = 3) (hp : zap l) (h0 : (((nr : Int) == 0) = true)) (h1 : (((nb : Int) == 0) = true)) (h2 : (((ng : Int) == 0) = true)) : Calls Tryz.prog 54 #[lA l nr nb nk ng, .int .i64 N] w fun e w' => e = .returned (.tuple #[.int .i64 N, .int .i64 0, .bool true]) ∧ Below w.heap.size w w' := by
 have e0 : (l.kind == 1) = false := by simp; omega
 have e1 : (l.kind == 2) = false := by simp; omega
 have e2 : (l.kind == 3) = true := by simp [hk]
 clear hk
 have HP := zmZ hp
 clear hp
 have Hs := zmZ hs
 have HE := zmZ (layL l nr nb nk ng (((LaD.old l w h)).and ((hT.old).and ((LaD.iffR h)))))
 have c := Env.c1 HE.out
 clear h hs hT
 unfold lA
 go_enter Tryz.func54, Tryz.ntmps54
 go_wp2_with fail
 refine (zan _ l nr nb nk ng HL).mono ?_
 rintro e w1 ⟨⟨B, rfl, hB⟩, hb⟩
 replace HE := zmZ (Env.call HE.out hb)
 replace c := Env.c1 HE.out
 clear hb
 obtain rfl : B = true := by
  cases B
  ·exact absurd (hB.2 HP.out) (by decide)
  ·rfl
 clear hB
 go_wp2_with fail
 go_ret3
 exact ⟨rfl, HE.out.bel⟩
set_option maxRecDepth 100000 in
theorem ziv (w : World) (n : Nat) (hn : n ≤ 400000000000) (h1n : 1 ≤ n) (l : LaV) (N : Int) (h : LaD n l w) (hs : LaS l) (hT : Tz w) (nr nb nk ng : Nat) (HL : Hid (Lens l nr nb nk ng)) (hk : l.kind = 4) : Calls Tryz.prog 54 #[lA l nr nb nk ng, .int .i64 N] w fun e w' => BehRes (PoolP l N) ng (grS l.grs) e ∧ Below w.heap.size w w' := by
 have e0 : (l.kind == 1) = false := by simp; omega
 have e1 : (l.kind == 2) = false := by simp; omega
 have e2 : (l.kind == 3) = false := by simp; omega
 have e3 : (l.kind == 4) = true := by simp [hk]
 clear hk
 have Hs := zmZ hs
 have HE := zmZ (layL l nr nb nk ng (((LaD.old l w h)).and ((hT.old).and ((LaD.iffR h)))))
 have c := Env.c1 HE.out
 clear h hs hT
 unfold lA
 go_enter Tryz.func54, Tryz.ntmps54
 go_wp2_with fail
 refine (ziZ _ n hn h1n l N HE.out.o.1 Hs.out HE.out.o.2.1 nr nb nk ng HL).mono ?_
 rintro e w1 ⟨hr, hb⟩
 have HR := zmZ (show BehRes (PoolP l N) ng (grS l.grs) e from BehRes.iff Iff.rfl hr)
 replace HE := zmZ (Env.call HE.out hb)
 clear hr hb
 rcases HR.out with ⟨hP, rfl⟩ | ⟨hP, rfl⟩
 all_goals
  have HP := zmZ hP
  clear hP HR
  go_wp2_with fail
  go_ret3
 ·exact ⟨.inl ⟨HP.out, rfl⟩, HE.out.bel⟩
 ·exact ⟨.inr ⟨HP.out, rfl⟩, HE.out.bel⟩
set_option maxRecDepth 100000 in
theorem ziD (w : World) (n : Nat) (_hn : n ≤ 400000000000) (_h1n : 1 ≤ n) (l : LaV) (N : Int) (h : LaD n l w) (hs : LaS l) (hT : Tz w) (nr nb nk ng : Nat) (_HL : Hid (Lens l nr nb nk ng)) (hk : ¬ (l.kind = 1 ∨ l.kind = 2 ∨ l.kind = 3 ∨ l.kind = 4)) : Calls Tryz.prog 54 #[lA l nr nb nk ng, .int .i64 N] w fun e w' => e = .returned (.tuple #[.int .i64 0, .int .i64 0, .bool false]) ∧ Below w.heap.size w w' := by
 have e0 : (l.kind == 1) = false := by simp; omega
 have e1 : (l.kind == 2) = false := by simp; omega
 have e2 : (l.kind == 3) = false := by simp; omega
 have e3 : (l.kind == 4) = false := by simp; omega
 clear hk
 have Hs := zmZ hs
 have HE := zmZ (layL l nr nb nk ng (((LaD.old l w h)).and ((hT.old).and ((LaD.iffR h)))))
 have c := Env.c1 HE.out
 clear h hs hT
 unfold lA
 go_enter Tryz.func54, Tryz.ntmps54
 go_wp2_with fail
 go_ret3
 exact ⟨rfl, HE.out.bel⟩
theorem zdX (w : World) (n : Nat) (hn : n ≤ 400000000000) (h1n : 1 ≤ n) (l : LaV) (N : Int) (h : LaD n l w) (hs : LaS l) (hT : Tz w) (nr nb nk ng : Nat) (HL : Hid (Lens l nr nb nk ng)) : Calls Tryz.prog 54 #[lA l nr nb nk ng, .int .i64 N] w fun e w' => BehRes (Fits w l N) (zae l N) (zay l) e ∧ Below w.heap.size w w' := by
 have no3 : ¬ (zap l ∧ l.rows = [] ∧ l.bias = [] ∧ l.grs = []) → l.kind = 3 → ¬ Fits w l N := fun h hk hf => by
  unfold Fits at hf
  rcases hf with ⟨h1, -⟩ | ⟨h1, -⟩ | ⟨-, h1⟩ | ⟨h1, -⟩
  ·omega
  ·omega
  ·exact h h1
  ·omega
 by_cases k1 : l.kind = 1
 ·have hiff : AffP w l N ↔ Fits w l N := ⟨fun h => .inl ⟨k1, h⟩, fun h => by rcases h with ⟨-, h⟩ | ⟨h, -⟩ | ⟨h, -⟩ | ⟨h, -⟩ <;> first | exact h | omega⟩
  refine (ziA w n hn h1n l N h hs hT nr nb nk ng HL k1).mono fun e w' he => ⟨?_, he.2⟩
  unfold zae zay
  rw [if_pos k1, if_pos k1, ← HL.out.r]
  exact he.1.iff hiff
 ·by_cases k2 : l.kind = 2
  ·have hiff : ConvP w l N ↔ Fits w l N := ⟨fun h => .inr (.inl ⟨k2, h⟩), fun h => by rcases h with ⟨h, -⟩ | ⟨-, h⟩ | ⟨h, -⟩ | ⟨h, -⟩ <;> first | exact h | omega⟩
   refine (zjj w n hn h1n l N h hs hT nr nb nk ng HL k2).mono fun e w' he => ⟨?_, he.2⟩
   unfold zae zay
   rw [if_neg k1, if_neg k1, if_pos k2, if_pos k2]
   exact he.1.iff hiff
  ·by_cases k3 : l.kind = 3
   ·unfold zae zay
    rw [if_neg k1, if_neg k1, if_neg k2, if_neg k2, if_pos k3, if_pos k3]
    by_cases hp : zap l
    ·by_cases h0 : l.rows = []
     ·by_cases h1 : l.bias = []
      ·by_cases h2 : l.grs = []
       ·exact (zha w n hn h1n l N h hs hT nr nb nk ng HL k3 hp (lenz HL.out.r h0) (lenz HL.out.b h1) (lenz HL.out.g h2)).mono fun e w' he => ⟨.inl ⟨.inr (.inr (.inl ⟨k3, hp, h0, h1, h2⟩)), he.1⟩, he.2⟩
       ·exact (zi1 w n hn h1n l N h hs hT nr nb nk ng HL k3 hp (lenz HL.out.r h0) (lenz HL.out.b h1) (lenn HL.out.g h2)).mono fun e w' he => BehRes.no (no3 (fun h => h2 h.2.2.2) k3) he
      ·exact (zi0 w n hn h1n l N h hs hT nr nb nk ng HL k3 hp (lenz HL.out.r h0) (lenn HL.out.b h1)).mono fun e w' he => BehRes.no (no3 (fun h => h1 h.2.2.1) k3) he
     ·exact (zgN w n hn h1n l N h hs hT nr nb nk ng HL k3 hp (lenn HL.out.r h0)).mono fun e w' he => BehRes.no (no3 (fun h => h0 h.2.1) k3) he
    ·exact (zij w n hn h1n l N h hs hT nr nb nk ng HL k3 hp).mono fun e w' he => BehRes.no (no3 (fun h => hp h.1) k3) he
   ·by_cases k4 : l.kind = 4
    ·have hiff : PoolP l N ↔ Fits w l N := ⟨fun h => .inr (.inr (.inr ⟨k4, h⟩)), fun h => by rcases h with ⟨h, -⟩ | ⟨h, -⟩ | ⟨h, -⟩ | ⟨-, h⟩ <;> first | exact h | omega⟩
     refine (ziv w n hn h1n l N h hs hT nr nb nk ng HL k4).mono fun e w' he => ⟨?_, he.2⟩
     unfold zae zay
     rw [if_neg k1, if_neg k1, if_neg k2, if_neg k2, if_neg k3, if_neg k3, ← HL.out.g]
     exact he.1.iff hiff
    ·refine (ziD w n hn h1n l N h hs hT nr nb nk ng HL (by omega)).mono fun e w' he => BehRes.no (fun h => ?_) he
     rcases h with ⟨h, -⟩ | ⟨h, -⟩ | ⟨h, -⟩ | ⟨h, -⟩ <;> omega

theorem BehRes.yes {P : Prop} {u t : Int} {e : Ending} (h : BehRes P u t e) (hP : P) : e = .returned (.tuple #[.int .i64 u, .int .i64 t, .bool true]) := by
 rcases h with ⟨-, h⟩ | ⟨h, -⟩
 ·exact h
 ·exact absurd hP h
theorem BehRes.not {P : Prop} {u t : Int} {e : Ending} (h : BehRes P u t e) (hP : ¬ P) : e = .returned (.tuple #[.int .i64 0, .int .i64 0, .bool false]) := by
 rcases h with ⟨h, -⟩ | ⟨-, h⟩
 ·exact absurd h hP
 ·exact h
structure NeS (f : NeV) : Prop where
 n : f.las.length ≤ 100000
 la : ∀ l ∈ f.las, LaS l
def zaU : List LaV → Int → List Int
 | [], n => [n]
 | l :: ls, n => n :: zaU ls (zae l n)
theorem zlX {w : World} {l : LaV} {N : Int} (h : Fits w l N) (hs : LaS l) (hN : 0 ≤ N ∧ N ≤ 256) : (0 ≤ zae l N ∧ zae l N ≤ 1099511627776) ∧ (0 ≤ zay l ∧ zay l ≤ 1152921504606846976) := by
 unfold zae zay
 rcases h with ⟨k, h⟩ | ⟨k, h⟩ | ⟨k, -⟩ | ⟨k, h⟩
 ·rw [if_pos k, if_pos k]
  have h1 : 0 ≤ veS l.rows ∧ veS l.rows ≤ 1000 * l.rows.length := zk0 hs.row
  have h2 := hs.rows
  unfold veS at h1
  omega
 ·rw [if_neg (by omega), if_pos k, if_neg (by omega), if_pos k]
  have hn := sidesP.nn (l := l) h.s
  have hw := sidesP.w1 (l := l) h.s
  have h1 := h.pad
  have h2 := h.h
  have b1 := zd7 (h := l.high) (p := l.pad) (k := l.kh) (s := l.st) (by omega) (by omega) (by omega) (by omega) (by omega)
  have b2 := zd7 (h := l.wide) (p := l.pad) (k := l.kw) (s := l.st) (by omega) (by omega) (by omega) (by omega) (by omega)
  have b3 := zhN (o := l.out) (a := (l.high + 2 * l.pad - l.kh) / l.st + 1) (b := (l.wide + 2 * l.pad - l.kw) / l.st + 1) (e := l.ch * l.kh * l.kw) (by omega) (by omega) (by omega) (by omega)
  unfold zbA zbx
  omega
 ·rw [if_neg (by omega), if_neg (by omega), if_pos k, if_neg (by omega), if_neg (by omega), if_pos k]
  omega
 ·rw [if_neg (by omega), if_neg (by omega), if_neg (by omega), if_neg (by omega), if_neg (by omega), if_neg (by omega)]
  have h1 : 0 ≤ grS l.grs ∧ grS l.grs ≤ 1000 * l.grs.length := zjS hs.gr
  have h2 := hs.grs
  unfold grS at h1
  omega
structure SzI (w : World) (f : NeV) (i : Nat) (N s : Int) (us : List Int) : Prop where
 us : ∃ pre, us = pre ++ [N] ∧ pre.length = i ∧ zaU f.las f.inputs = pre ++ zaU (f.las.drop i) N
 chk : ∀ e, ChkP w (f.las.drop i) N s e → ChkP w f.las f.inputs 0 e
 s : 0 ≤ s ∧ s ≤ 16384
 N : 0 ≤ N ∧ N ≤ 256
theorem SzI.len {w : World} {f : NeV} {i : Nat} {N s : Int} {us : List Int} (h : SzI w f i N s us) : us.length = i + 1 := by
 obtain ⟨pre, rfl, h1, -⟩ := h.us
 simp [h1]
theorem SzI.at_ {w : World} {f : NeV} {i : Nat} {N s : Int} {us : List Int} (h : SzI w f i N s us) : us[i]? = some N := by
 obtain ⟨pre, rfl, h1, -⟩ := h.us
 rw [List.getElem?_append_right (by omega)]
 simp [h1]
theorem SzI.start (w : World) (f : NeV) (h : zfc f) : SzI w f 0 f.inputs 0 [f.inputs] :=
 ⟨⟨[], rfl, rfl, by rw [List.drop_zero]; rfl⟩, fun e he => by rwa [List.drop_zero] at he, by omega, by have := h.1; have := h.2.1; omega⟩
theorem SzI.no {w : World} {f : NeV} {i : Nat} {N s : Int} {us : List Int} (h : SzI w f i N s us) (hi : i < f.las.length) (hF : ¬ Fits w f.las[i] N) : ChkP w f.las f.inputs 0 22 := by
 refine h.chk 22 ?_
 rw [List.drop_eq_getElem_cons hi]
 exact .inl ⟨hF, rfl⟩
theorem SzI.big {w : World} {f : NeV} {i : Nat} {N s : Int} {us : List Int} (h : SzI w f i N s us) (hi : i < f.las.length) (hF : Fits w f.las[i] N) (hb : 256 < zae f.las[i] N ∨ 16384 < s + zay f.las[i]) : ChkP w f.las f.inputs 0 25 := by
 refine h.chk 25 ?_
 rw [List.drop_eq_getElem_cons hi]
 exact .inr ⟨hF, .inl ⟨hb, rfl⟩⟩
theorem SzI.next {w : World} {f : NeV} {i : Nat} {N s : Int} {us : List Int} (h : SzI w f i N s us) (hi : i < f.las.length) (hF : Fits w f.las[i] N) (hs : LaS f.las[i]) (hb : ¬ (256 < zae f.las[i] N ∨ 16384 < s + zay f.las[i])) : SzI w f (i + 1) (zae f.las[i] N) (s + zay f.las[i]) (us ++ [zae f.las[i] N]) := by
 have hbb := zlX hF hs h.N
 have hss := h.s
 refine ⟨?_, fun e he => h.chk e ?_, by omega, by omega⟩
 ·obtain ⟨pre, rfl, h1, h2⟩ := h.us
  refine ⟨pre ++ [N], rfl, by simp [h1], ?_⟩
  rw [h2, List.drop_eq_getElem_cons hi]
  simp [zaU]
 ·rw [List.drop_eq_getElem_cons hi]
  exact .inr ⟨hF, .inr ⟨hb, he⟩⟩
theorem SzI.done {w : World} {f : NeV} {N s : Int} {us : List Int} (h : SzI w f f.las.length N s us) : ChkP w f.las f.inputs 0 0 ∧ us = zaU f.las f.inputs := by
 refine ⟨h.chk 0 (by rw [List.drop_length]; rfl), ?_⟩
 obtain ⟨pre, rfl, -, h2⟩ := h.us
 rw [h2, List.drop_length]
 rfl
def SizRes (f : NeV) (w : World) (e : Ending) (w' : World) : Prop :=
 ∃ A c us err, e = .returned (.tuple #[.slice A (List.length us) c, .int .i64 err]) ∧ NetP w f err ∧ (err = 0 → us = zaU f.las f.inputs) ∧ (err ≠ 0 → us = []) ∧ List.length us ≤ c ∧ Rests w' (w.heap.size ≤ ·) (LsR 1 icells okI A us) ∧ Below w.heap.size w w'
theorem SizRes.err {f : NeV} {w w' : World} {k : Int} (hk : k ≠ 0) (h : NetP w f k) (hb : Below w.heap.size w w') : SizRes f w (.returned (.tuple #[.slice none 0 0, .int .i64 k])) w' :=
 ⟨none, 0, [], k, rfl, h, fun e => absurd e hk, fun _ => rfl, Nat.le_refl _, ⟨LsR.nil_ _, fun _ _ => LsR.nil_ _⟩, hb⟩
theorem GL.appI {w W W' : World} {ls : List Ow} {bs : List Bo} {old new old' new' : World → Prop} {A : Option Addr} {c : Nat} {os : List Int} (h : GL w (⟨3, 1, .slice A os.length c, os.map icells⟩ :: ls) old new W) (he : Env W bs old' new' W') (x : Int) (hl : os.length ≤ 1000000) :
 ∃ A' c' w', (Builtin.append_ #[46, 46] 46 #[.slice A os.length c, .slice (some ⟨W'.heap.size, 0, none⟩) 1 1]).run Tryz.prog (W'.alloc (.cells (icells x) 3)) = .ok (.slice A' (os ++ [x]).length c') w' ∧ GL w (⟨3, 1, .slice A' (os ++ [x]).length c', (os ++ [x]).map icells⟩ :: ls) old (fun V => new' V ∧ new V) w' := by
 obtain ⟨v', w', hrun, hG⟩ := GL.app (P := Tryz.prog) zcf zcB rfl (by decide) h he (icells x) rfl (by simp [icells, Value.oneCell']) (by simp; omega) (by simp [maxLen]; omega)
 obtain ⟨A', c', hv, -⟩ := (hG.own _ (List.mem_cons_self ..)).form
 have hv' : v' = .slice A' (os ++ [x]).length c' := by rw [show v' = _ from hv]; simp
 subst hv'
 refine ⟨A', c', w', hrun, ?_⟩
 have e : (os ++ [x]).map icells = os.map icells ++ [icells x] := by simp
 rw [e]; exact hG
set_option maxRecDepth 100000 in
theorem zev (w : World) (n : Nat) (hn : n ≤ 400000000000) (h1n : 1 ≤ n) (f : NeV) (h : NeD n f w) (hs : NeS f) (hT : Tz w) (nl : Nat) (hnl : nl = f.las.length) : Calls Tryz.prog 31 #[.agg #[.int .i64 f.inputs, .slice f.A nl f.c]] w (SizRes f w) := by
 have Hl := zmZ hnl
 have Hs := zmZ hs
 have Hw := zmZ h
 have sl1 := h.sl
 rw [← hnl] at sl1
 have hsz1 := zb5
 have hszi := zaF
 have hadd := za3
 obtain ⟨W0, hW0⟩ : ∃ W0, W0 = (w.alloc (.cells #[.int .i64 f.inputs, .slice f.A nl f.c] 24)) := ⟨_, rfl⟩
 have HE := zmZ (Env.lay1 (Env.start ((h.old).and (hT.old))) hW0)
 subst hW0
 have c := Env.c1 HE.out
 clear h hs hT hnl
 go_enter Tryz.func31, Tryz.ntmps31
 go_upto_region 1 with fail
 by_cases q0 : f.inputs < 1
 ·have H0 := zmZ q0
  go_wp2_with fail
  go_ret2
  exact SizRes.err (by decide) (.inl ⟨fun h => by have := h.1; have := H0.out; omega, rfl⟩) HE.out.bel
 ·have H0 := zmZ q0
  by_cases q1 : f.inputs > 64
  ·have H1 := zmZ q1
   go_wp2_with fail
   go_ret2
   exact SizRes.err (by decide) (.inl ⟨fun h => by have := h.2.1; have := H1.out; omega, rfl⟩) HE.out.bel
  ·have H1 := zmZ q1
   by_cases q2 : 16 < nl
   ·have H2 := zmZ q2
    go_wp2_with fail
    go_ret2
    exact SizRes.err (by decide) (.inl ⟨fun h => by have := h.2.2; have := H2.out; have := Hl.out; omega, rfl⟩) HE.out.bel
   ·have H2 := zmZ q2
    have Hz := zmZ (show zfc f from by have := H0.out; have := H1.out; have := H2.out; have := Hl.out; unfold zfc; omega)
    go_upto_region 6 with fail
    clear q0 q1 q2
    have HG := zmZ ((GL.start HE.out).addb 3 #[.int .i64 f.inputs])
    have hsw : (w.alloc (.cells #[.int .i64 f.inputs, .slice f.A nl f.c] 24)).heap.size = w.heap.size + 1 := by simp
    rw [hsw] at HG
    clear hsw HE c
    go_loopw [4, 5, 31] (fun ov sv iv wr => ∃ (Ao : Option Addr) (co i : Nat) (us : List Int) (N s : Int), ov = .slice Ao us.length co ∧ sv = .int .i64 s ∧ iv = .int .i64 (i : Int) ∧ i ≤ nl ∧ Hid (SzI w f i N s us) ∧ Hid (GL w [⟨3, 1, .slice Ao us.length co, us.map icells⟩] (fun V => (∀ b ∈ [(⟨w.heap.size, 24, #[.int .i64 f.inputs, .slice f.A nl f.c]⟩ : Bo)], Blk V b.g b.t b.cs) ∧ NeD n f V ∧ Tz V) (fun _ => True) wr)) (fun _ _ iv _ => nl - (intOf iv).toNat)
    case atStart => exact ⟨_, _, 0, [f.inputs], f.inputs, 0, rfl, rfl, rfl, Nat.zero_le _, zmZ (SzI.start w f Hz.out), HG⟩
    case round =>
     clear HG
     obtain ⟨Ao, co, i, us, N, s, rfl, rfl, rfl, hi, HI, HG⟩ := hrel
     by_cases hlt : i < nl
     ·have hlt2 : i < f.las.length := by rw [← Hl.out]; exact hlt
      have hel := (show OwnE wr w.heap.size 3 1 (.slice Ao us.length co) (us.map icells) from HG.out.own _ (List.mem_cons_self ..)).el.1
      have HE := zmZ (Env.start (((HG.out.rso.lt.mono fun _ hn => hn.2).and (HG.out.rsn.lt.mono fun _ hn => hn.2)).and hel.old))
      have slo : Sl Ao us.length := by have h9 := hel.sl; rwa [List.length_map] at h9
      have hiu : i < us.length := by rw [HI.out.len]; omega
      have HC := zmZ (fun (V : World) (h : El V 1 Ao (us.map icells)) => show V.cell? (adr Ao i) = some (.int .i64 N) from by
       have h9 := h.cell i (by simpa using hiu) 0 (by decide)
       rw [Nat.mul_one, Nat.add_zero, List.getElem_map] at h9
       rw [h9]
       have h8 := HI.out.at_
       rw [List.getElem?_eq_getElem hiu] at h8
       rw [show us[i] = N from by simpa using h8]
       rfl)
      have cl := HE.out.o.1.1.2.1.lac i hlt2
      have HY := zmZ (fun h1 h2 => SzI.next HI.out hlt2 h1 (Hs.out.la _ (List.getElem_mem hlt2)) h2)
      have HN := zmZ (fun h1 => SzI.no HI.out hlt2 h1)
      have HB := zmZ (fun h1 h2 => SzI.big HI.out hlt2 h1 h2)
      have Hbb := zmZ (fun (h1 : Fits w (f.las[i]'hlt2) N) => zlX (w := w) (l := f.las[i]'hlt2) h1 (Hs.out.la _ (List.getElem_mem hlt2)) HI.out.N)
      have HLd := zmZ (show LaD n f.las[i] w from Hw.out.ok _ (List.getElem_mem hlt2))
      obtain ⟨l, hl⟩ : ∃ l, l = f.las[i] := ⟨_, rfl⟩
      rw [← hl] at cl HY HN HB Hbb HLd
      have Hm := zmZ (show l ∈ f.las by rw [hl]; exact List.getElem_mem hlt2)
      clear hl hel
      go_upto_region 8 with fail
      obtain ⟨W2, gl, hW2, hgl, HE⟩ := Env.al HE.out 36 #[.int .u8 l.kind, .slice l.Ar l.rows.length l.cr, .slice l.Ab l.bias.length l.cb, .int .i64 l.ch, .int .i64 l.high, .int .i64 l.wide, .int .i64 l.out, .int .i64 l.kh, .int .i64 l.kw, .int .i64 l.st, .int .i64 l.pad, .slice l.Ak l.kern.length l.ck, .slice l.Ag l.grs.length l.cg]
      rw [hW2, hgl]
      clear hW2 hgl cl
      have HCC := zmZ (fun (V : World) (c : CB gl #[.int .u8 l.kind, .slice l.Ar l.rows.length l.cr, .slice l.Ab l.bias.length l.cb, .int .i64 l.ch, .int .i64 l.high, .int .i64 l.wide, .int .i64 l.out, .int .i64 l.kh, .int .i64 l.kw, .int .i64 l.st, .int .i64 l.pad, .slice l.Ak l.kern.length l.ck, .slice l.Ag l.grs.length l.cg] V) (d : El V 1 Ao (us.map icells)) => And.intro c (HC.out V d))
      have c := HCC.out _ (Env.c1 HE.out) HE.out.o.2
      by_cases hF : Fits w l N
      ·have HF := zmZ hF
       clear hF
       go_region_held3 (fun W => CB gl #[.int .u8 l.kind, .slice l.Ar l.rows.length l.cr, .slice l.Ab l.bias.length l.cb, .int .i64 l.ch, .int .i64 l.high, .int .i64 l.wide, .int .i64 l.out, .int .i64 l.kh, .int .i64 l.kw, .int .i64 l.st, .int .i64 l.pad, .slice l.Ak l.kern.length l.ck, .slice l.Ag l.grs.length l.cg] W ∧ W.cell? (adr Ao i) = some (.int .i64 N)) (first | with_reducible exact c | ((repeat' apply And.intro) <;> go_keep) | exact HCC.out _ (Env.c1 HE.out.drew) HE.out.drew.o.2)
        (first
         | (go_at_call 54; go_must (refine (zdX _ n hn h1n l N (by first | exact HE.out.o.1.1.2.1.ok l Hm.out | exact HE.out.drew.o.1.1.2.1.ok l Hm.out) (Hs.out.la l Hm.out) (by first | exact HE.out.o.1.1.2.2 | exact HE.out.drew.o.1.1.2.2) _ _ _ _ (zmZ (Lens.of l))).mono ?_; rintro e w1 ⟨hr, hb⟩; have he := hr.yes ((Fits.same HLd.out (by first | exact Below.after HG.out.bel HE.out.bel | exact Below.after HG.out.bel HE.out.drew.bel)).2 HF.out); subst he; replace HE := zmZ (Env.cx HE.out hb); replace c := HCC.out _ (Env.c1 HE.out) HE.out.o.2; clear hr hb)))
       have hbb := Hbb.out HF.out
       have hI := HI.out.s
       obtain ⟨u, hu⟩ : ∃ u, u = zae l N := ⟨_, rfl⟩
       obtain ⟨t, ht⟩ : ∃ t, t = zay l := ⟨_, rfl⟩
       rw [← hu, ← ht] at hbb HY HB ⊢
       have w1 : IntKind.i64.wrap (s + t) = s + t := zad (by omega)
       clear hu ht hbb hI
       go_upto_region 12 with fail
       by_cases b0 : u > 256
       ·have H9 := zmZ (HB.out HF.out (.inl b0))
        go_wp2_with fail
        go_ret2
        exact SizRes.err (by decide) (.inr ⟨Hz.out, H9.out⟩) (Below.after HG.out.bel (by first | exact HE.out.bel | exact HE.out.drew.bel))
       ·by_cases b1 : s + t > 16384
        ·have H9 := zmZ (HB.out HF.out (.inr b1))
         go_wp2_with fail
         go_ret2
         exact SizRes.err (by decide) (.inr ⟨Hz.out, H9.out⟩) (Below.after HG.out.bel (by first | exact HE.out.bel | exact HE.out.drew.bel))
        ·have H9 := zmZ (HY.out HF.out (by omega))
         have hus := HI.out.len
         have hi16 := H2.out
         obtain ⟨A', c', w8, hrun, hG⟩ := GL.appI HG.out HE.out u (by omega)
         have Hrun := zmZ hrun
         have HG2 := zmZ hG
         clear hrun hG hus hi16
         go_wp2_with (at_builtin; refine za1 rfl (.tmp 57) (.tmp 59) 46 _ _ _ rfl rfl rfl Hrun.out ?_)
         clear Hrun c
         go_wp2_with fail
         go_roundw
         case rel => exact ⟨A', c', i + 1, us ++ [u], u, s + t, by simp, rfl, by go_num, by omega, H9, zmZ (HG2.out.imp (fun _ h => h) (fun _ _ => trivial))⟩
         case measure => (simp [intOf] <;> omega)
      ·have HF := zmZ hF
       clear hF
       go_region_held3 (fun W => CB gl #[.int .u8 l.kind, .slice l.Ar l.rows.length l.cr, .slice l.Ab l.bias.length l.cb, .int .i64 l.ch, .int .i64 l.high, .int .i64 l.wide, .int .i64 l.out, .int .i64 l.kh, .int .i64 l.kw, .int .i64 l.st, .int .i64 l.pad, .slice l.Ak l.kern.length l.ck, .slice l.Ag l.grs.length l.cg] W ∧ W.cell? (adr Ao i) = some (.int .i64 N)) (first | with_reducible exact c | ((repeat' apply And.intro) <;> go_keep) | exact HCC.out _ (Env.c1 HE.out.drew) HE.out.drew.o.2)
        (first
         | (go_at_call 54; go_must (refine (zdX _ n hn h1n l N (by first | exact HE.out.o.1.1.2.1.ok l Hm.out | exact HE.out.drew.o.1.1.2.1.ok l Hm.out) (Hs.out.la l Hm.out) (by first | exact HE.out.o.1.1.2.2 | exact HE.out.drew.o.1.1.2.2) _ _ _ _ (zmZ (Lens.of l))).mono ?_; rintro e w1 ⟨hr, hb⟩; have he := hr.not (fun h9 => HF.out ((Fits.same HLd.out (by first | exact Below.after HG.out.bel HE.out.bel | exact Below.after HG.out.bel HE.out.drew.bel)).1 h9)); subst he; replace HE := zmZ (Env.cx HE.out hb); replace c := HCC.out _ (Env.c1 HE.out) HE.out.o.2; clear hr hb)))
       have H9 := zmZ (HN.out HF.out)
       go_wp2_with fail
       go_ret2
       exact SizRes.err (by decide) (.inr ⟨Hz.out, H9.out⟩) (Below.after HG.out.bel (by first | exact HE.out.bel | exact HE.out.drew.bel))
     ·obtain rfl : i = nl := by omega
      have hI := HI.out
      have hll := Hl.out
      rw [hll] at hI
      have HD := zmZ hI.done
      clear hI hll
      obtain ⟨A', c', hv, hc, hr⟩ := HG.out.tell (cells := icells) (ok := okI) (l := us) (fun V _ _ _ => trivial)
      obtain ⟨rfl, rfl⟩ : Ao = A' ∧ co = c' := by simpa using hv
      have Hr := zmZ hr
      have Hbel := zmZ HG.out.bel
      clear hr hv HG
      go_wp2_with fail
      go_ret2
      exact ⟨Ao, co, us, 0, rfl, .inr ⟨Hz.out, HD.out.1⟩, fun _ => HD.out.2, fun h9 => absurd rfl h9, hc, Hr.out, Hbel.out⟩

def NErr (f : NeV) (w : World) (e : Ending) : Prop := ∃ err, e = .returned (.int .i64 err) ∧ NetP w f err
theorem NeD.iffR {n : Nat} {f : NeV} {w : World} (h : NeD n f w) : Rests w (· < w.heap.size) (fun V => ∀ e, NetP V f e ↔ NetP w f e) := by
 have hl : Rests w (· < w.heap.size) (fun V => ∀ l ∈ f.las, LaI w l V) := Rests.all (φ := fun l V => LaI w l V) fun l hl => LaD.iffR (h.ok l hl)
 have hF : ∀ {V : World} {l : LaV}, LaI w l V → ∀ N, Fits V l N ↔ Fits w l N := fun {V l} hI N => by
  have h1 : AffP V l N ↔ AffP w l N := ⟨fun h => ⟨h.p, h.g, h.r, h.b, fun v hv => (hI.rows v hv N).1 (h.er v hv), fun p hp => (hI.bias p hp).1 (h.eb p hp)⟩, fun h => ⟨h.p, h.g, h.r, h.b, fun v hv => (hI.rows v hv N).2 (h.er v hv), fun p hp => (hI.bias p hp).2 (h.eb p hp)⟩⟩
  have h2 : ConvP V l N ↔ ConvP w l N := ⟨fun h => ⟨h.s, h.pad, h.n, h.h, h.k, h.b, h.e, fun p hp => (hI.kern p hp).1 (h.ek p hp), fun p hp => (hI.bias p hp).1 (h.eb p hp)⟩, fun h => ⟨h.s, h.pad, h.n, h.h, h.k, h.b, h.e, fun p hp => (hI.kern p hp).2 (h.ek p hp), fun p hp => (hI.bias p hp).2 (h.eb p hp)⟩⟩
  unfold Fits
  rw [h1, h2]
 have hC : ∀ {V : World} (ls : List LaV), (∀ l ∈ ls, LaI w l V) → ∀ N s e, ChkP V ls N s e ↔ ChkP w ls N s e := fun {V} ls => by
  induction ls with
  | nil => intro _ N s e; exact Iff.rfl
  | cons l ls ih =>
   intro hI N s e
   unfold ChkP
   rw [hF (hI l (List.mem_cons_self ..)), ih (fun l hl => hI l (List.mem_cons_of_mem _ hl))]
 refine hl.imp fun V hV e => ?_
 unfold NetP
 rw [hC f.las hV]
set_option maxRecDepth 100000 in
theorem zc4 (w : World) (n : Nat) (hn : n ≤ 400000000000) (h1n : 1 ≤ n) (f : NeV) (h : NeD n f w) (hs : NeS f) (hT : Tz w) (nl : Nat) (hnl : nl = f.las.length) : Calls Tryz.prog 10 #[.agg #[.int .i64 f.inputs, .slice f.A nl f.c]] w fun e w' => NErr f w e ∧ Below w.heap.size w w' := by
 have Hw := zmZ h
 have Hs := zmZ hs
 have Hl := zmZ hnl
 obtain ⟨W0, hW0⟩ : ∃ W0, W0 = (w.alloc (.cells #[.int .i64 f.inputs, .slice f.A nl f.c] 24)) := ⟨_, rfl⟩
 have HE := zmZ (Env.lay1 (Env.start ((h.old).and ((hT.old).and ((NeD.iffR h))))) hW0)
 subst hW0
 have c := Env.c1 HE.out
 clear h hs hT hnl
 go_enter Tryz.func10, Tryz.ntmps10
 go_wp2_with fail
 refine (zev _ n hn h1n f HE.out.o.1 Hs.out HE.out.o.2.1 nl Hl.out).mono ?_
 rintro e w1 ⟨A, c1, us, err, rfl, hN, hu, hu0, hc, hr, hb⟩
 have HN := zmZ ((HE.out.o.2.2 err).1 hN)
 have HU := zmZ hu
 have HU0 := zmZ hu0
 have Hc := zmZ hc
 replace HE := zmZ (Env.ret HE.out hr hb)
 clear hN hu hu0 hr hb hc c
 go_wp2_with fail
 go_ret
 exact ⟨⟨err, rfl, HN.out⟩, HE.out.bel⟩
end Go.Proofs.YtikmgoefjbhcjaaGreatDoor
