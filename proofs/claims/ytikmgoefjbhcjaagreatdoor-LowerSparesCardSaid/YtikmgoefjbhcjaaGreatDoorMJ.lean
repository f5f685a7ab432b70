/-
 What the rows of law 14 share: the one table out of the row's list, the world of the witness, the last step; nets as arguments.
-/
import Derived.Test.YtikmgoefjbhcjaaGreatDoorCards
import Derived.Test.YtikmgoefjbhcjaaGreatDoorTie
import Derived.Test.YtikmgoefjbhcjaaGreatDoorMI
import Derived.Deep.Slices
import Derived.Lib.SmallJoins
import Derived.WalkKit
import Derived.ProofKit
import Derived.OpenShut
import Derived.Deep.DeepHandedRow
import Derived.Lib.LaidTab
import Derived.Stop.LaidErr
import Derived.Carry
namespace Go.Proofs.YtikmgoefjbhcjaaGreatDoor
open Go.ChangeShapes Go.WideShapes Go.ChangeAt Go.RowKit Go.Deep

theorem own : ownKnob Tryz.prog.godebug = none := by kernel_rfl
def zhg : List (String × DataW Unit) := [("math/bits.deBruijn64tab", Rows.laid_math_bits_deBruijn64tab)]

def zmu (cs : Array Value) : Obj → Obj
 | .cells _ t frozen => .cells cs t frozen
 | o => o
noncomputable def zby (os : Os) : World :=
 { World.holding Tryz.prog os ⟨#[], #[], []⟩ with heap := (World.holding Tryz.prog os ⟨#[], #[], []⟩).heap.modify 5 (zmu #[.int .u8 0, .int .u8 1, .int .u8 56, .int .u8 2, .int .u8 57, .int .u8 49, .int .u8 28, .int .u8 3, .int .u8 61, .int .u8 58, .int .u8 42, .int .u8 50, .int .u8 38, .int .u8 29, .int .u8 17, .int .u8 4, .int .u8 62, .int .u8 47, .int .u8 59, .int .u8 36, .int .u8 45, .int .u8 43, .int .u8 51, .int .u8 22, .int .u8 53, .int .u8 39, .int .u8 33, .int .u8 30, .int .u8 24, .int .u8 18, .int .u8 12, .int .u8 5, .int .u8 63, .int .u8 55, .int .u8 48, .int .u8 27, .int .u8 60, .int .u8 41, .int .u8 37, .int .u8 16, .int .u8 46, .int .u8 35, .int .u8 44, .int .u8 21, .int .u8 52, .int .u8 32, .int .u8 23, .int .u8 11, .int .u8 54, .int .u8 26, .int .u8 40, .int .u8 15, .int .u8 34, .int .u8 20, .int .u8 31, .int .u8 10, .int .u8 25, .int .u8 14, .int .u8 19, .int .u8 9, .int .u8 13, .int .u8 8, .int .u8 7, .int .u8 6]) }

theorem zeK {H : Type} {enc : TypeId × Value → H} {f : Func} {s : ChangeSpec} {W W' : World} {args : Array Value} {ds : List (DataW H)} {before : List MemPlace}
 (hW : DataW.Whole enc Tryz.prog f.params.toList s.vars false W args.toList ds [] before) (hv : s.vars = []) (hr : f.resultTypes = #[4])
 (hfn : s.fn H (ds ++ []) = { results := [.lit (.bool true)], args := ds }) (hb : Below W.heap.size W W')
 (hargs : DataW.TrodAll enc Tryz.prog W' 0 (fun b => decide (b < W.heap.size)) true f.params.toList args.toList ds before) :
 s.post enc Tryz.prog f false true false false W args (.bool true) W' := by
 refine ⟨ds, [], before, [], before, [], hW, ?_, ?_, ?_, ?_, fun h => by cases h⟩
 ·rw [hfn, hr]
  exact trodAll_cons_mk (shut_bool Tryz.underlying4 _) trodAll_mk0
 ·rw [hfn]; exact hargs
 ·rw [hfn, hv]; exact rfl
 ·exact World.keptBut_mono (fun p hp => ⟨hp, .inr (.inl hp)⟩) (hb.frame (· ∈ before))

theorem gTz : Tryz.prog.globalNamed "math/bits.deBruijn64tab" = some 5 := by kernel_rfl
theorem zkV : (Tryz.prog.globals[(5 : Nat)]?).map (·.type) = some 205 := by kernel_rfl
theorem zlm : Tryz.prog.cellsOf 205 = 64 := by kernel_rfl
theorem zkn : Tryz.prog.cellsOf 5 = 1 := by kernel_rfl
theorem zmk {W : World} (h : laidMetH Tryz.prog zhg W) : Tz W := by
 have h1 := Lib.tabIs_of_head (rest := []) (zs := Lib.deBruijn64tab.map fun n : Nat => (n : Int)) gTz zkV Tryz.underlying205 Tryz.underlying5 zkn zlm (show laidMet Tryz.prog zhg W from h)
 unfold Lib.TabIs World.var? at h1
 simp only [gTz, Option.bind_some] at h1
 intro j hj
 cases hh : W.heap[(5 : Nat)]? with
 | none => rw [hh] at h1; simp at h1
 | some o =>
  rw [hh] at h1
  cases o with
  | cells cs t fr =>
   have e : cs = ((Lib.deBruijn64tab.map fun n : Nat => (n : Int)).map fun z => Value.int .u8 z).toArray := by simpa using h1
   rw [Joins.cell_of_block hh, e]
   simp [List.getD, hj]
  | _ => simp at h1
theorem zfu : laidOutB Tryz.prog = true := by kernel_rfl
theorem ziN : Tryz.prog.cellsOf 105 = 1 := by kernel_rfl
theorem zfS : Tryz.prog.cellsOf 39 = 2 := by kernel_rfl
def zkE : Value → Nat
 | .int _ z => z.toNat
 | _ => 0
theorem zfI {w : World} {a : Addr} {v : Value} (h : w.cell? a = some v) : a.spot = none := by
 unfold World.cell? at h
 split at h
 ·split at h
  ·cases h
  ·rename_i h2; simpa using h2
 ·cases h
theorem zho {H : Type} {enc : TypeId × Value → H} {W : World} {b : Nat} {sp : Nat → Bool} {hd : Bool} {n : Nat} {v : Value} {y : DataW H × List MemPlace} (h : DataW.trod enc Tryz.prog W b sp hd n 37 [v] = some y) :
 ∃ A c l, v = .slice A (List.length l) c ∧ l.length ≤ c ∧ c ≤ maxLen ∧ Rd W .u64 A l ∧ ∀ x ∈ l, x < B64 := by
 rcases open_slice1 Tryz.underlying37 ziN h with ⟨h1, -⟩ | ⟨a, len, cap, m, k, V, D, Pl, h1, -, hl, hm, hmm, -, hx⟩
 ·exact ⟨none, 0, [], by simpa using h1, by simp, by simp, Rd.nil_ _ _, by simp⟩
 ·have hlm : len ≤ m := by rw [hmm]; split <;> omega
  have hV : ∀ i, i < len → ∃ z : Nat, V i = .int .u64 (z : Int) ∧ z < B64 := fun i hi => by
   obtain ⟨z, h2, -, hw⟩ := DataW.trod_int Tryz.underlying105 (hx i (by omega)).2
   have hz := bounds_u64 hw
   refine ⟨z.toNat, ?_, by simp only [B64]; omega⟩
   have : V i = .int .u64 z := by simpa using h2
   rw [this, Int.toNat_of_nonneg hz.1]
  refine ⟨some a, cap, (List.range len).map fun i => zkE (V i), by simpa using h1, by simpa using hl, hm, ⟨?_, ?_⟩, ?_⟩
  ·intro h0
   have h0' : 0 < len := by simpa using h0
   have := zfI (hx 0 (by omega)).1
   obtain ⟨ab, ao, asp⟩ := a
   have e : asp = none := by simpa [Addr.add] using this
   exact ⟨ab, ao, by rw [e]⟩
  ·intro i hi
   have hi' : i < len := by simpa using hi
   obtain ⟨z, hz, -⟩ := hV i hi'
   have hc := (hx i (by omega)).1
   have hs := zfI (hx 0 (by omega)).1
   obtain ⟨ab, ao, asp⟩ := a
   have e : asp = none := by simpa [Addr.add] using hs
   subst e
   rw [zac] at hc
   rw [za4, hc, hz]
   simp [nth, List.getD, hi', hz, zkE]
  ·intro x hx'
   obtain ⟨i, hi, rfl⟩ := List.mem_map.1 hx'
   obtain ⟨z, hz, hlt⟩ := hV i (by simpa using hi)
   rw [hz]
   simpa [zkE] using hlt
theorem ze6 : Tryz.prog.cellsOf 41 = 4 := by kernel_rfl
theorem zhz : Tryz.prog.cellsOf 4 = 1 := by kernel_rfl
theorem zgJ : Tryz.prog.cellsOf 37 = 1 := by kernel_rfl
theorem zeB {H : Type} {enc : TypeId × Value → H} {W : World} {b : Nat} {sp : Nat → Bool} {hd : Bool} {n : Nat} {v0 v1 : Value} {y : DataW H × List MemPlace} (h : DataW.trod enc Tryz.prog W b sp hd n 39 [v0, v1] = some y) :
 ∃ i : IV, v0 = .bool i.neg ∧ v1 = .slice i.A i.k i.c ∧ ∃ z, IntD i z 9223372036854775807 W := by
 obtain ⟨y0, y1, m, -, -, h0, h1⟩ := trod_struct2 Tryz.underlying39 h
 have k0 : DataW.trod enc Tryz.prog W b sp hd m 4 [v0] = some y0 := by simpa [zhz] using h0
 have k1 : DataW.trod enc Tryz.prog W b sp hd m 37 [v1] = some y1 := by simpa [zgJ] using h1
 obtain ⟨neg, h2, -⟩ := DataW.trod_bool Tryz.underlying4 k0
 obtain ⟨A, c, l, rfl, h3, h4, h5, h6⟩ := zho k1
 obtain rfl : v0 = .bool neg := by simpa using h2
 exact ⟨⟨neg, A, l.length, c⟩, rfl, rfl, _, ⟨⟨l, rfl, h5, h6, rfl⟩, h3, Nat.le_trans h3 h4⟩⟩
theorem zmO {α : Type} {l : List α} (h : l.length = 4) : ∃ a b c d, l = [a, b, c, d] := by
 match l, h with
 | [a, b, c, d], _ => exact ⟨a, b, c, d, rfl⟩
theorem zmE {α : Type} {l : List α} (h : l.length = 5) : ∃ a b c d e, l = [a, b, c, d, e] := by
 match l, h with
 | [a, b, c, d, e], _ => exact ⟨a, b, c, d, e, rfl⟩
theorem zkZ {α : Type} {l : List α} (h : l.length = 1) : ∃ a, l = [a] := by
 match l, h with
 | [a], _ => exact ⟨a, rfl⟩
theorem zmz {α : Type} {x : Array α} (h : x.size = 2) : ∃ a b, x = #[a, b] := by
 obtain ⟨l⟩ := x
 match l, h with
 | [a, b], _ => exact ⟨a, b, rfl⟩
theorem zmn {α : Type} {l : List α} (h : l.length = 13) : ∃ c0 c1 c2 c3 c4 c5 c6 c7 c8 c9 c10 c11 c12, l = [c0, c1, c2, c3, c4, c5, c6, c7, c8, c9, c10, c11, c12] := by
 match l, h with
 | [c0, c1, c2, c3, c4, c5, c6, c7, c8, c9, c10, c11, c12], _ => exact ⟨c0, c1, c2, c3, c4, c5, c6, c7, c8, c9, c10, c11, c12, rfl⟩
instance : Inhabited VeV := ⟨⟨none, 0, []⟩⟩
instance : Inhabited GrV := ⟨⟨none, 0, []⟩⟩
instance : Inhabited LaV := ⟨⟨0, none, 0, [], none, 0, [], 0, 0, 0, 0, 0, 0, 0, 0, none, 0, [], none, 0, []⟩⟩
instance : Inhabited TeV := ⟨⟨0, zfi, 0⟩⟩
section
variable {H : Type} {enc : TypeId × Value → H} {w : World} {b : Nat} {sp : Nat → Bool} {hd : Bool}
theorem zbD {α : Type} [Inhabited α] {t e : TypeId} {k : Nat} {cells : α → Array Value} {φ : α → Prop} (ht : Tryz.prog.underlying t = some (.slice e)) (hc : Tryz.prog.cellsOf e = k) (hk : 0 < k)
 (hq : ∀ n cs y, cs.length = k → DataW.trod enc Tryz.prog w b sp hd n e cs = some y → ∃ x, cs = (cells x).toList ∧ φ x) {v : Value} {n : Nat} {y : DataW H × List MemPlace} (h : DataW.trod enc Tryz.prog w b sp hd n t [v] = some y) :
 ∃ A c l, v = .slice A (List.length l) c ∧ l.length ≤ c ∧ l.length ≤ 9223372036854775807 ∧ El w k A (l.map cells) ∧ ∀ x ∈ l, φ x := by
 subst hc
 rcases open_slice ht h with ⟨h1, -⟩ | ⟨a, len, cap, m, n, D, Pl, h1, -, hl, hm, hmm, hy, hx⟩
 ·exact ⟨none, 0, [], by simpa using h1, by simp, by simp, El.nil_ _ _ _, by simp⟩
 ·have hlm : len ≤ m := by rw [hmm]; split <;> omega
  obtain ⟨f, hf⟩ := choose_lt (n := len) (p := fun i x => w.cells? b (a.add (i * Tryz.prog.cellsOf e)) (Tryz.prog.cellsOf e) = some (cells x).toList ∧ φ x) fun i hi => by
   obtain ⟨cs, h2, h3⟩ := hx i (by omega)
   obtain ⟨x, rfl, h4⟩ := hq _ _ _ (World.cells?_some h2).2.1 h3
   exact ⟨x, h2, h4⟩
  have hce : ∀ i, i < len → (cells (f i)).size = Tryz.prog.cellsOf e ∧ ∀ j, j < Tryz.prog.cellsOf e → w.cell? ((a.add (i * Tryz.prog.cellsOf e)).add j) = (cells (f i))[j]? := fun i hi => by
   obtain ⟨-, h2, h3⟩ := World.cells?_some (hf i hi).1
   exact ⟨by simpa using h2, fun j hj => by simpa using h3 j hj⟩
  have hsp : 0 < len → a.spot = none := fun h0 => by
   obtain ⟨h2, h3⟩ := hce 0 h0
   have h4 := h3 0 hk
   have h5 : 0 < (cells (f 0)).size := by omega
   rw [Array.getElem?_eq_getElem h5] at h4
   have := zfI h4
   simpa [Addr.add] using this
  refine ⟨some a, cap, (List.range len).map f, by simpa using h1, by simpa using hl, by rw [List.length_map, List.length_range]; exact Nat.le_trans hl hm, ⟨?_, ?_, ?_⟩, ?_⟩
  ·intro h0
   have h0' : 0 < len := by simpa using h0
   obtain ⟨ab, ao, asp⟩ := a
   have : asp = none := hsp h0'
   exact ⟨ab, ao, by rw [this]⟩
  ·intro i hi
   have hi' : i < len := by simpa using hi
   simpa using (hce i hi').1
  ·intro i hi j hj
   have hi' : i < len := by simpa using hi
   have hc := (hce i hi').2 j hj
   have hs := hsp (by omega)
   obtain ⟨ab, ao, asp⟩ := a
   have e : asp = none := hs
   subst e
   rw [zac, zac, Nat.add_assoc] at hc
   rw [za4, hc]
   simp
  ·intro x hx'
   obtain ⟨i, hi, rfl⟩ := List.mem_map.1 hx'
   have hi' : i < len := by simpa using hi
   exact (hf i hi').2
theorem zeW : Tryz.prog.cellsOf 45 = 5 := by kernel_rfl
theorem zaO : Tryz.prog.cellsOf 3 = 1 := by kernel_rfl
theorem zjg : Tryz.prog.cellsOf 43 = 1 := by kernel_rfl
theorem zhH : Tryz.prog.cellsOf 32 = 1 := by kernel_rfl
theorem zeA : Tryz.prog.cellsOf 33 = 1 := by kernel_rfl
theorem zhh : Tryz.prog.cellsOf 46 = 1 := by kernel_rfl
theorem ziT : Tryz.prog.cellsOf 34 = 1 := by kernel_rfl
theorem zh2 : Tryz.prog.cellsOf 31 = 1 := by kernel_rfl
theorem zfW : Tryz.prog.cellsOf 36 = 13 := by kernel_rfl
theorem zii : Tryz.prog.cellsOf 22 = 1 := by kernel_rfl
theorem ziQ : Tryz.prog.cellsOf 24 = 2 := by kernel_rfl
theorem zit {n : Nat} {cs : List Value} {y : DataW H × List MemPlace} (h : DataW.trod enc Tryz.prog w b sp hd n 41 cs = some y) : ∃ p : RV × Rat, cs = (rtcells p).toList ∧ roD 9223372036854775807 p w := by
 obtain ⟨y0, y1, m, -, hl, h0, h1⟩ := trod_struct2 Tryz.underlying41 h
 rw [ze6] at hl
 obtain ⟨c0, c1, c2, c3, rfl⟩ := zmO hl
 have k0 : DataW.trod enc Tryz.prog w b sp hd m 39 [c0, c1] = some y0 := by simpa [zfS] using h0
 have k1 : DataW.trod enc Tryz.prog w b sp hd m 39 [c2, c3] = some y1 := by simpa [zfS] using h1
 obtain ⟨i, rfl, rfl, x, hx⟩ := zeB k0
 obtain ⟨j, rfl, rfl, y', hy⟩ := zeB k1
 exact ⟨(⟨i, j⟩, if j.k = 0 then Rat.divInt x 1 else Rat.divInt x y'), rfl, ⟨x, y', hx, hy, rfl⟩⟩
theorem zft {n : Nat} {v : Value} {y : DataW H × List MemPlace} (h : DataW.trod enc Tryz.prog w b sp hd n 33 [v] = some y) : ∃ A c l, v = .slice A (List.length l) c ∧ l.length ≤ 9223372036854775807 ∧ LsR 4 rtcells (roD 9223372036854775807) A l w := by
 obtain ⟨A, c, l, h1, -, h2, h3, h4⟩ := zbD (cells := rtcells) (φ := fun p => roD 9223372036854775807 p w) Tryz.underlying33 ze6 (by decide) (fun n cs y _ h => zit h) h
 exact ⟨A, c, l, h1, h2, h3, h4⟩
theorem zju {n : Nat} {cs : List Value} {y : DataW H × List MemPlace} (h : DataW.trod enc Tryz.prog w b sp hd n 45 cs = some y) : ∃ t : TeV, cs = (tecells t).toList ∧ teD 9223372036854775807 t w := by
 obtain ⟨y0, y1, m, -, hl, h0, h1⟩ := trod_struct2 Tryz.underlying45 h
 rw [zeW] at hl
 obtain ⟨c0, c1, c2, c3, c4, rfl⟩ := zmE hl
 have k0 : DataW.trod enc Tryz.prog w b sp hd m 3 [c0] = some y0 := by simpa [zaO] using h0
 have k1 : DataW.trod enc Tryz.prog w b sp hd m 41 [c1, c2, c3, c4] = some y1 := by simpa [ze6] using h1
 obtain ⟨z, e0, -, -⟩ := DataW.trod_int Tryz.underlying3 k0
 obtain ⟨p, e, hp⟩ := zit k1
 obtain rfl : c0 = .int .i64 z := by simpa using e0
 exact ⟨⟨z, p.1, p.2⟩, by rw [e]; rfl, hp⟩
theorem zkd {n : Nat} {cs : List Value} {y : DataW H × List MemPlace} (hl : cs.length = 1) (h : DataW.trod enc Tryz.prog w b sp hd n 43 cs = some y) : ∃ v : VeV, cs = (vecells v).toList ∧ v.ts.length ≤ 9223372036854775807 ∧ veF (teD 9223372036854775807) v w := by
 obtain ⟨v, rfl⟩ := zkZ hl
 obtain ⟨A, c, l, h1, -, h2, h3, h4⟩ := zbD (cells := tecells) (φ := fun t => teD 9223372036854775807 t w) Tryz.underlying43 zeW (by decide) (fun n cs y _ h => zju h) h
 exact ⟨⟨A, c, l⟩, by rw [h1]; rfl, h2, h3, h4⟩
theorem zkp {n : Nat} {v : Value} {y : DataW H × List MemPlace} (h : DataW.trod enc Tryz.prog w b sp hd n 32 [v] = some y) : ∃ A c l, v = .slice A (List.length l) c ∧ l.length ≤ 9223372036854775807 ∧ (∀ v ∈ l, v.ts.length ≤ 9223372036854775807) ∧ LsR 1 vecells (veF (teD 9223372036854775807)) A l w := by
 obtain ⟨A, c, l, h1, -, h2, h3, h4⟩ := zbD (cells := vecells) (φ := fun v => v.ts.length ≤ 9223372036854775807 ∧ veF (teD 9223372036854775807) v w) Tryz.underlying32 zjg (by decide) (fun n cs y hl h => zkd hl h) h
 exact ⟨A, c, l, h1, h2, fun v hv => (h4 v hv).1, h3, fun v hv => (h4 v hv).2⟩
theorem zkq {n : Nat} {cs : List Value} {y : DataW H × List MemPlace} (hl : cs.length = 1) (h : DataW.trod enc Tryz.prog w b sp hd n 3 cs = some y) : ∃ z : Int, cs = (icells z).toList ∧ True := by
 obtain ⟨v, rfl⟩ := zkZ hl
 obtain ⟨z, e0, -, -⟩ := DataW.trod_int Tryz.underlying3 h
 obtain rfl : v = .int .i64 z := by simpa using e0
 exact ⟨z, rfl, trivial⟩
theorem zlK {n : Nat} {cs : List Value} {y : DataW H × List MemPlace} (hl : cs.length = 1) (h : DataW.trod enc Tryz.prog w b sp hd n 46 cs = some y) : ∃ g : GrV, cs = (grcells g).toList ∧ (g.l.length ≤ 9223372036854775807 ∧ g.l.length ≤ g.c) ∧ grD g w := by
 obtain ⟨v, rfl⟩ := zkZ hl
 obtain ⟨A, c, l, h1, hc, h2, h3, h4⟩ := zbD (cells := icells) (φ := fun _ => True) Tryz.underlying46 zaO (by decide) (fun n cs y hl h => zkq hl h) h
 exact ⟨⟨A, c, l⟩, by rw [h1]; rfl, ⟨h2, hc⟩, h3, h4⟩
theorem zlN {n : Nat} {v : Value} {y : DataW H × List MemPlace} (h : DataW.trod enc Tryz.prog w b sp hd n 34 [v] = some y) : ∃ A c l, v = .slice A (List.length l) c ∧ l.length ≤ 9223372036854775807 ∧ (∀ g ∈ l, g.l.length ≤ 9223372036854775807 ∧ g.l.length ≤ g.c) ∧ LsR 1 grcells grD A l w := by
 obtain ⟨A, c, l, h1, -, h2, h3, h4⟩ := zbD (cells := grcells) (φ := fun g => (g.l.length ≤ 9223372036854775807 ∧ g.l.length ≤ g.c) ∧ grD g w) Tryz.underlying34 zhh (by decide) (fun n cs y hl h => zlK hl h) h
 exact ⟨A, c, l, h1, h2, fun v hv => (h4 v hv).1, h3, fun v hv => (h4 v hv).2⟩
theorem zeh {P : Program} {t : TypeId} {f0 f1 f2 f3 f4 f5 f6 f7 f8 f9 f10 f11 f12 : Field} {fuel : Nat} {cs : List Value} {x : DataW H × List MemPlace} (ht : P.underlying t = some (.struct #[f0, f1, f2, f3, f4, f5, f6, f7, f8, f9, f10, f11, f12])) (h : DataW.trod enc P w b sp hd fuel t cs = some x) :
 ∃ y0 y1 y2 y3 y4 y5 y6 y7 y8 y9 y10 y11 y12 n, cs.length = P.cellsOf t ∧ DataW.trod enc P w b sp hd n f0.type ((cs.drop f0.offset).take (P.cellsOf f0.type)) = some y0 ∧ DataW.trod enc P w b sp hd n f1.type ((cs.drop f1.offset).take (P.cellsOf f1.type)) = some y1 ∧ DataW.trod enc P w b sp hd n f2.type ((cs.drop f2.offset).take (P.cellsOf f2.type)) = some y2 ∧ DataW.trod enc P w b sp hd n f3.type ((cs.drop f3.offset).take (P.cellsOf f3.type)) = some y3 ∧ DataW.trod enc P w b sp hd n f4.type ((cs.drop f4.offset).take (P.cellsOf f4.type)) = some y4 ∧ DataW.trod enc P w b sp hd n f5.type ((cs.drop f5.offset).take (P.cellsOf f5.type)) = some y5 ∧ DataW.trod enc P w b sp hd n f6.type ((cs.drop f6.offset).take (P.cellsOf f6.type)) = some y6 ∧ DataW.trod enc P w b sp hd n f7.type ((cs.drop f7.offset).take (P.cellsOf f7.type)) = some y7 ∧ DataW.trod enc P w b sp hd n f8.type ((cs.drop f8.offset).take (P.cellsOf f8.type)) = some y8 ∧ DataW.trod enc P w b sp hd n f9.type ((cs.drop f9.offset).take (P.cellsOf f9.type)) = some y9 ∧ DataW.trod enc P w b sp hd n f10.type ((cs.drop f10.offset).take (P.cellsOf f10.type)) = some y10 ∧ DataW.trod enc P w b sp hd n f11.type ((cs.drop f11.offset).take (P.cellsOf f11.type)) = some y11 ∧ DataW.trod enc P w b sp hd n f12.type ((cs.drop f12.offset).take (P.cellsOf f12.type)) = some y12 := by
 obtain ⟨xs, n, _, rfl, hl, hlen, hf⟩ := DataW.trod_struct ht h
 match xs, hlen with
 | [y0, y1, y2, y3, y4, y5, y6, y7, y8, y9, y10, y11, y12], _ => exact ⟨y0, y1, y2, y3, y4, y5, y6, y7, y8, y9, y10, y11, y12, n, hl, by simpa using hf 0 f0 rfl, by simpa using hf 1 f1 rfl, by simpa using hf 2 f2 rfl, by simpa using hf 3 f3 rfl, by simpa using hf 4 f4 rfl, by simpa using hf 5 f5 rfl, by simpa using hf 6 f6 rfl, by simpa using hf 7 f7 rfl, by simpa using hf 8 f8 rfl, by simpa using hf 9 f9 rfl, by simpa using hf 10 f10 rfl, by simpa using hf 11 f11 rfl, by simpa using hf 12 f12 rfl⟩
set_option maxRecDepth 100000 in
theorem zli {n : Nat} {cs : List Value} {y : DataW H × List MemPlace} (h : DataW.trod enc Tryz.prog w b sp hd n 36 cs = some y) : ∃ l : LaV, cs = (lacells l).toList ∧ LaM l ∧ LaD 9223372036854775807 l w := by
 obtain ⟨y0, y1, y2, y3, y4, y5, y6, y7, y8, y9, y10, y11, y12, m, hl, h0, h1, h2, h3, h4, h5, h6, h7, h8, h9, h10, h11, h12⟩ := zeh Tryz.underlying36 h
 rw [zfW] at hl
 obtain ⟨c0, c1, c2, c3, c4, c5, c6, c7, c8, c9, c10, c11, c12, rfl⟩ := zmn hl
 have k0 : DataW.trod enc Tryz.prog w b sp hd m 31 [c0] = some y0 := by simpa [zh2] using h0
 have k1 : DataW.trod enc Tryz.prog w b sp hd m 32 [c1] = some y1 := by simpa [zhH] using h1
 have k2 : DataW.trod enc Tryz.prog w b sp hd m 33 [c2] = some y2 := by simpa [zeA] using h2
 have k3 : DataW.trod enc Tryz.prog w b sp hd m 3 [c3] = some y3 := by simpa [zaO] using h3
 have k4 : DataW.trod enc Tryz.prog w b sp hd m 3 [c4] = some y4 := by simpa [zaO] using h4
 have k5 : DataW.trod enc Tryz.prog w b sp hd m 3 [c5] = some y5 := by simpa [zaO] using h5
 have k6 : DataW.trod enc Tryz.prog w b sp hd m 3 [c6] = some y6 := by simpa [zaO] using h6
 have k7 : DataW.trod enc Tryz.prog w b sp hd m 3 [c7] = some y7 := by simpa [zaO] using h7
 have k8 : DataW.trod enc Tryz.prog w b sp hd m 3 [c8] = some y8 := by simpa [zaO] using h8
 have k9 : DataW.trod enc Tryz.prog w b sp hd m 3 [c9] = some y9 := by simpa [zaO] using h9
 have k10 : DataW.trod enc Tryz.prog w b sp hd m 3 [c10] = some y10 := by simpa [zaO] using h10
 have k11 : DataW.trod enc Tryz.prog w b sp hd m 33 [c11] = some y11 := by simpa [zeA] using h11
 have k12 : DataW.trod enc Tryz.prog w b sp hd m 34 [c12] = some y12 := by simpa [ziT] using h12
 obtain ⟨z0, e0, -, -⟩ := DataW.trod_int Tryz.underlying31 k0
 obtain rfl : c0 = .int .u8 z0 := by simpa using e0
 obtain ⟨z3, e3, -, -⟩ := DataW.trod_int Tryz.underlying3 k3
 obtain rfl : c3 = .int .i64 z3 := by simpa using e3
 obtain ⟨z4, e4, -, -⟩ := DataW.trod_int Tryz.underlying3 k4
 obtain rfl : c4 = .int .i64 z4 := by simpa using e4
 obtain ⟨z5, e5, -, -⟩ := DataW.trod_int Tryz.underlying3 k5
 obtain rfl : c5 = .int .i64 z5 := by simpa using e5
 obtain ⟨z6, e6, -, -⟩ := DataW.trod_int Tryz.underlying3 k6
 obtain rfl : c6 = .int .i64 z6 := by simpa using e6
 obtain ⟨z7, e7, -, -⟩ := DataW.trod_int Tryz.underlying3 k7
 obtain rfl : c7 = .int .i64 z7 := by simpa using e7
 obtain ⟨z8, e8, -, -⟩ := DataW.trod_int Tryz.underlying3 k8
 obtain rfl : c8 = .int .i64 z8 := by simpa using e8
 obtain ⟨z9, e9, -, -⟩ := DataW.trod_int Tryz.underlying3 k9
 obtain rfl : c9 = .int .i64 z9 := by simpa using e9
 obtain ⟨z10, e10, -, -⟩ := DataW.trod_int Tryz.underlying3 k10
 obtain rfl : c10 = .int .i64 z10 := by simpa using e10
 obtain ⟨A1, q1, l1, rfl, n1, m1, g1⟩ := zkp k1
 obtain ⟨A2, q2, l2, rfl, n2, g2⟩ := zft k2
 obtain ⟨A3, q3, l3, rfl, n3, g3⟩ := zft k11
 obtain ⟨A4, q4, l4, rfl, n4, m4, g4⟩ := zlN k12
 exact ⟨⟨z0, A1, q1, l1, A2, q2, l2, z3, z4, z5, z6, z7, z8, z9, z10, A3, q3, l3, A4, q4, l4⟩, rfl, ⟨n1, m1, n2, n3, n4, fun g hg => (m4 g hg).1, fun g hg => (m4 g hg).2⟩, ⟨g1, g2, g3, g4⟩⟩
set_option maxRecDepth 100000 in
theorem zi9 {b0 : Nat} {rr : Reach} {v : Value} {d : DataW H} {p : List MemPlace} (hv : Value.okWide Tryz.prog w rr b0 24 v) (h : DataW.Trod enc Tryz.prog w b sp hd 24 v d p) :
 ∃ f : NeV, v = .agg #[.int .i64 f.inputs, .slice f.A f.las.length f.c] ∧ f.las.length ≤ 9223372036854775807 ∧ (∀ l ∈ f.las, LaM l) ∧ NeD 9223372036854775807 f w := by
 obtain ⟨cs, rfl, hsz⟩ := okWide_struct Tryz.underlying24 hv
 obtain ⟨c0, c1, rfl⟩ := zmz (hsz.trans ziQ)
 obtain ⟨fuel, hf⟩ := h
 obtain ⟨y0, y1, n, -, -, h0, h1⟩ := trod_struct2 Tryz.underlying24 hf
 have k0 : DataW.trod enc Tryz.prog w b sp hd n 3 [c0] = some y0 := by simpa [Value.cells, zaO] using h0
 have k1 : DataW.trod enc Tryz.prog w b sp hd n 22 [c1] = some y1 := by simpa [Value.cells, zii] using h1
 obtain ⟨z, e0, -, -⟩ := DataW.trod_int Tryz.underlying3 k0
 obtain rfl : c0 = .int .i64 z := by simpa using e0
 obtain ⟨A, c, l, hs, -, hn, h3, h4⟩ := zbD (cells := lacells) (φ := fun l => LaM l ∧ LaD 9223372036854775807 l w) Tryz.underlying22 zfW (by decide) (fun n cs y _ h => zli h) k1
 rw [hs]
 exact ⟨⟨z, A, c, l⟩, rfl, hn, fun l hl => (h4 l hl).1, h3, fun l hl => (h4 l hl).2⟩
end
end Go.Proofs.YtikmgoefjbhcjaaGreatDoor
