/-
 What the rows of law 14 share: the one table out of the row's list, the world of the witness, the last step; nets as arguments. LowerTells returns true, whatever the input; no conditions: the row and its card.
-/
import Derived.Test.YtbodpgadcmnnbaaGreatDoorCards
import Derived.Test.YtbodpgadcmnnbaaGreatDoorTie
import Derived.Test.YtbodpgadcmnnbaaGreatDoorMI
import Derived.Deep.Slices
import Derived.Lib.SmallJoins
import Derived.WalkKit
import Derived.ProofKit
import Derived.OpenShut
import Derived.Deep.DeepHandedRow
import Derived.Lib.LaidTab
import Derived.Stop.LaidErr
import Derived.Carry
import Derived.ChangeMaps5
namespace Go.Proofs.YtbodpgadcmnnbaaGreatDoor
set_option maxHeartbeats 4000000
open Go.ChangeShapes Go.WideShapes Go.ChangeAt Go.RowKit Go.Deep

theorem own : ownKnob Tryz.prog.godebug = none := by kernel_rfl
def zic : List (String × DataW Unit) := [("math/bits.deBruijn64tab", Rows.laid_math_bits_deBruijn64tab)]

def zmN (cs : Array Value) : Obj → Obj
 | .cells _ t frozen => .cells cs t frozen
 | o => o
noncomputable def zdM (os : Os) : World :=
 { World.holding Tryz.prog os ⟨#[], #[], []⟩ with heap := (World.holding Tryz.prog os ⟨#[], #[], []⟩).heap.modify 5 (zmN #[.int .u8 0, .int .u8 1, .int .u8 56, .int .u8 2, .int .u8 57, .int .u8 49, .int .u8 28, .int .u8 3, .int .u8 61, .int .u8 58, .int .u8 42, .int .u8 50, .int .u8 38, .int .u8 29, .int .u8 17, .int .u8 4, .int .u8 62, .int .u8 47, .int .u8 59, .int .u8 36, .int .u8 45, .int .u8 43, .int .u8 51, .int .u8 22, .int .u8 53, .int .u8 39, .int .u8 33, .int .u8 30, .int .u8 24, .int .u8 18, .int .u8 12, .int .u8 5, .int .u8 63, .int .u8 55, .int .u8 48, .int .u8 27, .int .u8 60, .int .u8 41, .int .u8 37, .int .u8 16, .int .u8 46, .int .u8 35, .int .u8 44, .int .u8 21, .int .u8 52, .int .u8 32, .int .u8 23, .int .u8 11, .int .u8 54, .int .u8 26, .int .u8 40, .int .u8 15, .int .u8 34, .int .u8 20, .int .u8 31, .int .u8 10, .int .u8 25, .int .u8 14, .int .u8 19, .int .u8 9, .int .u8 13, .int .u8 8, .int .u8 7, .int .u8 6]) }

theorem ziC {H : Type} {enc : TypeId × Value → H} {f : Func} {s : ChangeSpec} {W W' : World} {args : Array Value} {ds : List (DataW H)} {before : List MemPlace}
 (hW : DataW.Whole enc Tryz.prog f.params.toList s.vars false W args.toList ds [] before) (hv : s.vars = []) (hr : f.resultTypes = #[4])
 (hfn : s.fn H (ds ++ []) = { results := [.lit (.bool true)], args := ds }) (hb : Below W.heap.size W W')
 (hargs : DataW.TrodAll enc Tryz.prog W' 0 (fun b => decide (b < W.heap.size)) true f.params.toList args.toList ds before) :
 s.post enc Tryz.prog f false true false false W args (.bool true) W' := by
 refine ⟨ds, [], before, [], before, [], hW, ?_, ?_, ?_, ?_, fun h => by cases h⟩
 ·rw [hfn, hr]
  exact trodAll_cons_mk (shut_bool Tryz.underlying4 _) trodAll_mk0
 ·rw [hfn]; exact hargs
 ·rw [hfn, hv]; exact rfl
 ·exact World.keptBut_mono (fun p hp => ⟨hp, .inr (.inl hp)⟩) (hb.frame (· ∈ before))

theorem gTz : Tryz.prog.globalNamed "math/bits.deBruijn64tab" = some 5 := by kernel_rfl
theorem zmn : (Tryz.prog.globals[(5 : Nat)]?).map (·.type) = some 205 := by kernel_rfl
theorem zlP : Tryz.prog.cellsOf 205 = 64 := by kernel_rfl
theorem zmj : Tryz.prog.cellsOf 5 = 1 := by kernel_rfl
theorem znI {W : World} (h : laidMetH Tryz.prog zic W) : Tz W := by
 have h1 := Lib.tabIs_of_head (rest := []) (zs := Lib.deBruijn64tab.map fun n : Nat => (n : Int)) gTz zmn Tryz.underlying205 Tryz.underlying5 zmj zlP (show laidMet Tryz.prog zic W from h)
 unfold Lib.TabIs World.var? at h1
 simp only [gTz, Option.bind_some] at h1
 intro j hj
 cases hh : W.heap[(5 : Nat)]? with
 | none => rw [hh] at h1; simp at h1
 | some o =>
  rw [hh] at h1
  cases o with
  | cells cs t fr =>
   have e : cs = ((Lib.deBruijn64tab.map fun n : Nat => (n : Int)).map fun z => Value.int .u8 z).toArray := by simpa using h1
   rw [Joins.cell_of_block hh, e]
   simp [List.getD, hj]
  | _ => simp at h1
theorem zma : laidOutB Tryz.prog = true := by kernel_rfl
theorem zjw : Tryz.prog.cellsOf 105 = 1 := by kernel_rfl
theorem zgu : Tryz.prog.cellsOf 41 = 2 := by kernel_rfl
def zlh : Value → Nat
 | .int _ z => z.toNat
 | _ => 0
theorem zg8 {w : World} {a : Addr} {v : Value} (h : w.cell? a = some v) : a.spot = none := by
 unfold World.cell? at h
 split at h
 ·split at h
  ·cases h
  ·rename_i h2; simpa using h2
 ·cases h
theorem ziR {H : Type} {enc : TypeId × Value → H} {W : World} {b : Nat} {sp : Nat → Bool} {hd : Bool} {n : Nat} {v : Value} {y : DataW H × List MemPlace} (h : DataW.trod enc Tryz.prog W b sp hd n 39 [v] = some y) :
 ∃ A c l, v = .slice A (List.length l) c ∧ l.length ≤ c ∧ c ≤ maxLen ∧ Rd W .u64 A l ∧ ∀ x ∈ l, x < B64 := by
 rcases open_slice1 Tryz.underlying39 zjw h with ⟨h1, -⟩ | ⟨a, len, cap, m, k, V, D, Pl, h1, -, hl, hm, hmm, -, hx⟩
 ·exact ⟨none, 0, [], by simpa using h1, by simp, by simp, Rd.nil_ _ _, by simp⟩
 ·have hlm : len ≤ m := by rw [hmm]; split <;> omega
  have hV : ∀ i, i < len → ∃ z : Nat, V i = .int .u64 (z : Int) ∧ z < B64 := fun i hi => by
   obtain ⟨z, h2, -, hw⟩ := DataW.trod_int Tryz.underlying105 (hx i (by omega)).2
   have hz := bounds_u64 hw
   refine ⟨z.toNat, ?_, by simp only [B64]; omega⟩
   have : V i = .int .u64 z := by simpa using h2
   rw [this, Int.toNat_of_nonneg hz.1]
  refine ⟨some a, cap, (List.range len).map fun i => zlh (V i), by simpa using h1, by simpa using hl, hm, ⟨?_, ?_⟩, ?_⟩
  ·intro h0
   have h0' : 0 < len := by simpa using h0
   have := zg8 (hx 0 (by omega)).1
   obtain ⟨ab, ao, asp⟩ := a
   have e : asp = none := by simpa [Addr.add] using this
   exact ⟨ab, ao, by rw [e]⟩
  ·intro i hi
   have hi' : i < len := by simpa using hi
   obtain ⟨z, hz, -⟩ := hV i hi'
   have hc := (hx i (by omega)).1
   have hs := zg8 (hx 0 (by omega)).1
   obtain ⟨ab, ao, asp⟩ := a
   have e : asp = none := by simpa [Addr.add] using hs
   subst e
   rw [zae] at hc
   rw [zaa, hc, hz]
   simp [nth, List.getD, hi', hz, zlh]
  ·intro x hx'
   obtain ⟨i, hi, rfl⟩ := List.mem_map.1 hx'
   obtain ⟨z, hz, hlt⟩ := hV i (by simpa using hi)
   rw [hz]
   simpa [zlh] using hlt
theorem zeP : Tryz.prog.cellsOf 43 = 4 := by kernel_rfl
theorem zid : Tryz.prog.cellsOf 4 = 1 := by kernel_rfl
theorem zh5 : Tryz.prog.cellsOf 39 = 1 := by kernel_rfl
theorem zfF {H : Type} {enc : TypeId × Value → H} {W : World} {b : Nat} {sp : Nat → Bool} {hd : Bool} {n : Nat} {v0 v1 : Value} {y : DataW H × List MemPlace} (h : DataW.trod enc Tryz.prog W b sp hd n 41 [v0, v1] = some y) :
 ∃ i : IV, v0 = .bool i.neg ∧ v1 = .slice i.A i.k i.c ∧ ∃ z, IntD i z 9223372036854775807 W := by
 obtain ⟨y0, y1, m, -, -, h0, h1⟩ := trod_struct2 Tryz.underlying41 h
 have k0 : DataW.trod enc Tryz.prog W b sp hd m 4 [v0] = some y0 := by simpa [zid] using h0
 have k1 : DataW.trod enc Tryz.prog W b sp hd m 39 [v1] = some y1 := by simpa [zh5] using h1
 obtain ⟨neg, h2, -⟩ := DataW.trod_bool Tryz.underlying4 k0
 obtain ⟨A, c, l, rfl, h3, h4, h5, h6⟩ := ziR k1
 obtain rfl : v0 = .bool neg := by simpa using h2
 exact ⟨⟨neg, A, l.length, c⟩, rfl, rfl, _, ⟨⟨l, rfl, h5, h6, rfl⟩, h3, Nat.le_trans h3 h4⟩⟩
theorem znB {α : Type} {l : List α} (h : l.length = 4) : ∃ a b c d, l = [a, b, c, d] := by
 match l, h with
 | [a, b, c, d], _ => exact ⟨a, b, c, d, rfl⟩
theorem znz {α : Type} {l : List α} (h : l.length = 5) : ∃ a b c d e, l = [a, b, c, d, e] := by
 match l, h with
 | [a, b, c, d, e], _ => exact ⟨a, b, c, d, e, rfl⟩
theorem zl8 {α : Type} {l : List α} (h : l.length = 1) : ∃ a, l = [a] := by
 match l, h with
 | [a], _ => exact ⟨a, rfl⟩
theorem zmz {α : Type} {x : Array α} (h : x.size = 2) : ∃ a b, x = #[a, b] := by
 obtain ⟨l⟩ := x
 match l, h with
 | [a, b], _ => exact ⟨a, b, rfl⟩
theorem zn6 {α : Type} {l : List α} (h : l.length = 13) : ∃ c0 c1 c2 c3 c4 c5 c6 c7 c8 c9 c10 c11 c12, l = [c0, c1, c2, c3, c4, c5, c6, c7, c8, c9, c10, c11, c12] := by
 match l, h with
 | [c0, c1, c2, c3, c4, c5, c6, c7, c8, c9, c10, c11, c12], _ => exact ⟨c0, c1, c2, c3, c4, c5, c6, c7, c8, c9, c10, c11, c12, rfl⟩
instance : Inhabited VeV := ⟨⟨none, 0, []⟩⟩
instance : Inhabited GrV := ⟨⟨none, 0, []⟩⟩
instance : Inhabited LaV := ⟨⟨0, none, 0, [], none, 0, [], 0, 0, 0, 0, 0, 0, 0, 0, none, 0, [], none, 0, []⟩⟩
instance : Inhabited TeV := ⟨⟨0, zf7, 0⟩⟩
section
variable {H : Type} {enc : TypeId × Value → H} {w : World} {b : Nat} {sp : Nat → Bool} {hd : Bool}
theorem zbQ {α : Type} [Inhabited α] {t e : TypeId} {k : Nat} {cells : α → Array Value} {φ : α → Prop} (ht : Tryz.prog.underlying t = some (.slice e)) (hc : Tryz.prog.cellsOf e = k) (hk : 0 < k)
 (hq : ∀ n cs y, cs.length = k → DataW.trod enc Tryz.prog w b sp hd n e cs = some y → ∃ x, cs = (cells x).toList ∧ φ x) {v : Value} {n : Nat} {y : DataW H × List MemPlace} (h : DataW.trod enc Tryz.prog w b sp hd n t [v] = some y) :
 ∃ A c l, v = .slice A (List.length l) c ∧ l.length ≤ c ∧ l.length ≤ 9223372036854775807 ∧ El w k A (l.map cells) ∧ ∀ x ∈ l, φ x := by
 subst hc
 rcases open_slice ht h with ⟨h1, -⟩ | ⟨a, len, cap, m, n, D, Pl, h1, -, hl, hm, hmm, hy, hx⟩
 ·exact ⟨none, 0, [], by simpa using h1, by simp, by simp, El.nil_ _ _ _, by simp⟩
 ·have hlm : len ≤ m := by rw [hmm]; split <;> omega
  obtain ⟨f, hf⟩ := choose_lt (n := len) (p := fun i x => w.cells? b (a.add (i * Tryz.prog.cellsOf e)) (Tryz.prog.cellsOf e) = some (cells x).toList ∧ φ x) fun i hi => by
   obtain ⟨cs, h2, h3⟩ := hx i (by omega)
   obtain ⟨x, rfl, h4⟩ := hq _ _ _ (World.cells?_some h2).2.1 h3
   exact ⟨x, h2, h4⟩
  have hce : ∀ i, i < len → (cells (f i)).size = Tryz.prog.cellsOf e ∧ ∀ j, j < Tryz.prog.cellsOf e → w.cell? ((a.add (i * Tryz.prog.cellsOf e)).add j) = (cells (f i))[j]? := fun i hi => by
   obtain ⟨-, h2, h3⟩ := World.cells?_some (hf i hi).1
   exact ⟨by simpa using h2, fun j hj => by simpa using h3 j hj⟩
  have hsp : 0 < len → a.spot = none := fun h0 => by
   obtain ⟨h2, h3⟩ := hce 0 h0
   have h4 := h3 0 hk
   have h5 : 0 < (cells (f 0)).size := by omega
   rw [Array.getElem?_eq_getElem h5] at h4
   have := zg8 h4
   simpa [Addr.add] using this
  refine ⟨some a, cap, (List.range len).map f, by simpa using h1, by simpa using hl, by rw [List.length_map, List.length_range]; exact Nat.le_trans hl hm, ⟨?_, ?_, ?_⟩, ?_⟩
  ·intro h0
   have h0' : 0 < len := by simpa using h0
   obtain ⟨ab, ao, asp⟩ := a
   have : asp = none := hsp h0'
   exact ⟨ab, ao, by rw [this]⟩
  ·intro i hi
   have hi' : i < len := by simpa using hi
   simpa using (hce i hi').1
  ·intro i hi j hj
   have hi' : i < len := by simpa using hi
   have hc := (hce i hi').2 j hj
   have hs := hsp (by omega)
   obtain ⟨ab, ao, asp⟩ := a
   have e : asp = none := hs
   subst e
   rw [zae, zae, Nat.add_assoc] at hc
   rw [zaa, hc]
   simp
  ·intro x hx'
   obtain ⟨i, hi, rfl⟩ := List.mem_map.1 hx'
   have hi' : i < len := by simpa using hi
   exact (hf i hi').2
theorem zfv : Tryz.prog.cellsOf 47 = 5 := by kernel_rfl
theorem zb9 : Tryz.prog.cellsOf 3 = 1 := by kernel_rfl
theorem zjK : Tryz.prog.cellsOf 45 = 1 := by kernel_rfl
theorem zig : Tryz.prog.cellsOf 34 = 1 := by kernel_rfl
theorem zfd : Tryz.prog.cellsOf 35 = 1 := by kernel_rfl
theorem zhS : Tryz.prog.cellsOf 48 = 1 := by kernel_rfl
theorem zkc : Tryz.prog.cellsOf 36 = 1 := by kernel_rfl
theorem zjm : Tryz.prog.cellsOf 33 = 1 := by kernel_rfl
theorem zgK : Tryz.prog.cellsOf 38 = 13 := by kernel_rfl
theorem zhW : Tryz.prog.cellsOf 22 = 1 := by kernel_rfl
theorem zjE : Tryz.prog.cellsOf 24 = 2 := by kernel_rfl
theorem zii {n : Nat} {cs : List Value} {y : DataW H × List MemPlace} (h : DataW.trod enc Tryz.prog w b sp hd n 43 cs = some y) : ∃ p : RV × Rat, cs = (rtcells p).toList ∧ roD 9223372036854775807 p w := by
 obtain ⟨y0, y1, m, -, hl, h0, h1⟩ := trod_struct2 Tryz.underlying43 h
 rw [zeP] at hl
 obtain ⟨c0, c1, c2, c3, rfl⟩ := znB hl
 have k0 : DataW.trod enc Tryz.prog w b sp hd m 41 [c0, c1] = some y0 := by simpa [zgu] using h0
 have k1 : DataW.trod enc Tryz.prog w b sp hd m 41 [c2, c3] = some y1 := by simpa [zgu] using h1
 obtain ⟨i, rfl, rfl, x, hx⟩ := zfF k0
 obtain ⟨j, rfl, rfl, y', hy⟩ := zfF k1
 exact ⟨(⟨i, j⟩, if j.k = 0 then Rat.divInt x 1 else Rat.divInt x y'), rfl, ⟨x, y', hx, hy, rfl⟩⟩
theorem zjh {n : Nat} {v : Value} {y : DataW H × List MemPlace} (h : DataW.trod enc Tryz.prog w b sp hd n 35 [v] = some y) : ∃ A c l, v = .slice A (List.length l) c ∧ l.length ≤ 9223372036854775807 ∧ LsR 4 rtcells (roD 9223372036854775807) A l w := by
 obtain ⟨A, c, l, h1, -, h2, h3, h4⟩ := zbQ (cells := rtcells) (φ := fun p => roD 9223372036854775807 p w) Tryz.underlying35 zeP (by decide) (fun n cs y _ h => zii h) h
 exact ⟨A, c, l, h1, h2, h3, h4⟩
theorem zk4 {n : Nat} {cs : List Value} {y : DataW H × List MemPlace} (h : DataW.trod enc Tryz.prog w b sp hd n 47 cs = some y) : ∃ t : TeV, cs = (tecells t).toList ∧ teD 9223372036854775807 t w := by
 obtain ⟨y0, y1, m, -, hl, h0, h1⟩ := trod_struct2 Tryz.underlying47 h
 rw [zfv] at hl
 obtain ⟨c0, c1, c2, c3, c4, rfl⟩ := znz hl
 have k0 : DataW.trod enc Tryz.prog w b sp hd m 3 [c0] = some y0 := by simpa [zb9] using h0
 have k1 : DataW.trod enc Tryz.prog w b sp hd m 43 [c1, c2, c3, c4] = some y1 := by simpa [zeP] using h1
 obtain ⟨z, e0, -, -⟩ := DataW.trod_int Tryz.underlying3 k0
 obtain ⟨p, e, hp⟩ := zii k1
 obtain rfl : c0 = .int .i64 z := by simpa using e0
 exact ⟨⟨z, p.1, p.2⟩, by rw [e]; rfl, hp⟩
theorem zlI {n : Nat} {cs : List Value} {y : DataW H × List MemPlace} (hl : cs.length = 1) (h : DataW.trod enc Tryz.prog w b sp hd n 45 cs = some y) : ∃ v : VeV, cs = (vecells v).toList ∧ v.ts.length ≤ 9223372036854775807 ∧ veF (teD 9223372036854775807) v w := by
 obtain ⟨v, rfl⟩ := zl8 hl
 obtain ⟨A, c, l, h1, -, h2, h3, h4⟩ := zbQ (cells := tecells) (φ := fun t => teD 9223372036854775807 t w) Tryz.underlying45 zfv (by decide) (fun n cs y _ h => zk4 h) h
 exact ⟨⟨A, c, l⟩, by rw [h1]; rfl, h2, h3, h4⟩
theorem zlC {n : Nat} {v : Value} {y : DataW H × List MemPlace} (h : DataW.trod enc Tryz.prog w b sp hd n 34 [v] = some y) : ∃ A c l, v = .slice A (List.length l) c ∧ l.length ≤ 9223372036854775807 ∧ (∀ v ∈ l, v.ts.length ≤ 9223372036854775807) ∧ LsR 1 vecells (veF (teD 9223372036854775807)) A l w := by
 obtain ⟨A, c, l, h1, -, h2, h3, h4⟩ := zbQ (cells := vecells) (φ := fun v => v.ts.length ≤ 9223372036854775807 ∧ veF (teD 9223372036854775807) v w) Tryz.underlying34 zjK (by decide) (fun n cs y hl h => zlI hl h) h
 exact ⟨A, c, l, h1, h2, fun v hv => (h4 v hv).1, h3, fun v hv => (h4 v hv).2⟩
theorem zl9 {n : Nat} {cs : List Value} {y : DataW H × List MemPlace} (hl : cs.length = 1) (h : DataW.trod enc Tryz.prog w b sp hd n 3 cs = some y) : ∃ z : Int, cs = (icells z).toList ∧ True := by
 obtain ⟨v, rfl⟩ := zl8 hl
 obtain ⟨z, e0, -, -⟩ := DataW.trod_int Tryz.underlying3 h
 obtain rfl : v = .int .i64 z := by simpa using e0
 exact ⟨z, rfl, trivial⟩
theorem zmZ {n : Nat} {cs : List Value} {y : DataW H × List MemPlace} (hl : cs.length = 1) (h : DataW.trod enc Tryz.prog w b sp hd n 48 cs = some y) : ∃ g : GrV, cs = (grcells g).toList ∧ g.l.length ≤ 9223372036854775807 ∧ grD g w := by
 obtain ⟨v, rfl⟩ := zl8 hl
 obtain ⟨A, c, l, h1, -, h2, h3, h4⟩ := zbQ (cells := icells) (φ := fun _ => True) Tryz.underlying48 zb9 (by decide) (fun n cs y hl h => zl9 hl h) h
 exact ⟨⟨A, c, l⟩, by rw [h1]; rfl, h2, h3, h4⟩
theorem zn2 {n : Nat} {v : Value} {y : DataW H × List MemPlace} (h : DataW.trod enc Tryz.prog w b sp hd n 36 [v] = some y) : ∃ A c l, v = .slice A (List.length l) c ∧ l.length ≤ 9223372036854775807 ∧ (∀ g ∈ l, g.l.length ≤ 9223372036854775807) ∧ LsR 1 grcells grD A l w := by
 obtain ⟨A, c, l, h1, -, h2, h3, h4⟩ := zbQ (cells := grcells) (φ := fun g => g.l.length ≤ 9223372036854775807 ∧ grD g w) Tryz.underlying36 zhS (by decide) (fun n cs y hl h => zmZ hl h) h
 exact ⟨A, c, l, h1, h2, fun v hv => (h4 v hv).1, h3, fun v hv => (h4 v hv).2⟩
theorem zeA {P : Program} {t : TypeId} {f0 f1 f2 f3 f4 f5 f6 f7 f8 f9 f10 f11 f12 : Field} {fuel : Nat} {cs : List Value} {x : DataW H × List MemPlace} (ht : P.underlying t = some (.struct #[f0, f1, f2, f3, f4, f5, f6, f7, f8, f9, f10, f11, f12])) (h : DataW.trod enc P w b sp hd fuel t cs = some x) :
 ∃ y0 y1 y2 y3 y4 y5 y6 y7 y8 y9 y10 y11 y12 n, cs.length = P.cellsOf t ∧ DataW.trod enc P w b sp hd n f0.type ((cs.drop f0.offset).take (P.cellsOf f0.type)) = some y0 ∧ DataW.trod enc P w b sp hd n f1.type ((cs.drop f1.offset).take (P.cellsOf f1.type)) = some y1 ∧ DataW.trod enc P w b sp hd n f2.type ((cs.drop f2.offset).take (P.cellsOf f2.type)) = some y2 ∧ DataW.trod enc P w b sp hd n f3.type ((cs.drop f3.offset).take (P.cellsOf f3.type)) = some y3 ∧ DataW.trod enc P w b sp hd n f4.type ((cs.drop f4.offset).take (P.cellsOf f4.type)) = some y4 ∧ DataW.trod enc P w b sp hd n f5.type ((cs.drop f5.offset).take (P.cellsOf f5.type)) = some y5 ∧ DataW.trod enc P w b sp hd n f6.type ((cs.drop f6.offset).take (P.cellsOf f6.type)) = some y6 ∧ DataW.trod enc P w b sp hd n f7.type ((cs.drop f7.offset).take (P.cellsOf f7.type)) = some y7 ∧ DataW.trod enc P w b sp hd n f8.type ((cs.drop f8.offset).take (P.cellsOf f8.type)) = some y8 ∧ DataW.trod enc P w b sp hd n f9.type ((cs.drop f9.offset).take (P.cellsOf f9.type)) = some y9 ∧ DataW.trod enc P w b sp hd n f10.type ((cs.drop f10.offset).take (P.cellsOf f10.type)) = some y10 ∧ DataW.trod enc P w b sp hd n f11.type ((cs.drop f11.offset).take (P.cellsOf f11.type)) = some y11 ∧ DataW.trod enc P w b sp hd n f12.type ((cs.drop f12.offset).take (P.cellsOf f12.type)) = some y12 := by
 obtain ⟨xs, n, _, rfl, hl, hlen, hf⟩ := DataW.trod_struct ht h
 match xs, hlen with
 | [y0, y1, y2, y3, y4, y5, y6, y7, y8, y9, y10, y11, y12], _ => exact ⟨y0, y1, y2, y3, y4, y5, y6, y7, y8, y9, y10, y11, y12, n, hl, by simpa using hf 0 f0 rfl, by simpa using hf 1 f1 rfl, by simpa using hf 2 f2 rfl, by simpa using hf 3 f3 rfl, by simpa using hf 4 f4 rfl, by simpa using hf 5 f5 rfl, by simpa using hf 6 f6 rfl, by simpa using hf 7 f7 rfl, by simpa using hf 8 f8 rfl, by simpa using hf 9 f9 rfl, by simpa using hf 10 f10 rfl, by simpa using hf 11 f11 rfl, by simpa using hf 12 f12 rfl⟩
set_option maxRecDepth 100000 in
theorem zlw {n : Nat} {cs : List Value} {y : DataW H × List MemPlace} (h : DataW.trod enc Tryz.prog w b sp hd n 38 cs = some y) : ∃ l : LaV, cs = (lacells l).toList ∧ LaM l ∧ LaD 9223372036854775807 l w := by
 obtain ⟨y0, y1, y2, y3, y4, y5, y6, y7, y8, y9, y10, y11, y12, m, hl, h0, h1, h2, h3, h4, h5, h6, h7, h8, h9, h10, h11, h12⟩ := zeA Tryz.underlying38 h
 rw [zgK] at hl
 obtain ⟨c0, c1, c2, c3, c4, c5, c6, c7, c8, c9, c10, c11, c12, rfl⟩ := zn6 hl
 have k0 : DataW.trod enc Tryz.prog w b sp hd m 33 [c0] = some y0 := by simpa [zjm] using h0
 have k1 : DataW.trod enc Tryz.prog w b sp hd m 34 [c1] = some y1 := by simpa [zig] using h1
 have k2 : DataW.trod enc Tryz.prog w b sp hd m 35 [c2] = some y2 := by simpa [zfd] using h2
 have k3 : DataW.trod enc Tryz.prog w b sp hd m 3 [c3] = some y3 := by simpa [zb9] using h3
 have k4 : DataW.trod enc Tryz.prog w b sp hd m 3 [c4] = some y4 := by simpa [zb9] using h4
 have k5 : DataW.trod enc Tryz.prog w b sp hd m 3 [c5] = some y5 := by simpa [zb9] using h5
 have k6 : DataW.trod enc Tryz.prog w b sp hd m 3 [c6] = some y6 := by simpa [zb9] using h6
 have k7 : DataW.trod enc Tryz.prog w b sp hd m 3 [c7] = some y7 := by simpa [zb9] using h7
 have k8 : DataW.trod enc Tryz.prog w b sp hd m 3 [c8] = some y8 := by simpa [zb9] using h8
 have k9 : DataW.trod enc Tryz.prog w b sp hd m 3 [c9] = some y9 := by simpa [zb9] using h9
 have k10 : DataW.trod enc Tryz.prog w b sp hd m 3 [c10] = some y10 := by simpa [zb9] using h10
 have k11 : DataW.trod enc Tryz.prog w b sp hd m 35 [c11] = some y11 := by simpa [zfd] using h11
 have k12 : DataW.trod enc Tryz.prog w b sp hd m 36 [c12] = some y12 := by simpa [zkc] using h12
 obtain ⟨z0, e0, -, -⟩ := DataW.trod_int Tryz.underlying33 k0
 obtain rfl : c0 = .int .u8 z0 := by simpa using e0
 obtain ⟨z3, e3, -, -⟩ := DataW.trod_int Tryz.underlying3 k3
 obtain rfl : c3 = .int .i64 z3 := by simpa using e3
 obtain ⟨z4, e4, -, -⟩ := DataW.trod_int Tryz.underlying3 k4
 obtain rfl : c4 = .int .i64 z4 := by simpa using e4
 obtain ⟨z5, e5, -, -⟩ := DataW.trod_int Tryz.underlying3 k5
 obtain rfl : c5 = .int .i64 z5 := by simpa using e5
 obtain ⟨z6, e6, -, -⟩ := DataW.trod_int Tryz.underlying3 k6
 obtain rfl : c6 = .int .i64 z6 := by simpa using e6
 obtain ⟨z7, e7, -, -⟩ := DataW.trod_int Tryz.underlying3 k7
 obtain rfl : c7 = .int .i64 z7 := by simpa using e7
 obtain ⟨z8, e8, -, -⟩ := DataW.trod_int Tryz.underlying3 k8
 obtain rfl : c8 = .int .i64 z8 := by simpa using e8
 obtain ⟨z9, e9, -, -⟩ := DataW.trod_int Tryz.underlying3 k9
 obtain rfl : c9 = .int .i64 z9 := by simpa using e9
 obtain ⟨z10, e10, -, -⟩ := DataW.trod_int Tryz.underlying3 k10
 obtain rfl : c10 = .int .i64 z10 := by simpa using e10
 obtain ⟨A1, q1, l1, rfl, n1, m1, g1⟩ := zlC k1
 obtain ⟨A2, q2, l2, rfl, n2, g2⟩ := zjh k2
 obtain ⟨A3, q3, l3, rfl, n3, g3⟩ := zjh k11
 obtain ⟨A4, q4, l4, rfl, n4, m4, g4⟩ := zn2 k12
 exact ⟨⟨z0, A1, q1, l1, A2, q2, l2, z3, z4, z5, z6, z7, z8, z9, z10, A3, q3, l3, A4, q4, l4⟩, rfl, ⟨n1, m1, n2, n3, n4, m4⟩, ⟨g1, g2, g3, g4⟩⟩
set_option maxRecDepth 100000 in
theorem zli {b0 : Nat} {rr : Reach} {v : Value} {d : DataW H} {p : List MemPlace} (hv : Value.okWide Tryz.prog w rr b0 24 v) (h : DataW.Trod enc Tryz.prog w b sp hd 24 v d p) :
 ∃ f : NeV, v = .agg #[.int .i64 f.inputs, .slice f.A f.las.length f.c] ∧ f.las.length ≤ 9223372036854775807 ∧ (∀ l ∈ f.las, LaM l) ∧ NeD 9223372036854775807 f w := by
 obtain ⟨cs, rfl, hsz⟩ := okWide_struct Tryz.underlying24 hv
 obtain ⟨c0, c1, rfl⟩ := zmz (hsz.trans zjE)
 obtain ⟨fuel, hf⟩ := h
 obtain ⟨y0, y1, n, -, -, h0, h1⟩ := trod_struct2 Tryz.underlying24 hf
 have k0 : DataW.trod enc Tryz.prog w b sp hd n 3 [c0] = some y0 := by simpa [Value.cells, zb9] using h0
 have k1 : DataW.trod enc Tryz.prog w b sp hd n 22 [c1] = some y1 := by simpa [Value.cells, zhW] using h1
 obtain ⟨z, e0, -, -⟩ := DataW.trod_int Tryz.underlying3 k0
 obtain rfl : c0 = .int .i64 z := by simpa using e0
 obtain ⟨A, c, l, hs, -, hn, h3, h4⟩ := zbQ (cells := lacells) (φ := fun l => LaM l ∧ LaD 9223372036854775807 l w) Tryz.underlying22 zgK (by decide) (fun n cs y _ h => zlw h) k1
 rw [hs]
 exact ⟨⟨z, A, c, l⟩, rfl, hn, fun l hl => (h4 l hl).1, h3, fun l hl => (h4 l hl).2⟩
end
end Go.Proofs.YtbodpgadcmnnbaaGreatDoor
namespace Go.Proofs.YtbodpgadcmnnbaaGreatDoor.lowerTells
set_option maxHeartbeats 4000000
open Go.ChangeShapes Go.WideShapes Go.ChangeAt Go.RowKit Go.ChangeMaps

set_option maxRecDepth 100000 in
theorem zjx (H : Type) (enc : TypeId × Value → H) (W : World) (base : Nat) (args : Array Value) (ds gs : List (DataW H)) (before : List MemPlace)
 (hval : ∀ (j : Nat) t v, Tryz.f3.params[j]? = some t → args[j]? = some v → Value.okWide Tryz.prog W .any base t v)
 (hW : DataW.Whole enc Tryz.prog Tryz.f3.params.toList Rows.lowerTellsSpec.vars false W args.toList ds gs before) (hL : laidMetH Tryz.prog Rows.lowerTellsRow.laid W) :
 Calls Tryz.prog 3 args W fun e W' => ∃ v, e = .returned v ∧ Rows.lowerTellsSpec.post enc Tryz.prog Tryz.f3 false true false false W args v W' := by
 have hW' := hW
 have hlt := hW.lt
 obtain ⟨p, q, hA, hV, rfl, hfz, hnd⟩ := hW
 obtain ⟨rfl, rfl⟩ := trodVars_none hV
 rw [Tryz.params3] at hA
 obtain ⟨v0, vs0, d0, ds0, p0, q0, hargs, rfl, rfl, h0, t0⟩ := trodAll_cons hA
 obtain ⟨rfl, rfl, rfl⟩ := trodAll_nil t0
 obtain rfl : args = #[v0] := by cases args; simp_all
 obtain ⟨f0, rfl, hn0, hm0, x0⟩ := zli (hval 0 _ v0 (by rw [Tryz.params3]; rfl) rfl) h0
 refine (ze6 W 9223372036854775807 f0 x0 hm0 hn0 (znI hL)).mono fun e W' ⟨he, hb⟩ => ?_
 subst he
 exact ⟨_, rfl, ziC hW' rfl rfl rfl hb (by rw [Tryz.params3]; simpa only [List.append_nil] using trodAll_cons_mk (Below.trod zma (by kernel_rfl) (of_decide_eq_true (by kernel_rfl)) h0 hb (fun x hx => hlt x (by simp [hx]))) (trodAll_mk0))⟩

theorem zk2 (os : Os) : laidMet Tryz.prog Rows.lowerTellsRow.laid ((zdM os).forCall (fun _ _ => 0) ⟨#[], #[.agg #[.int .i64 0, .slice none 0 0]], []⟩).memory :=
 laidMet_of_run' 8 (by kernel_rfl) (by kernel_rfl)
theorem reads (os : Os) {H : Type} (enc : TypeId × Value → H) : ∃ places, DataW.whole enc Tryz.prog ((zdM os).forCall (fun _ _ => 0) ⟨#[], #[.agg #[.int .i64 0, .slice none 0 0]], []⟩).memory Tryz.f3.params.toList Rows.lowerTellsSpec.vars false (#[.agg #[.int .i64 0, .slice none 0 0]] : Array Value).toList 8 = some ([.agg [.lit (.int .i64 0), .nil]], [], places) :=
 ⟨[], by kernel_rfl⟩

set_option maxRecDepth 100000 in
theorem zmE (os : Os) (started : os.Started) (H : Type) (enc : TypeId × Value → H) (F : Stop.Interp) :
 ReturnsInHanded {} Tryz.checked os 3 .any ((OpenSpec.ofChange Rows.lowerTellsSpec).preRow enc Tryz.prog Tryz.f3 Rows.lowerTellsRow.domain false Rows.lowerTellsRow.laid) (((OpenSpec.ofChange Rows.lowerTellsSpec).at F).post enc Tryz.prog Tryz.f3 false true false false) := by
 obtain ⟨places, hx⟩ := reads os enc
 refine returnsInHanded_of_row (C := Tryz.checked) (s := OpenSpec.ofChange Rows.lowerTellsSpec) own started (by kernel_rfl) Tryz.func3
  (witness_row_at (enc := enc) (C := Tryz.checked) false (zdM os) #[.agg #[.int .i64 0, .slice none 0 0]] rfl (by kernel_rfl) (by kernel_rfl) (by kernel_rfl)
   (OpenSpec.preRow_of_cond 8 hx (by kernel_rfl) (fun k hk => by cases hk) (by kernel_rfl) (zk2 os))) ?_
 intro W base args ds gs before hval hW _ _ _ hL _ _
 exact zjx H enc W base args ds gs before hval hW hL

theorem zns {a b : Bool} (h : a = true) (h' : b = true) : (a && b) = true := by rw [h, h']; rfl
theorem zl3 : joinedFacts Tryz.pinned.checked.prog 3 Tryz.f3 (OpenSpec.ofChange Rows.lowerTellsSpec).bare Rows.lowerTellsRow = true := by
 unfold joinedFacts
 repeat' (with_reducible refine zns ?_ ?_)
 all_goals (as_aux_lemma => kernel_rfl)
theorem said : Rows.LowerTellsSaid :=
 OpenClaim.holds_of_cond 3 Tryz.f3 rfl rfl rfl rfl rfl rfl rfl ⟨rfl, rfl, rfl, rfl, rfl⟩ rfl rfl rfl rfl rfl (by kernel_rfl) Tryz.func3 zl3
  (of_decide_eq_true (by kernel_rfl)) (by unfold Func.isWrapper; first | (rw [if_pos (by decide +kernel)]; kernel_rfl) | (rw [if_neg (by decide +kernel)]; exact ⟨rfl, rfl⟩))
  (fun os started H enc _ F => by rw [OpenClaim.pre_eq_preRow]; exact zmE os started H enc F)

theorem plain (f : FuncId) (fn : Func) (hf : Tryz.pinned.checked.prog.funcNamed "tripwire/tripwirelaw14.LowerTells" = some f) (hfn : Tryz.pinned.checked.prog.funcs[f]? = some fn) :
 false = Tryz.pinned.checked.prog.looks [] ∧ ∀ (j : Nat) t, fn.params[j]? = some t → Tryz.pinned.checked.prog.wantsStandIn t = false := by
 obtain rfl : f = 3 := Option.some.inj ((show Tryz.prog.funcNamed "tripwire/tripwirelaw14.LowerTells" = some 3 by kernel_rfl).symm.trans hf) |>.symm
 obtain rfl : fn = Tryz.f3 := (Option.some.inj (Tryz.func3.symm.trans hfn)).symm
 refine ⟨by kernel_rfl, fun j t ht => ?_⟩
 rw [Tryz.params3] at ht
 match j, ht with
 | 0, ht => have e := Option.some.inj ht; rw [← e]; exact (show Tryz.prog.wantsStandIn 24 = false by kernel_rfl)
 | n + 1, ht => simp at ht

theorem card : Rows.LowerTellsCardSaid :=
 Claim7.holds_tied_plain_at .later [] _ _ _ _ said (fun _ h => by cases h) (by kernel_rfl) (fun _ h => by cases h) lowerTells_row_tie rfl ⟨rfl, rfl⟩ (by kernel_rfl) rfl plain (by kernel_rfl)
end Go.Proofs.YtbodpgadcmnnbaaGreatDoor.lowerTells
#print axioms Go.Proofs.YtbodpgadcmnnbaaGreatDoor.lowerTells.card
