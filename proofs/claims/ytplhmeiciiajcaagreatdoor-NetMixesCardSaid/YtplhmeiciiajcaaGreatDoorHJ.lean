/-
 What the rows of law 13 share: the tables out of the row's list, the world of the witness, the last step; nets and numbers as arguments.
-/
import Derived.Test.YtplhmeiciiajcaaGreatDoorCards
import Derived.Test.YtplhmeiciiajcaaGreatDoorTie
import Derived.Test.YtplhmeiciiajcaaGreatDoorHL
import Derived.Deep.Slices
import Derived.Lib.SmallJoins
import Derived.WalkKit
import Derived.ProofKit
import Derived.OpenShut
import Derived.Deep.DeepHandedRow
import Derived.Lib.LaidTab
import Derived.Stop.LaidErr
import Derived.Carry
namespace Go.Proofs.YtplhmeiciiajcaaGreatDoor
open Go.ChangeShapes Go.WideShapes Go.ChangeAt Go.RowKit Go.Deep

theorem own : ownKnob Tryz.prog.godebug = none := by kernel_rfl
theorem gPowType : (Tryz.prog.globals[(2 : Nat)]?).map (·.type) = some 200 := by kernel_rfl
theorem cellsPow : Tryz.prog.cellsOf 200 = 20 := by kernel_rfl
theorem cellsU64 : Tryz.prog.cellsOf 60 = 1 := by kernel_rfl
def rowLaid : List (String × DataW Unit) := [("math/bits.deBruijn32tab", Rows.laid_math_bits_deBruijn32tab), ("math/bits.deBruijn64tab", Rows.laid_math_bits_deBruijn64tab), ("internal/strconv.uint64pow10", Rows.laid_internal_strconv_uint64pow10)]
theorem tab_of {W : World} (h : laidMetH Tryz.prog rowLaid W) : Tab W :=
 Lib.tabIs_of_head (rest := []) (zs := Lib.pow10Tab) gPow gPowType Tryz.underlying200 Tryz.underlying60 cellsU64 cellsPow (laidMet.tail (laidMet.tail (show laidMet Tryz.prog rowLaid W from h)))

def layTab (cs : Array Value) : Obj → Obj
 | .cells _ t frozen => .cells cs t frozen
 | o => o
noncomputable def laidWorld (os : Os) : World :=
 { World.holding Tryz.prog os ⟨#[], #[], []⟩ with heap := (((World.holding Tryz.prog os ⟨#[], #[], []⟩).heap.modify 4 (layTab #[.int .u8 0, .int .u8 1, .int .u8 28, .int .u8 2, .int .u8 29, .int .u8 14, .int .u8 24, .int .u8 3, .int .u8 30, .int .u8 22, .int .u8 20, .int .u8 15, .int .u8 25, .int .u8 17, .int .u8 4, .int .u8 8, .int .u8 31, .int .u8 27, .int .u8 13, .int .u8 23, .int .u8 21, .int .u8 19, .int .u8 16, .int .u8 7, .int .u8 26, .int .u8 12, .int .u8 18, .int .u8 6, .int .u8 11, .int .u8 5, .int .u8 10, .int .u8 9])).modify 5 (layTab #[.int .u8 0, .int .u8 1, .int .u8 56, .int .u8 2, .int .u8 57, .int .u8 49, .int .u8 28, .int .u8 3, .int .u8 61, .int .u8 58, .int .u8 42, .int .u8 50, .int .u8 38, .int .u8 29, .int .u8 17, .int .u8 4, .int .u8 62, .int .u8 47, .int .u8 59, .int .u8 36, .int .u8 45, .int .u8 43, .int .u8 51, .int .u8 22, .int .u8 53, .int .u8 39, .int .u8 33, .int .u8 30, .int .u8 24, .int .u8 18, .int .u8 12, .int .u8 5, .int .u8 63, .int .u8 55, .int .u8 48, .int .u8 27, .int .u8 60, .int .u8 41, .int .u8 37, .int .u8 16, .int .u8 46, .int .u8 35, .int .u8 44, .int .u8 21, .int .u8 52, .int .u8 32, .int .u8 23, .int .u8 11, .int .u8 54, .int .u8 26, .int .u8 40, .int .u8 15, .int .u8 34, .int .u8 20, .int .u8 31, .int .u8 10, .int .u8 25, .int .u8 14, .int .u8 19, .int .u8 9, .int .u8 13, .int .u8 8, .int .u8 7, .int .u8 6])).modify 2 (layTab #[.int .u64 1, .int .u64 10, .int .u64 100, .int .u64 1000, .int .u64 10000, .int .u64 100000, .int .u64 1000000, .int .u64 10000000, .int .u64 100000000, .int .u64 1000000000, .int .u64 10000000000, .int .u64 100000000000, .int .u64 1000000000000, .int .u64 10000000000000, .int .u64 100000000000000, .int .u64 1000000000000000, .int .u64 10000000000000000, .int .u64 100000000000000000, .int .u64 1000000000000000000, .int .u64 10000000000000000000]) }

theorem post_kept {H : Type} {enc : TypeId × Value → H} {f : Func} {s : ChangeSpec} {W W' : World} {args : Array Value} {ds : List (DataW H)} {before : List MemPlace}
 (hW : DataW.Whole enc Tryz.prog f.params.toList s.vars false W args.toList ds [] before) (hv : s.vars = []) (hr : f.resultTypes = #[4])
 (hfn : s.fn H (ds ++ []) = { results := [.lit (.bool true)], args := ds }) (hb : Below W.heap.size W W')
 (hargs : DataW.TrodAll enc Tryz.prog W' 0 (fun b => decide (b < W.heap.size)) true f.params.toList args.toList ds before) :
 s.post enc Tryz.prog f false true false false W args (.bool true) W' := by
 refine ⟨ds, [], before, [], before, [], hW, ?_, ?_, ?_, ?_, fun h => by cases h⟩
 ·rw [hfn, hr]
  exact trodAll_cons_mk (shut_bool Tryz.underlying4 _) trodAll_mk0
 ·rw [hfn]; exact hargs
 ·rw [hfn, hv]; exact rfl
 ·exact World.keptBut_mono (fun p hp => ⟨hp, .inr (.inl hp)⟩) (hb.frame (· ∈ before))

theorem gTz : Tryz.prog.globalNamed "math/bits.deBruijn64tab" = some 5 := by kernel_rfl
theorem gTzType : (Tryz.prog.globals[(5 : Nat)]?).map (·.type) = some 212 := by kernel_rfl
theorem cellsTz : Tryz.prog.cellsOf 212 = 64 := by kernel_rfl
theorem cellsU8 : Tryz.prog.cellsOf 5 = 1 := by kernel_rfl
theorem tz_of {W : World} (h : laidMetH Tryz.prog rowLaid W) : Tz W := by
 have h1 := Lib.tabIs_of_head (rest := [("internal/strconv.uint64pow10", Rows.laid_internal_strconv_uint64pow10)]) (zs := Lib.deBruijn64tab.map fun n : Nat => (n : Int)) gTz gTzType Tryz.underlying212 Tryz.underlying5 cellsU8 cellsTz (laidMet.tail (show laidMet Tryz.prog rowLaid W from h))
 unfold Lib.TabIs World.var? at h1
 simp only [gTz, Option.bind_some] at h1
 intro j hj
 cases hh : W.heap[(5 : Nat)]? with
 | none => rw [hh] at h1; simp at h1
 | some o =>
  rw [hh] at h1
  cases o with
  | cells cs t fr =>
   have e : cs = ((Lib.deBruijn64tab.map fun n : Nat => (n : Int)).map fun z => Value.int .u8 z).toArray := by simpa using h1
   rw [Joins.cell_of_block hh, e]
   simp [List.getD, hj]
  | _ => simp at h1
theorem laidOut : laidOutB Tryz.prog = true := by kernel_rfl
theorem cellsInt : Tryz.prog.cellsOf 28 = 2 := by kernel_rfl
def natOf : Value → Nat
 | .int _ z => z.toNat
 | _ => 0
theorem spot_of {w : World} {a : Addr} {v : Value} (h : w.cell? a = some v) : a.spot = none := by
 unfold World.cell? at h
 split at h
 ·split at h
  ·cases h
  ·rename_i h2; simpa using h2
 ·cases h
theorem words_arg {H : Type} {enc : TypeId × Value → H} {W : World} {b : Nat} {sp : Nat → Bool} {hd : Bool} {n : Nat} {v : Value} {y : DataW H × List MemPlace} (h : DataW.trod enc Tryz.prog W b sp hd n 26 [v] = some y) :
 ∃ A c l, v = .slice A (List.length l) c ∧ l.length ≤ c ∧ c ≤ maxLen ∧ Rd W .u64 A l ∧ ∀ x ∈ l, x < B64 := by
 rcases open_slice1 Tryz.underlying26 cellsU64 h with ⟨h1, -⟩ | ⟨a, len, cap, m, k, V, D, Pl, h1, -, hl, hm, hmm, -, hx⟩
 ·exact ⟨none, 0, [], by simpa using h1, by simp, by simp, Rd.nil_ _ _, by simp⟩
 ·have hlm : len ≤ m := by rw [hmm]; split <;> omega
  have hV : ∀ i, i < len → ∃ z : Nat, V i = .int .u64 (z : Int) ∧ z < B64 := fun i hi => by
   obtain ⟨z, h2, -, hw⟩ := DataW.trod_int Tryz.underlying60 (hx i (by omega)).2
   have hz := bounds_u64 hw
   refine ⟨z.toNat, ?_, by simp only [B64]; omega⟩
   have : V i = .int .u64 z := by simpa using h2
   rw [this, Int.toNat_of_nonneg hz.1]
  refine ⟨some a, cap, (List.range len).map fun i => natOf (V i), by simpa using h1, by simpa using hl, hm, ⟨?_, ?_⟩, ?_⟩
  ·intro h0
   have h0' : 0 < len := by simpa using h0
   have := spot_of (hx 0 (by omega)).1
   obtain ⟨ab, ao, asp⟩ := a
   have e : asp = none := by simpa [Addr.add] using this
   exact ⟨ab, ao, by rw [e]⟩
  ·intro i hi
   have hi' : i < len := by simpa using hi
   obtain ⟨z, hz, -⟩ := hV i hi'
   have hc := (hx i (by omega)).1
   have hs := spot_of (hx 0 (by omega)).1
   obtain ⟨ab, ao, asp⟩ := a
   have e : asp = none := by simpa [Addr.add] using hs
   subst e
   rw [add_one_cell] at hc
   rw [adr_some, hc, hz]
   simp [nth, List.getD, hi', hz, natOf]
  ·intro x hx'
   obtain ⟨i, hi, rfl⟩ := List.mem_map.1 hx'
   obtain ⟨z, hz, hlt⟩ := hV i (by simpa using hi)
   rw [hz]
   simpa [natOf] using hlt
theorem cellsRat : Tryz.prog.cellsOf 30 = 4 := by kernel_rfl
theorem cellsBool : Tryz.prog.cellsOf 4 = 1 := by kernel_rfl
theorem cellsWords : Tryz.prog.cellsOf 26 = 1 := by kernel_rfl
theorem int_cells {H : Type} {enc : TypeId × Value → H} {W : World} {b : Nat} {sp : Nat → Bool} {hd : Bool} {n : Nat} {v0 v1 : Value} {y : DataW H × List MemPlace} (h : DataW.trod enc Tryz.prog W b sp hd n 28 [v0, v1] = some y) :
 ∃ i : IV, v0 = .bool i.neg ∧ v1 = .slice i.A i.k i.c ∧ ∃ z, IntD i z 9223372036854775807 W := by
 obtain ⟨y0, y1, m, -, -, h0, h1⟩ := trod_struct2 Tryz.underlying28 h
 have k0 : DataW.trod enc Tryz.prog W b sp hd m 4 [v0] = some y0 := by simpa [cellsBool] using h0
 have k1 : DataW.trod enc Tryz.prog W b sp hd m 26 [v1] = some y1 := by simpa [cellsWords] using h1
 obtain ⟨neg, h2, -⟩ := DataW.trod_bool Tryz.underlying4 k0
 obtain ⟨A, c, l, rfl, h3, h4, h5, h6⟩ := words_arg k1
 obtain rfl : v0 = .bool neg := by simpa using h2
 exact ⟨⟨neg, A, l.length, c⟩, rfl, rfl, _, ⟨⟨l, rfl, h5, h6, rfl⟩, h3, Nat.le_trans h3 h4⟩⟩
theorem list4 {α : Type} {l : List α} (h : l.length = 4) : ∃ a b c d, l = [a, b, c, d] := by
 match l, h with
 | [a, b, c, d], _ => exact ⟨a, b, c, d, rfl⟩
theorem list5 {α : Type} {l : List α} (h : l.length = 5) : ∃ a b c d e, l = [a, b, c, d, e] := by
 match l, h with
 | [a, b, c, d, e], _ => exact ⟨a, b, c, d, e, rfl⟩
theorem list1 {α : Type} {l : List α} (h : l.length = 1) : ∃ a, l = [a] := by
 match l, h with
 | [a], _ => exact ⟨a, rfl⟩
theorem array2 {α : Type} {x : Array α} (h : x.size = 2) : ∃ a b, x = #[a, b] := by
 obtain ⟨l⟩ := x
 match l, h with
 | [a, b], _ => exact ⟨a, b, rfl⟩
theorem list13 {α : Type} {l : List α} (h : l.length = 13) : ∃ c0 c1 c2 c3 c4 c5 c6 c7 c8 c9 c10 c11 c12, l = [c0, c1, c2, c3, c4, c5, c6, c7, c8, c9, c10, c11, c12] := by
 match l, h with
 | [c0, c1, c2, c3, c4, c5, c6, c7, c8, c9, c10, c11, c12], _ => exact ⟨c0, c1, c2, c3, c4, c5, c6, c7, c8, c9, c10, c11, c12, rfl⟩
instance : Inhabited VeV := ⟨⟨none, 0, []⟩⟩
instance : Inhabited GrV := ⟨⟨none, 0, []⟩⟩
instance : Inhabited LaV := ⟨⟨0, none, 0, [], none, 0, [], 0, 0, 0, 0, 0, 0, 0, 0, none, 0, [], none, 0, []⟩⟩
instance : Inhabited TeV := ⟨⟨0, zeroR, 0⟩⟩
section
variable {H : Type} {enc : TypeId × Value → H} {w : World} {b : Nat} {sp : Nat → Bool} {hd : Bool}
theorem slice_els {α : Type} [Inhabited α] {t e : TypeId} {k : Nat} {cells : α → Array Value} {φ : α → Prop} (ht : Tryz.prog.underlying t = some (.slice e)) (hc : Tryz.prog.cellsOf e = k) (hk : 0 < k)
 (hq : ∀ n cs y, cs.length = k → DataW.trod enc Tryz.prog w b sp hd n e cs = some y → ∃ x, cs = (cells x).toList ∧ φ x) {v : Value} {n : Nat} {y : DataW H × List MemPlace} (h : DataW.trod enc Tryz.prog w b sp hd n t [v] = some y) :
 ∃ A c l, v = .slice A (List.length l) c ∧ l.length ≤ c ∧ l.length ≤ 9223372036854775807 ∧ El w k A (l.map cells) ∧ ∀ x ∈ l, φ x := by
 subst hc
 rcases open_slice ht h with ⟨h1, -⟩ | ⟨a, len, cap, m, n, D, Pl, h1, -, hl, hm, hmm, hy, hx⟩
 ·exact ⟨none, 0, [], by simpa using h1, by simp, by simp, El.nil_ _ _ _, by simp⟩
 ·have hlm : len ≤ m := by rw [hmm]; split <;> omega
  obtain ⟨f, hf⟩ := choose_lt (n := len) (p := fun i x => w.cells? b (a.add (i * Tryz.prog.cellsOf e)) (Tryz.prog.cellsOf e) = some (cells x).toList ∧ φ x) fun i hi => by
   obtain ⟨cs, h2, h3⟩ := hx i (by omega)
   obtain ⟨x, rfl, h4⟩ := hq _ _ _ (World.cells?_some h2).2.1 h3
   exact ⟨x, h2, h4⟩
  have hce : ∀ i, i < len → (cells (f i)).size = Tryz.prog.cellsOf e ∧ ∀ j, j < Tryz.prog.cellsOf e → w.cell? ((a.add (i * Tryz.prog.cellsOf e)).add j) = (cells (f i))[j]? := fun i hi => by
   obtain ⟨-, h2, h3⟩ := World.cells?_some (hf i hi).1
   exact ⟨by simpa using h2, fun j hj => by simpa using h3 j hj⟩
  have hsp : 0 < len → a.spot = none := fun h0 => by
   obtain ⟨h2, h3⟩ := hce 0 h0
   have h4 := h3 0 hk
   have h5 : 0 < (cells (f 0)).size := by omega
   rw [Array.getElem?_eq_getElem h5] at h4
   have := spot_of h4
   simpa [Addr.add] using this
  refine ⟨some a, cap, (List.range len).map f, by simpa using h1, by simpa using hl, by rw [List.length_map, List.length_range]; exact Nat.le_trans hl hm, ⟨?_, ?_, ?_⟩, ?_⟩
  ·intro h0
   have h0' : 0 < len := by simpa using h0
   obtain ⟨ab, ao, asp⟩ := a
   have : asp = none := hsp h0'
   exact ⟨ab, ao, by rw [this]⟩
  ·intro i hi
   have hi' : i < len := by simpa using hi
   simpa using (hce i hi').1
  ·intro i hi j hj
   have hi' : i < len := by simpa using hi
   have hc := (hce i hi').2 j hj
   have hs := hsp (by omega)
   obtain ⟨ab, ao, asp⟩ := a
   have e : asp = none := hs
   subst e
   rw [add_one_cell, add_one_cell, Nat.add_assoc] at hc
   rw [adr_some, hc]
   simp
  ·intro x hx'
   obtain ⟨i, hi, rfl⟩ := List.mem_map.1 hx'
   have hi' : i < len := by simpa using hi
   exact (hf i hi').2
theorem cellsTerm : Tryz.prog.cellsOf 86 = 5 := by kernel_rfl
theorem cellsI64 : Tryz.prog.cellsOf 3 = 1 := by kernel_rfl
theorem cellsVec : Tryz.prog.cellsOf 89 = 1 := by kernel_rfl
theorem cellsVecs : Tryz.prog.cellsOf 39 = 1 := by kernel_rfl
theorem cellsRats : Tryz.prog.cellsOf 25 = 1 := by kernel_rfl
theorem cellsInts : Tryz.prog.cellsOf 51 = 1 := by kernel_rfl
theorem cellsGrs : Tryz.prog.cellsOf 40 = 1 := by kernel_rfl
theorem cellsKind : Tryz.prog.cellsOf 38 = 1 := by kernel_rfl
theorem cellsLay : Tryz.prog.cellsOf 42 = 13 := by kernel_rfl
theorem cellsLays : Tryz.prog.cellsOf 22 = 1 := by kernel_rfl
theorem cellsNet : Tryz.prog.cellsOf 24 = 2 := by kernel_rfl
theorem rat_one {n : Nat} {cs : List Value} {y : DataW H × List MemPlace} (h : DataW.trod enc Tryz.prog w b sp hd n 30 cs = some y) : ∃ p : RV × Rat, cs = (rtcells p).toList ∧ roD 9223372036854775807 p w := by
 obtain ⟨y0, y1, m, -, hl, h0, h1⟩ := trod_struct2 Tryz.underlying30 h
 rw [cellsRat] at hl
 obtain ⟨c0, c1, c2, c3, rfl⟩ := list4 hl
 have k0 : DataW.trod enc Tryz.prog w b sp hd m 28 [c0, c1] = some y0 := by simpa [cellsInt] using h0
 have k1 : DataW.trod enc Tryz.prog w b sp hd m 28 [c2, c3] = some y1 := by simpa [cellsInt] using h1
 obtain ⟨i, rfl, rfl, x, hx⟩ := int_cells k0
 obtain ⟨j, rfl, rfl, y', hy⟩ := int_cells k1
 exact ⟨(⟨i, j⟩, if j.k = 0 then Rat.divInt x 1 else Rat.divInt x y'), rfl, ⟨x, y', hx, hy, rfl⟩⟩
theorem rats_el {n : Nat} {v : Value} {y : DataW H × List MemPlace} (h : DataW.trod enc Tryz.prog w b sp hd n 25 [v] = some y) : ∃ A c l, v = .slice A (List.length l) c ∧ l.length ≤ 9223372036854775807 ∧ LsR 4 rtcells (roD 9223372036854775807) A l w := by
 obtain ⟨A, c, l, h1, -, h2, h3, h4⟩ := slice_els (cells := rtcells) (φ := fun p => roD 9223372036854775807 p w) Tryz.underlying25 cellsRat (by decide) (fun n cs y _ h => rat_one h) h
 exact ⟨A, c, l, h1, h2, h3, h4⟩
theorem term_one {n : Nat} {cs : List Value} {y : DataW H × List MemPlace} (h : DataW.trod enc Tryz.prog w b sp hd n 86 cs = some y) : ∃ t : TeV, cs = (tecells t).toList ∧ teD 9223372036854775807 t w := by
 obtain ⟨y0, y1, m, -, hl, h0, h1⟩ := trod_struct2 Tryz.underlying86 h
 rw [cellsTerm] at hl
 obtain ⟨c0, c1, c2, c3, c4, rfl⟩ := list5 hl
 have k0 : DataW.trod enc Tryz.prog w b sp hd m 3 [c0] = some y0 := by simpa [cellsI64] using h0
 have k1 : DataW.trod enc Tryz.prog w b sp hd m 30 [c1, c2, c3, c4] = some y1 := by simpa [cellsRat] using h1
 obtain ⟨z, e0, -, -⟩ := DataW.trod_int Tryz.underlying3 k0
 obtain ⟨p, e, hp⟩ := rat_one k1
 obtain rfl : c0 = .int .i64 z := by simpa using e0
 exact ⟨⟨z, p.1, p.2⟩, by rw [e]; rfl, hp⟩
theorem vec_one {n : Nat} {cs : List Value} {y : DataW H × List MemPlace} (hl : cs.length = 1) (h : DataW.trod enc Tryz.prog w b sp hd n 89 cs = some y) : ∃ v : VeV, cs = (vecells v).toList ∧ v.ts.length ≤ 9223372036854775807 ∧ veF (teD 9223372036854775807) v w := by
 obtain ⟨v, rfl⟩ := list1 hl
 obtain ⟨A, c, l, h1, -, h2, h3, h4⟩ := slice_els (cells := tecells) (φ := fun t => teD 9223372036854775807 t w) Tryz.underlying89 cellsTerm (by decide) (fun n cs y _ h => term_one h) h
 exact ⟨⟨A, c, l⟩, by rw [h1]; rfl, h2, h3, h4⟩
theorem vecs_el {n : Nat} {v : Value} {y : DataW H × List MemPlace} (h : DataW.trod enc Tryz.prog w b sp hd n 39 [v] = some y) : ∃ A c l, v = .slice A (List.length l) c ∧ l.length ≤ 9223372036854775807 ∧ (∀ v ∈ l, v.ts.length ≤ 9223372036854775807) ∧ LsR 1 vecells (veF (teD 9223372036854775807)) A l w := by
 obtain ⟨A, c, l, h1, -, h2, h3, h4⟩ := slice_els (cells := vecells) (φ := fun v => v.ts.length ≤ 9223372036854775807 ∧ veF (teD 9223372036854775807) v w) Tryz.underlying39 cellsVec (by decide) (fun n cs y hl h => vec_one hl h) h
 exact ⟨A, c, l, h1, h2, fun v hv => (h4 v hv).1, h3, fun v hv => (h4 v hv).2⟩
theorem int_one {n : Nat} {cs : List Value} {y : DataW H × List MemPlace} (hl : cs.length = 1) (h : DataW.trod enc Tryz.prog w b sp hd n 3 cs = some y) : ∃ z : Int, cs = (icells z).toList ∧ True := by
 obtain ⟨v, rfl⟩ := list1 hl
 obtain ⟨z, e0, -, -⟩ := DataW.trod_int Tryz.underlying3 h
 obtain rfl : v = .int .i64 z := by simpa using e0
 exact ⟨z, rfl, trivial⟩
theorem gr_one {n : Nat} {cs : List Value} {y : DataW H × List MemPlace} (hl : cs.length = 1) (h : DataW.trod enc Tryz.prog w b sp hd n 51 cs = some y) : ∃ g : GrV, cs = (grcells g).toList ∧ (g.l.length ≤ 9223372036854775807 ∧ g.l.length ≤ g.c) ∧ grD g w := by
 obtain ⟨v, rfl⟩ := list1 hl
 obtain ⟨A, c, l, h1, hc, h2, h3, h4⟩ := slice_els (cells := icells) (φ := fun _ => True) Tryz.underlying51 cellsI64 (by decide) (fun n cs y hl h => int_one hl h) h
 exact ⟨⟨A, c, l⟩, by rw [h1]; rfl, ⟨h2, hc⟩, h3, h4⟩
theorem grs_el {n : Nat} {v : Value} {y : DataW H × List MemPlace} (h : DataW.trod enc Tryz.prog w b sp hd n 40 [v] = some y) : ∃ A c l, v = .slice A (List.length l) c ∧ l.length ≤ 9223372036854775807 ∧ (∀ g ∈ l, g.l.length ≤ 9223372036854775807 ∧ g.l.length ≤ g.c) ∧ LsR 1 grcells grD A l w := by
 obtain ⟨A, c, l, h1, -, h2, h3, h4⟩ := slice_els (cells := grcells) (φ := fun g => (g.l.length ≤ 9223372036854775807 ∧ g.l.length ≤ g.c) ∧ grD g w) Tryz.underlying40 cellsInts (by decide) (fun n cs y hl h => gr_one hl h) h
 exact ⟨A, c, l, h1, h2, fun v hv => (h4 v hv).1, h3, fun v hv => (h4 v hv).2⟩
theorem trod_struct13 {P : Program} {t : TypeId} {f0 f1 f2 f3 f4 f5 f6 f7 f8 f9 f10 f11 f12 : Field} {fuel : Nat} {cs : List Value} {x : DataW H × List MemPlace} (ht : P.underlying t = some (.struct #[f0, f1, f2, f3, f4, f5, f6, f7, f8, f9, f10, f11, f12])) (h : DataW.trod enc P w b sp hd fuel t cs = some x) :
 ∃ y0 y1 y2 y3 y4 y5 y6 y7 y8 y9 y10 y11 y12 n, cs.length = P.cellsOf t ∧ DataW.trod enc P w b sp hd n f0.type ((cs.drop f0.offset).take (P.cellsOf f0.type)) = some y0 ∧ DataW.trod enc P w b sp hd n f1.type ((cs.drop f1.offset).take (P.cellsOf f1.type)) = some y1 ∧ DataW.trod enc P w b sp hd n f2.type ((cs.drop f2.offset).take (P.cellsOf f2.type)) = some y2 ∧ DataW.trod enc P w b sp hd n f3.type ((cs.drop f3.offset).take (P.cellsOf f3.type)) = some y3 ∧ DataW.trod enc P w b sp hd n f4.type ((cs.drop f4.offset).take (P.cellsOf f4.type)) = some y4 ∧ DataW.trod enc P w b sp hd n f5.type ((cs.drop f5.offset).take (P.cellsOf f5.type)) = some y5 ∧ DataW.trod enc P w b sp hd n f6.type ((cs.drop f6.offset).take (P.cellsOf f6.type)) = some y6 ∧ DataW.trod enc P w b sp hd n f7.type ((cs.drop f7.offset).take (P.cellsOf f7.type)) = some y7 ∧ DataW.trod enc P w b sp hd n f8.type ((cs.drop f8.offset).take (P.cellsOf f8.type)) = some y8 ∧ DataW.trod enc P w b sp hd n f9.type ((cs.drop f9.offset).take (P.cellsOf f9.type)) = some y9 ∧ DataW.trod enc P w b sp hd n f10.type ((cs.drop f10.offset).take (P.cellsOf f10.type)) = some y10 ∧ DataW.trod enc P w b sp hd n f11.type ((cs.drop f11.offset).take (P.cellsOf f11.type)) = some y11 ∧ DataW.trod enc P w b sp hd n f12.type ((cs.drop f12.offset).take (P.cellsOf f12.type)) = some y12 := by
 obtain ⟨xs, n, _, rfl, hl, hlen, hf⟩ := DataW.trod_struct ht h
 match xs, hlen with
 | [y0, y1, y2, y3, y4, y5, y6, y7, y8, y9, y10, y11, y12], _ => exact ⟨y0, y1, y2, y3, y4, y5, y6, y7, y8, y9, y10, y11, y12, n, hl, by simpa using hf 0 f0 rfl, by simpa using hf 1 f1 rfl, by simpa using hf 2 f2 rfl, by simpa using hf 3 f3 rfl, by simpa using hf 4 f4 rfl, by simpa using hf 5 f5 rfl, by simpa using hf 6 f6 rfl, by simpa using hf 7 f7 rfl, by simpa using hf 8 f8 rfl, by simpa using hf 9 f9 rfl, by simpa using hf 10 f10 rfl, by simpa using hf 11 f11 rfl, by simpa using hf 12 f12 rfl⟩
set_option maxRecDepth 100000 in
theorem lay_one {n : Nat} {cs : List Value} {y : DataW H × List MemPlace} (h : DataW.trod enc Tryz.prog w b sp hd n 42 cs = some y) : ∃ l : LaV, cs = (lacells l).toList ∧ LaM l ∧ LaD 9223372036854775807 l w := by
 obtain ⟨y0, y1, y2, y3, y4, y5, y6, y7, y8, y9, y10, y11, y12, m, hl, h0, h1, h2, h3, h4, h5, h6, h7, h8, h9, h10, h11, h12⟩ := trod_struct13 Tryz.underlying42 h
 rw [cellsLay] at hl
 obtain ⟨c0, c1, c2, c3, c4, c5, c6, c7, c8, c9, c10, c11, c12, rfl⟩ := list13 hl
 have k0 : DataW.trod enc Tryz.prog w b sp hd m 38 [c0] = some y0 := by simpa [cellsKind] using h0
 have k1 : DataW.trod enc Tryz.prog w b sp hd m 39 [c1] = some y1 := by simpa [cellsVecs] using h1
 have k2 : DataW.trod enc Tryz.prog w b sp hd m 25 [c2] = some y2 := by simpa [cellsRats] using h2
 have k3 : DataW.trod enc Tryz.prog w b sp hd m 3 [c3] = some y3 := by simpa [cellsI64] using h3
 have k4 : DataW.trod enc Tryz.prog w b sp hd m 3 [c4] = some y4 := by simpa [cellsI64] using h4
 have k5 : DataW.trod enc Tryz.prog w b sp hd m 3 [c5] = some y5 := by simpa [cellsI64] using h5
 have k6 : DataW.trod enc Tryz.prog w b sp hd m 3 [c6] = some y6 := by simpa [cellsI64] using h6
 have k7 : DataW.trod enc Tryz.prog w b sp hd m 3 [c7] = some y7 := by simpa [cellsI64] using h7
 have k8 : DataW.trod enc Tryz.prog w b sp hd m 3 [c8] = some y8 := by simpa [cellsI64] using h8
 have k9 : DataW.trod enc Tryz.prog w b sp hd m 3 [c9] = some y9 := by simpa [cellsI64] using h9
 have k10 : DataW.trod enc Tryz.prog w b sp hd m 3 [c10] = some y10 := by simpa [cellsI64] using h10
 have k11 : DataW.trod enc Tryz.prog w b sp hd m 25 [c11] = some y11 := by simpa [cellsRats] using h11
 have k12 : DataW.trod enc Tryz.prog w b sp hd m 40 [c12] = some y12 := by simpa [cellsGrs] using h12
 obtain ⟨z0, e0, -, -⟩ := DataW.trod_int Tryz.underlying38 k0
 obtain rfl : c0 = .int .u8 z0 := by simpa using e0
 obtain ⟨z3, e3, -, -⟩ := DataW.trod_int Tryz.underlying3 k3
 obtain rfl : c3 = .int .i64 z3 := by simpa using e3
 obtain ⟨z4, e4, -, -⟩ := DataW.trod_int Tryz.underlying3 k4
 obtain rfl : c4 = .int .i64 z4 := by simpa using e4
 obtain ⟨z5, e5, -, -⟩ := DataW.trod_int Tryz.underlying3 k5
 obtain rfl : c5 = .int .i64 z5 := by simpa using e5
 obtain ⟨z6, e6, -, -⟩ := DataW.trod_int Tryz.underlying3 k6
 obtain rfl : c6 = .int .i64 z6 := by simpa using e6
 obtain ⟨z7, e7, -, -⟩ := DataW.trod_int Tryz.underlying3 k7
 obtain rfl : c7 = .int .i64 z7 := by simpa using e7
 obtain ⟨z8, e8, -, -⟩ := DataW.trod_int Tryz.underlying3 k8
 obtain rfl : c8 = .int .i64 z8 := by simpa using e8
 obtain ⟨z9, e9, -, -⟩ := DataW.trod_int Tryz.underlying3 k9
 obtain rfl : c9 = .int .i64 z9 := by simpa using e9
 obtain ⟨z10, e10, -, -⟩ := DataW.trod_int Tryz.underlying3 k10
 obtain rfl : c10 = .int .i64 z10 := by simpa using e10
 obtain ⟨A1, q1, l1, rfl, n1, m1, g1⟩ := vecs_el k1
 obtain ⟨A2, q2, l2, rfl, n2, g2⟩ := rats_el k2
 obtain ⟨A3, q3, l3, rfl, n3, g3⟩ := rats_el k11
 obtain ⟨A4, q4, l4, rfl, n4, m4, g4⟩ := grs_el k12
 exact ⟨⟨z0, A1, q1, l1, A2, q2, l2, z3, z4, z5, z6, z7, z8, z9, z10, A3, q3, l3, A4, q4, l4⟩, rfl, ⟨n1, m1, n2, n3, n4, fun g hg => (m4 g hg).1, fun g hg => (m4 g hg).2⟩, ⟨g1, g2, g3, g4⟩⟩
set_option maxRecDepth 100000 in
theorem net_arg {b0 : Nat} {rr : Reach} {v : Value} {d : DataW H} {p : List MemPlace} (hv : Value.okWide Tryz.prog w rr b0 24 v) (h : DataW.Trod enc Tryz.prog w b sp hd 24 v d p) :
 ∃ f : NeV, v = .agg #[.int .i64 f.inputs, .slice f.A f.las.length f.c] ∧ (f.las.length ≤ 9223372036854775807 ∧ f.las.length ≤ f.c) ∧ (∀ l ∈ f.las, LaM l) ∧ NeD 9223372036854775807 f w := by
 obtain ⟨cs, rfl, hsz⟩ := okWide_struct Tryz.underlying24 hv
 obtain ⟨c0, c1, rfl⟩ := array2 (hsz.trans cellsNet)
 obtain ⟨fuel, hf⟩ := h
 obtain ⟨y0, y1, n, -, -, h0, h1⟩ := trod_struct2 Tryz.underlying24 hf
 have k0 : DataW.trod enc Tryz.prog w b sp hd n 3 [c0] = some y0 := by simpa [Value.cells, cellsI64] using h0
 have k1 : DataW.trod enc Tryz.prog w b sp hd n 22 [c1] = some y1 := by simpa [Value.cells, cellsLays] using h1
 obtain ⟨z, e0, -, -⟩ := DataW.trod_int Tryz.underlying3 k0
 obtain rfl : c0 = .int .i64 z := by simpa using e0
 obtain ⟨A, c, l, hs, hc, hn, h3, h4⟩ := slice_els (cells := lacells) (φ := fun l => LaM l ∧ LaD 9223372036854775807 l w) Tryz.underlying22 cellsLay (by decide) (fun n cs y _ h => lay_one h) k1
 rw [hs]
 exact ⟨⟨z, A, c, l⟩, rfl, ⟨hn, hc⟩, fun l hl => (h4 l hl).1, h3, fun l hl => (h4 l hl).2⟩
set_option maxRecDepth 100000 in
theorem rats_arg {b0 : Nat} {rr : Reach} {v : Value} {d : DataW H} {p : List MemPlace} (hv : Value.okWide Tryz.prog w rr b0 25 v) (h : DataW.Trod enc Tryz.prog w b sp hd 25 v d p) :
 ∃ A c l, v = .slice A (List.length l) c ∧ l.length ≤ 9223372036854775807 ∧ LsR 4 rtcells (roD 9223372036854775807) A l w := by
 obtain ⟨a, len, cap, rfl⟩ := okWide_slice Tryz.underlying25 hv
 obtain ⟨n, hf⟩ := h
 exact rats_el hf
set_option maxRecDepth 100000 in
theorem rat_arg {b0 : Nat} {rr : Reach} {v : Value} {d : DataW H} {p : List MemPlace} (hv : Value.okWide Tryz.prog w rr b0 30 v) (h : DataW.Trod enc Tryz.prog w b sp hd 30 v d p) :
 ∃ r : RV × Rat, v = .agg #[.bool r.1.num.neg, .slice r.1.num.A r.1.num.k r.1.num.c, .bool r.1.den.neg, .slice r.1.den.A r.1.den.k r.1.den.c] ∧ roD 9223372036854775807 r w := by
 obtain ⟨cs, rfl, hsz⟩ := okWide_struct Tryz.underlying30 hv
 obtain ⟨fuel, hf⟩ := h
 obtain ⟨r, hr, hd⟩ := rat_one hf
 refine ⟨r, ?_, hd⟩
 rw [show cs = rtcells r from by have := congrArg List.toArray hr; simpa [Value.cells] using this]
 rfl
end
end Go.Proofs.YtplhmeiciiajcaaGreatDoor
