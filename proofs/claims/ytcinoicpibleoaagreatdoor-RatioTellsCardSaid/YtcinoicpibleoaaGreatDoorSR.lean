/-
  What all of this seat's rows over the three tables share: the table of powers of ten out of the row's list, the world of the witness, the last step of a row whose law tells true and leaves its arguments.
-/
import Derived.Test.YtcinoicpibleoaaGreatDoorCards
import Derived.Test.YtcinoicpibleoaaGreatDoorTie
import Derived.Test.YtcinoicpibleoaaGreatDoorSE
import Derived.Deep.Slices
import Derived.Lib.SmallJoins
import Derived.WalkKit
import Derived.ProofKit
import Derived.OpenShut
import Derived.Deep.DeepHandedRow
import Derived.Lib.LaidTab
import Derived.Stop.LaidErr
import Derived.Carry
namespace Go.Proofs.YtcinoicpibleoaaGreatDoor
open Go.ChangeShapes Go.WideShapes Go.ChangeAt Go.RowKit Go.Deep

theorem own : ownKnob Tryz.prog.godebug = none := by kernel_rfl
theorem gPowType : (Tryz.prog.globals[(3 : Nat)]?).map (·.type) = some 154 := by kernel_rfl
theorem cellsPow : Tryz.prog.cellsOf 154 = 20 := by kernel_rfl
theorem cellsU64 : Tryz.prog.cellsOf 101 = 1 := by kernel_rfl
/-- what the rows list -/
def rowLaid : List (String × DataW Unit) := [("math/bits.deBruijn32tab", Rows.laid_math_bits_deBruijn32tab), ("math/bits.deBruijn64tab", Rows.laid_math_bits_deBruijn64tab), ("internal/strconv.uint64pow10", Rows.laid_internal_strconv_uint64pow10)]
theorem tab_of {W : World} (h : laidMetH Tryz.prog rowLaid W) : Tab W :=
  Lib.tabIs_of_head (rest := []) (zs := Lib.pow10Tab) gPow gPowType Tryz.underlying154 Tryz.underlying101 cellsU64 cellsPow (laidMet.tail (laidMet.tail (show laidMet Tryz.prog rowLaid W from h)))

/-- a table laid into its block -/
def layTab (cs : Array Value) : Obj → Obj
  | .cells _ t frozen => .cells cs t frozen
  | o => o
/-- a world for the witness: the settled one, the tables holding what their initialisers lay -/
noncomputable def laidWorld (os : Os) : World :=
  { World.holding Tryz.prog os ⟨#[], #[], []⟩ with heap := (((World.holding Tryz.prog os ⟨#[], #[], []⟩).heap.modify 5 (layTab #[.int .u8 0, .int .u8 1, .int .u8 28, .int .u8 2, .int .u8 29, .int .u8 14, .int .u8 24, .int .u8 3, .int .u8 30, .int .u8 22, .int .u8 20, .int .u8 15, .int .u8 25, .int .u8 17, .int .u8 4, .int .u8 8, .int .u8 31, .int .u8 27, .int .u8 13, .int .u8 23, .int .u8 21, .int .u8 19, .int .u8 16, .int .u8 7, .int .u8 26, .int .u8 12, .int .u8 18, .int .u8 6, .int .u8 11, .int .u8 5, .int .u8 10, .int .u8 9])).modify 4 (layTab #[.int .u8 0, .int .u8 1, .int .u8 56, .int .u8 2, .int .u8 57, .int .u8 49, .int .u8 28, .int .u8 3, .int .u8 61, .int .u8 58, .int .u8 42, .int .u8 50, .int .u8 38, .int .u8 29, .int .u8 17, .int .u8 4, .int .u8 62, .int .u8 47, .int .u8 59, .int .u8 36, .int .u8 45, .int .u8 43, .int .u8 51, .int .u8 22, .int .u8 53, .int .u8 39, .int .u8 33, .int .u8 30, .int .u8 24, .int .u8 18, .int .u8 12, .int .u8 5, .int .u8 63, .int .u8 55, .int .u8 48, .int .u8 27, .int .u8 60, .int .u8 41, .int .u8 37, .int .u8 16, .int .u8 46, .int .u8 35, .int .u8 44, .int .u8 21, .int .u8 52, .int .u8 32, .int .u8 23, .int .u8 11, .int .u8 54, .int .u8 26, .int .u8 40, .int .u8 15, .int .u8 34, .int .u8 20, .int .u8 31, .int .u8 10, .int .u8 25, .int .u8 14, .int .u8 19, .int .u8 9, .int .u8 13, .int .u8 8, .int .u8 7, .int .u8 6])).modify 3 (layTab #[.int .u64 1, .int .u64 10, .int .u64 100, .int .u64 1000, .int .u64 10000, .int .u64 100000, .int .u64 1000000, .int .u64 10000000, .int .u64 100000000, .int .u64 1000000000, .int .u64 10000000000, .int .u64 100000000000, .int .u64 1000000000000, .int .u64 10000000000000, .int .u64 100000000000000, .int .u64 1000000000000000, .int .u64 10000000000000000, .int .u64 100000000000000000, .int .u64 1000000000000000000, .int .u64 10000000000000000000]) }

/-- the last step of a row: the law tells true; its arguments read as they did -/
theorem post_kept {H : Type} {enc : TypeId × Value → H} {f : Func} {s : ChangeSpec} {W W' : World} {args : Array Value} {ds : List (DataW H)} {before : List MemPlace}
    (hW : DataW.Whole enc Tryz.prog f.params.toList s.vars false W args.toList ds [] before) (hv : s.vars = []) (hr : f.resultTypes = #[4])
    (hfn : s.fn H (ds ++ []) = { results := [.lit (.bool true)], args := ds }) (hb : Below W.heap.size W W')
    (hargs : DataW.TrodAll enc Tryz.prog W' 0 (fun b => decide (b < W.heap.size)) true f.params.toList args.toList ds before) :
    s.post enc Tryz.prog f false true false false W args (.bool true) W' := by
  refine ⟨ds, [], before, [], before, [], hW, ?_, ?_, ?_, ?_, fun h => by cases h⟩
  · rw [hfn, hr]
    exact trodAll_cons_mk (shut_bool Tryz.underlying4 _) trodAll_mk0
  · rw [hfn]; exact hargs
  · rw [hfn, hv]; exact rfl
  · exact World.keptBut_mono (fun p hp => ⟨hp, .inr (.inl hp)⟩) (hb.frame (· ∈ before))

theorem gTz : Tryz.prog.globalNamed "math/bits.deBruijn64tab" = some 4 := by kernel_rfl
theorem gTzType : (Tryz.prog.globals[(4 : Nat)]?).map (·.type) = some 159 := by kernel_rfl
theorem cellsTz : Tryz.prog.cellsOf 159 = 64 := by kernel_rfl
theorem cellsU8 : Tryz.prog.cellsOf 5 = 1 := by kernel_rfl
theorem tz_of {W : World} (h : laidMetH Tryz.prog rowLaid W) : Tz W := by
  have h1 := Lib.tabIs_of_head (rest := [("internal/strconv.uint64pow10", Rows.laid_internal_strconv_uint64pow10)]) (zs := Lib.deBruijn64tab.map fun n : Nat => (n : Int)) gTz gTzType Tryz.underlying159 Tryz.underlying5 cellsU8 cellsTz (laidMet.tail (show laidMet Tryz.prog rowLaid W from h))
  unfold Lib.TabIs World.var? at h1
  simp only [gTz, Option.bind_some] at h1
  intro j hj
  cases hh : W.heap[(4 : Nat)]? with
  | none => rw [hh] at h1; simp at h1
  | some o =>
    rw [hh] at h1
    cases o with
    | cells cs t fr =>
      have e : cs = ((Lib.deBruijn64tab.map fun n : Nat => (n : Int)).map fun z => Value.int .u8 z).toArray := by simpa using h1
      rw [Joins.cell_of_block hh, e]
      simp [List.getD, hj]
    | _ => simp at h1
theorem cellsInt : Tryz.prog.cellsOf 29 = 2 := by kernel_rfl
/-- the natural number of an integer's value -/
def natOf : Value → Nat
  | .int _ z => z.toNat
  | _ => 0
theorem spot_of {w : World} {a : Addr} {v : Value} (h : w.cell? a = some v) : a.spot = none := by
  unfold World.cell? at h
  split at h
  · split at h
    · cases h
    · rename_i h2; simpa using h2
  · cases h
/-- an argument of type []uint64, read -/
theorem words_arg {H : Type} {enc : TypeId × Value → H} {W : World} {b : Nat} {sp : Nat → Bool} {hd : Bool} {n : Nat} {v : Value} {y : DataW H × List MemPlace} (h : DataW.trod enc Tryz.prog W b sp hd n 27 [v] = some y) :
    ∃ A c l, v = .slice A (List.length l) c ∧ l.length ≤ c ∧ c ≤ maxLen ∧ Rd W .u64 A l ∧ ∀ x ∈ l, x < B64 := by
  rcases open_slice1 Tryz.underlying27 cellsU64 h with ⟨h1, -⟩ | ⟨a, len, cap, m, k, V, D, Pl, h1, -, hl, hm, hmm, -, hx⟩
  · exact ⟨none, 0, [], by simpa using h1, by simp, by simp, Rd.nil_ _ _, by simp⟩
  · have hlm : len ≤ m := by rw [hmm]; split <;> omega
    have hV : ∀ i, i < len → ∃ z : Nat, V i = .int .u64 (z : Int) ∧ z < B64 := fun i hi => by
      obtain ⟨z, h2, -, hw⟩ := DataW.trod_int Tryz.underlying101 (hx i (by omega)).2
      have hz := bounds_u64 hw
      refine ⟨z.toNat, ?_, by simp only [B64]; omega⟩
      have : V i = .int .u64 z := by simpa using h2
      rw [this, Int.toNat_of_nonneg hz.1]
    refine ⟨some a, cap, (List.range len).map fun i => natOf (V i), by simpa using h1, by simpa using hl, hm, ⟨?_, ?_⟩, ?_⟩
    · intro h0
      have h0' : 0 < len := by simpa using h0
      have := spot_of (hx 0 (by omega)).1
      obtain ⟨ab, ao, asp⟩ := a
      have e : asp = none := by simpa [Addr.add] using this
      exact ⟨ab, ao, by rw [e]⟩
    · intro i hi
      have hi' : i < len := by simpa using hi
      obtain ⟨z, hz, -⟩ := hV i hi'
      have hc := (hx i (by omega)).1
      have hs := spot_of (hx 0 (by omega)).1
      obtain ⟨ab, ao, asp⟩ := a
      have e : asp = none := by simpa [Addr.add] using hs
      subst e
      rw [add_one_cell] at hc
      rw [adr_some, hc, hz]
      simp [nth, List.getD, hi', hz, natOf]
    · intro x hx'
      obtain ⟨i, hi, rfl⟩ := List.mem_map.1 hx'
      obtain ⟨z, hz, hlt⟩ := hV i (by simpa using hi)
      rw [hz]
      simpa [natOf] using hlt

theorem laidOut : laidOutB Tryz.prog = true := by kernel_rfl
theorem keep_str {H : Type} {enc : TypeId × Value → H} {W W' : World} {v : Value} {d : DataW H} {ps : List MemPlace} (h : DataW.Trod enc Tryz.prog W 0 (fun _ => true) true 9 v d ps) (hb : Below W.heap.size W W') (hlt : ∀ x ∈ ps, x.block < W.heap.size) :
    DataW.Trod enc Tryz.prog W' 0 (fun b => decide (b < W.heap.size)) true 9 v d ps := Below.trod laidOut (by kernel_rfl) (of_decide_eq_true (by kernel_rfl)) h hb hlt
theorem cellsRat : Tryz.prog.cellsOf 31 = 4 := by kernel_rfl
theorem cellsBool : Tryz.prog.cellsOf 4 = 1 := by kernel_rfl
theorem cellsWords : Tryz.prog.cellsOf 27 = 1 := by kernel_rfl
/-- two cells that read as an Int -/
theorem int_cells {H : Type} {enc : TypeId × Value → H} {W : World} {b : Nat} {sp : Nat → Bool} {hd : Bool} {n : Nat} {v0 v1 : Value} {y : DataW H × List MemPlace} (h : DataW.trod enc Tryz.prog W b sp hd n 29 [v0, v1] = some y) :
    ∃ i : IV, v0 = .bool i.neg ∧ v1 = .slice i.A i.k i.c ∧ ∃ z, IntD i z i.k W := by
  obtain ⟨y0, y1, m, -, -, h0, h1⟩ := trod_struct2 Tryz.underlying29 h
  have k0 : DataW.trod enc Tryz.prog W b sp hd m 4 [v0] = some y0 := by simpa [cellsBool] using h0
  have k1 : DataW.trod enc Tryz.prog W b sp hd m 27 [v1] = some y1 := by simpa [cellsWords] using h1
  obtain ⟨neg, h2, -⟩ := DataW.trod_bool Tryz.underlying4 k0
  obtain ⟨A, c, l, rfl, h3, h4, h5, h6⟩ := words_arg k1
  obtain rfl : v0 = .bool neg := by simpa using h2
  exact ⟨⟨neg, A, l.length, c⟩, rfl, rfl, _, ⟨⟨l, rfl, h5, h6, rfl⟩, h3, Nat.le_refl _⟩⟩
set_option maxRecDepth 100000 in
/-- an argument of type Rat, read -/
theorem rat_arg {H : Type} {enc : TypeId × Value → H} {W : World} {b b0 : Nat} {sp : Nat → Bool} {hd : Bool} {r : Reach} {v : Value} {d : DataW H} {p : List MemPlace}
    (hv : Value.okWide Tryz.prog W r b0 31 v) (h : DataW.Trod enc Tryz.prog W b sp hd 31 v d p) :
    ∃ r : RV, v = .agg #[.bool r.num.neg, .slice r.num.A r.num.k r.num.c, .bool r.den.neg, .slice r.den.A r.den.k r.den.c] ∧ ∃ x y, IntD r.num x r.num.k W ∧ IntD r.den y r.den.k W := by
  obtain ⟨cs, rfl, hsz⟩ := okWide_struct Tryz.underlying31 hv
  obtain ⟨c0, c1, c2, c3, rfl⟩ := Joins.array4 (hsz.trans cellsRat)
  obtain ⟨fuel, hf⟩ := h
  obtain ⟨y0, y1, n, -, -, h0, h1⟩ := trod_struct2 Tryz.underlying31 hf
  have k0 : DataW.trod enc Tryz.prog W b sp hd n 29 [c0, c1] = some y0 := by simpa [Value.cells, cellsInt] using h0
  have k1 : DataW.trod enc Tryz.prog W b sp hd n 29 [c2, c3] = some y1 := by simpa [Value.cells, cellsInt] using h1
  obtain ⟨i, rfl, rfl, x, hx⟩ := int_cells k0
  obtain ⟨j, rfl, rfl, y, hy⟩ := int_cells k1
  exact ⟨⟨i, j⟩, rfl, x, y, hx, hy⟩
theorem keep_rat {H : Type} {enc : TypeId × Value → H} {W W' : World} {v : Value} {d : DataW H} {ps : List MemPlace} (h : DataW.Trod enc Tryz.prog W 0 (fun _ => true) true 31 v d ps) (hb : Below W.heap.size W W') (hlt : ∀ x ∈ ps, x.block < W.heap.size) :
    DataW.Trod enc Tryz.prog W' 0 (fun b => decide (b < W.heap.size)) true 31 v d ps := Below.trod laidOut (by kernel_rfl) (of_decide_eq_true (by kernel_rfl)) h hb hlt
end Go.Proofs.YtcinoicpibleoaaGreatDoor
