/-
  What a row's argument is, opened: a whole number by value; and that an argument reads behind the call as it did.
-/
import Derived.Test.YthffandpjjnkhaaDoorRow
import Derived.Deep.Slices
import Derived.Lib.SmallJoins
namespace Go.Proofs.YthffandpjjnkhaaDoor
open Go.ChangeShapes Go.WideShapes Go.ChangeAt Go.RowKit Go.Deep

theorem cellsInt : Tryd.prog.cellsOf 25 = 2 := by kernel_rfl
/-- the natural number of an integer's value -/
def natOf : Value → Nat
  | .int _ z => z.toNat
  | _ => 0
theorem spot_of {w : World} {a : Addr} {v : Value} (h : w.cell? a = some v) : a.spot = none := by
  unfold World.cell? at h
  split at h
  · split at h
    · cases h
    · rename_i h2; simpa using h2
  · cases h
/-- an argument of type []uint64, read -/
theorem words_arg {H : Type} {enc : TypeId × Value → H} {W : World} {b : Nat} {sp : Nat → Bool} {hd : Bool} {n : Nat} {v : Value} {y : DataW H × List MemPlace} (h : DataW.trod enc Tryd.prog W b sp hd n 23 [v] = some y) :
    ∃ A c l, v = .slice A (List.length l) c ∧ l.length ≤ c ∧ c ≤ maxLen ∧ Rd W .u64 A l ∧ ∀ x ∈ l, x < B64 := by
  rcases open_slice1 Tryd.underlying23 cellsU64 h with ⟨h1, -⟩ | ⟨a, len, cap, m, k, V, D, Pl, h1, -, hl, hm, hmm, -, hx⟩
  · exact ⟨none, 0, [], by simpa using h1, by simp, by simp, Rd.nil_ _ _, by simp⟩
  · have hlm : len ≤ m := by rw [hmm]; split <;> omega
    have hV : ∀ i, i < len → ∃ z : Nat, V i = .int .u64 (z : Int) ∧ z < B64 := fun i hi => by
      obtain ⟨z, h2, -, hw⟩ := DataW.trod_int Tryd.underlying31 (hx i (by omega)).2
      have hz := bounds_u64 hw
      refine ⟨z.toNat, ?_, by simp only [B64]; omega⟩
      have : V i = .int .u64 z := by simpa using h2
      rw [this, Int.toNat_of_nonneg hz.1]
    refine ⟨some a, cap, (List.range len).map fun i => natOf (V i), by simpa using h1, by simpa using hl, hm, ⟨?_, ?_⟩, ?_⟩
    · intro h0
      have h0' : 0 < len := by simpa using h0
      have := spot_of (hx 0 (by omega)).1
      obtain ⟨ab, ao, asp⟩ := a
      have e : asp = none := by simpa [Addr.add] using this
      exact ⟨ab, ao, by rw [e]⟩
    · intro i hi
      have hi' : i < len := by simpa using hi
      obtain ⟨z, hz, -⟩ := hV i hi'
      have hc := (hx i (by omega)).1
      have hs := spot_of (hx 0 (by omega)).1
      obtain ⟨ab, ao, asp⟩ := a
      have e : asp = none := by simpa [Addr.add] using hs
      subst e
      rw [add_one_cell] at hc
      rw [adr_some, hc, hz]
      simp [nth, List.getD, hi', hz, natOf]
    · intro x hx'
      obtain ⟨i, hi, rfl⟩ := List.mem_map.1 hx'
      obtain ⟨z, hz, hlt⟩ := hV i (by simpa using hi)
      rw [hz]
      simpa [natOf] using hlt

set_option maxRecDepth 100000 in
/-- an argument of type Int, read -/
theorem int_arg {H : Type} {enc : TypeId × Value → H} {W : World} {b b0 : Nat} {sp : Nat → Bool} {hd : Bool} {r : Reach} {v : Value} {d : DataW H} {p : List MemPlace}
    (hv : Value.okWide Tryd.prog W r b0 25 v) (h : DataW.Trod enc Tryd.prog W b sp hd 25 v d p) :
    ∃ neg A c l, v = .agg #[.bool neg, .slice A (List.length l) c] ∧ l.length ≤ c ∧ c ≤ maxLen ∧ Rd W .u64 A l ∧ ∀ x ∈ l, x < B64 := by
  obtain ⟨v0, v1, y0, y1, n, rfl, -, -, h0, h1⟩ := Joins.open_agg2 Tryd.underlying25 (by kernel_rfl) cellsInt hv h
  obtain ⟨neg, h2, -⟩ := DataW.trod_bool Tryd.underlying4 h0
  obtain ⟨A, c, l, rfl, h3⟩ := words_arg h1
  obtain rfl : v0 = .bool neg := by simpa using h2
  exact ⟨neg, A, c, l, rfl, h3⟩
theorem laidOut : laidOutB Tryd.prog = true := by kernel_rfl
/-- what was read at the call's start reads so behind it -/
theorem keep_int {H : Type} {enc : TypeId × Value → H} {W W' : World} {v : Value} {d : DataW H} {ps : List MemPlace} (h : DataW.Trod enc Tryd.prog W 0 (fun _ => true) true 25 v d ps) (hb : Below W.heap.size W W') (hlt : ∀ x ∈ ps, x.block < W.heap.size) :
    DataW.Trod enc Tryd.prog W' 0 (fun b => decide (b < W.heap.size)) true 25 v d ps := Below.trod laidOut (by kernel_rfl) (of_decide_eq_true (by kernel_rfl)) h hb hlt
theorem keep_str {H : Type} {enc : TypeId × Value → H} {W W' : World} {v : Value} {d : DataW H} {ps : List MemPlace} (h : DataW.Trod enc Tryd.prog W 0 (fun _ => true) true 9 v d ps) (hb : Below W.heap.size W W') (hlt : ∀ x ∈ ps, x.block < W.heap.size) :
    DataW.Trod enc Tryd.prog W' 0 (fun b => decide (b < W.heap.size)) true 9 v d ps := Below.trod laidOut (by kernel_rfl) (of_decide_eq_true (by kernel_rfl)) h hb hlt
theorem keep_u8 {H : Type} {enc : TypeId × Value → H} {W W' : World} {v : Value} {d : DataW H} {ps : List MemPlace} (h : DataW.Trod enc Tryd.prog W 0 (fun _ => true) true 5 v d ps) (hb : Below W.heap.size W W') (hlt : ∀ x ∈ ps, x.block < W.heap.size) :
    DataW.Trod enc Tryd.prog W' 0 (fun b => decide (b < W.heap.size)) true 5 v d ps := Below.trod laidOut (by kernel_rfl) (of_decide_eq_true (by kernel_rfl)) h hb hlt
end Go.Proofs.YthffandpjjnkhaaDoor
