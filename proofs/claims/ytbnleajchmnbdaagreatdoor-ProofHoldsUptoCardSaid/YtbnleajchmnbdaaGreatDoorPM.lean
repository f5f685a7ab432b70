/-
 What the rows of ProofHolds share: the one table out of the row's list, the world of the witness, the last step; programs, points and prices as arguments. ProofHolds returns true, whatever the input; no conditions: the row and its card.
-/
import Derived.Test.YtbnleajchmnbdaaGreatDoorCards
import Derived.Test.YtbnleajchmnbdaaGreatDoorTie
import Derived.Test.YtbnleajchmnbdaaGreatDoorPJ
import Derived.Deep.Slices
import Derived.Lib.SmallJoins
import Derived.WalkKit
import Derived.ProofKit
import Derived.OpenShut
import Derived.Deep.DeepHandedRow
import Derived.Lib.LaidTab
import Derived.Stop.LaidErr
import Derived.Carry
import Derived.ChangeMaps5
namespace Go.Proofs.YtbnleajchmnbdaaGreatDoor
set_option maxHeartbeats 4000000
open Go.ChangeShapes Go.WideShapes Go.ChangeAt Go.RowKit Go.Deep

theorem own : ownKnob Tryz.prog.godebug = none := by kernel_rfl
def rowLaid : List (String × DataW Unit) := [("math/bits.deBruijn64tab", Rows.laid_math_bits_deBruijn64tab)]

def layTab (cs : Array Value) : Obj → Obj
 | .cells _ t frozen => .cells cs t frozen
 | o => o
noncomputable def laidWorld (os : Os) : World :=
 { World.holding Tryz.prog os ⟨#[], #[], []⟩ with heap := (World.holding Tryz.prog os ⟨#[], #[], []⟩).heap.modify 2 (layTab #[.int .u8 0, .int .u8 1, .int .u8 56, .int .u8 2, .int .u8 57, .int .u8 49, .int .u8 28, .int .u8 3, .int .u8 61, .int .u8 58, .int .u8 42, .int .u8 50, .int .u8 38, .int .u8 29, .int .u8 17, .int .u8 4, .int .u8 62, .int .u8 47, .int .u8 59, .int .u8 36, .int .u8 45, .int .u8 43, .int .u8 51, .int .u8 22, .int .u8 53, .int .u8 39, .int .u8 33, .int .u8 30, .int .u8 24, .int .u8 18, .int .u8 12, .int .u8 5, .int .u8 63, .int .u8 55, .int .u8 48, .int .u8 27, .int .u8 60, .int .u8 41, .int .u8 37, .int .u8 16, .int .u8 46, .int .u8 35, .int .u8 44, .int .u8 21, .int .u8 52, .int .u8 32, .int .u8 23, .int .u8 11, .int .u8 54, .int .u8 26, .int .u8 40, .int .u8 15, .int .u8 34, .int .u8 20, .int .u8 31, .int .u8 10, .int .u8 25, .int .u8 14, .int .u8 19, .int .u8 9, .int .u8 13, .int .u8 8, .int .u8 7, .int .u8 6]) }

theorem post_kept {H : Type} {enc : TypeId × Value → H} {f : Func} {s : ChangeSpec} {W W' : World} {args : Array Value} {ds : List (DataW H)} {before : List MemPlace}
 (hW : DataW.Whole enc Tryz.prog f.params.toList s.vars false W args.toList ds [] before) (hv : s.vars = []) (hr : f.resultTypes = #[4])
 (hfn : s.fn H (ds ++ []) = { results := [.lit (.bool true)], args := ds }) (hb : Below W.heap.size W W')
 (hargs : DataW.TrodAll enc Tryz.prog W' 0 (fun b => decide (b < W.heap.size)) true f.params.toList args.toList ds before) :
 s.post enc Tryz.prog f false true false false W args (.bool true) W' := by
 refine ⟨ds, [], before, [], before, [], hW, ?_, ?_, ?_, ?_, fun h => by cases h⟩
 ·rw [hfn, hr]
  exact trodAll_cons_mk (shut_bool Tryz.underlying4 _) trodAll_mk0
 ·rw [hfn]; exact hargs
 ·rw [hfn, hv]; exact rfl
 ·exact World.keptBut_mono (fun p hp => ⟨hp, .inr (.inl hp)⟩) (hb.frame (· ∈ before))

theorem gTz : Tryz.prog.globalNamed "math/bits.deBruijn64tab" = some 2 := by kernel_rfl
theorem gTzType : (Tryz.prog.globals[(2 : Nat)]?).map (·.type) = some 155 := by kernel_rfl
theorem cellsTz : Tryz.prog.cellsOf 155 = 64 := by kernel_rfl
theorem cellsU8 : Tryz.prog.cellsOf 5 = 1 := by kernel_rfl
theorem tz_of {W : World} (h : laidMetH Tryz.prog rowLaid W) : Tz W := by
 have h1 := Lib.tabIs_of_head (rest := []) (zs := Lib.deBruijn64tab.map fun n : Nat => (n : Int)) gTz gTzType Tryz.underlying155 Tryz.underlying5 cellsU8 cellsTz (show laidMet Tryz.prog rowLaid W from h)
 unfold Lib.TabIs World.var? at h1
 simp only [gTz, Option.bind_some] at h1
 intro j hj
 cases hh : W.heap[(2 : Nat)]? with
 | none => rw [hh] at h1; simp at h1
 | some o =>
  rw [hh] at h1
  cases o with
  | cells cs t fr =>
   have e : cs = ((Lib.deBruijn64tab.map fun n : Nat => (n : Int)).map fun z => Value.int .u8 z).toArray := by simpa using h1
   rw [Joins.cell_of_block hh, e]
   simp [List.getD, hj]
  | _ => simp at h1
theorem laidOut : laidOutB Tryz.prog = true := by kernel_rfl
theorem cellsU64 : Tryz.prog.cellsOf 119 = 1 := by kernel_rfl
theorem cellsInt : Tryz.prog.cellsOf 31 = 2 := by kernel_rfl
def natOf : Value → Nat
 | .int _ z => z.toNat
 | _ => 0
theorem spot_of {w : World} {a : Addr} {v : Value} (h : w.cell? a = some v) : a.spot = none := by
 unfold World.cell? at h
 split at h
 ·split at h
  ·cases h
  ·rename_i h2; simpa using h2
 ·cases h
theorem words_arg {H : Type} {enc : TypeId × Value → H} {W : World} {b : Nat} {sp : Nat → Bool} {hd : Bool} {n : Nat} {v : Value} {y : DataW H × List MemPlace} (h : DataW.trod enc Tryz.prog W b sp hd n 29 [v] = some y) :
 ∃ A c l, v = .slice A (List.length l) c ∧ l.length ≤ c ∧ c ≤ maxLen ∧ Rd W .u64 A l ∧ ∀ x ∈ l, x < B64 := by
 rcases open_slice1 Tryz.underlying29 cellsU64 h with ⟨h1, -⟩ | ⟨a, len, cap, m, k, V, D, Pl, h1, -, hl, hm, hmm, -, hx⟩
 ·exact ⟨none, 0, [], by simpa using h1, by simp, by simp, Rd.nil_ _ _, by simp⟩
 ·have hlm : len ≤ m := by rw [hmm]; split <;> omega
  have hV : ∀ i, i < len → ∃ z : Nat, V i = .int .u64 (z : Int) ∧ z < B64 := fun i hi => by
   obtain ⟨z, h2, -, hw⟩ := DataW.trod_int Tryz.underlying119 (hx i (by omega)).2
   have hz := bounds_u64 hw
   refine ⟨z.toNat, ?_, by simp only [B64]; omega⟩
   have : V i = .int .u64 z := by simpa using h2
   rw [this, Int.toNat_of_nonneg hz.1]
  refine ⟨some a, cap, (List.range len).map fun i => natOf (V i), by simpa using h1, by simpa using hl, hm, ⟨?_, ?_⟩, ?_⟩
  ·intro h0
   have h0' : 0 < len := by simpa using h0
   have := spot_of (hx 0 (by omega)).1
   obtain ⟨ab, ao, asp⟩ := a
   have e : asp = none := by simpa [Addr.add] using this
   exact ⟨ab, ao, by rw [e]⟩
  ·intro i hi
   have hi' : i < len := by simpa using hi
   obtain ⟨z, hz, -⟩ := hV i hi'
   have hc := (hx i (by omega)).1
   have hs := spot_of (hx 0 (by omega)).1
   obtain ⟨ab, ao, asp⟩ := a
   have e : asp = none := by simpa [Addr.add] using hs
   subst e
   rw [add_one_cell] at hc
   rw [adr_some, hc, hz]
   simp [nth, List.getD, hi', hz, natOf]
  ·intro x hx'
   obtain ⟨i, hi, rfl⟩ := List.mem_map.1 hx'
   obtain ⟨z, hz, hlt⟩ := hV i (by simpa using hi)
   rw [hz]
   simpa [natOf] using hlt
theorem cellsRat : Tryz.prog.cellsOf 33 = 4 := by kernel_rfl
theorem cellsBool : Tryz.prog.cellsOf 4 = 1 := by kernel_rfl
theorem cellsWords : Tryz.prog.cellsOf 29 = 1 := by kernel_rfl
theorem int_cells {H : Type} {enc : TypeId × Value → H} {W : World} {b : Nat} {sp : Nat → Bool} {hd : Bool} {n : Nat} {v0 v1 : Value} {y : DataW H × List MemPlace} (h : DataW.trod enc Tryz.prog W b sp hd n 31 [v0, v1] = some y) :
 ∃ i : IV, v0 = .bool i.neg ∧ v1 = .slice i.A i.k i.c ∧ ∃ z, IntD i z i.k W := by
 obtain ⟨y0, y1, m, -, -, h0, h1⟩ := trod_struct2 Tryz.underlying31 h
 have k0 : DataW.trod enc Tryz.prog W b sp hd m 4 [v0] = some y0 := by simpa [cellsBool] using h0
 have k1 : DataW.trod enc Tryz.prog W b sp hd m 29 [v1] = some y1 := by simpa [cellsWords] using h1
 obtain ⟨neg, h2, -⟩ := DataW.trod_bool Tryz.underlying4 k0
 obtain ⟨A, c, l, rfl, h3, h4, h5, h6⟩ := words_arg k1
 obtain rfl : v0 = .bool neg := by simpa using h2
 exact ⟨⟨neg, A, l.length, c⟩, rfl, rfl, _, ⟨⟨l, rfl, h5, h6, rfl⟩, h3, Nat.le_refl _⟩⟩
theorem list4 {α : Type} {l : List α} (h : l.length = 4) : ∃ a b c d, l = [a, b, c, d] := by
 match l, h with
 | [a, b, c, d], _ => exact ⟨a, b, c, d, rfl⟩
theorem list5 {α : Type} {l : List α} (h : l.length = 5) : ∃ a b c d e, l = [a, b, c, d, e] := by
 match l, h with
 | [a, b, c, d, e], _ => exact ⟨a, b, c, d, e, rfl⟩
theorem list1 {α : Type} {l : List α} (h : l.length = 1) : ∃ a, l = [a] := by
 match l, h with
 | [a], _ => exact ⟨a, rfl⟩
theorem bulk_pos {H : Type} (d : DataW H) : 1 ≤ Rows.uptoBulk d := by
 cases d with
 | lit l => cases l <;> simp [Rows.uptoBulk]
 | nil => simp [Rows.uptoBulk]
 | ptr d => simp [Rows.uptoBulk]
 | slice elems spare => simp [Rows.uptoBulk]
 | agg parts => simp [Rows.uptoBulk]
 | iface t d => simp [Rows.uptoBulk]
 | map entries => simp [Rows.uptoBulk]
 | held h => simp [Rows.uptoBulk]
theorem bulk_part {H : Type} {d : DataW H} {l : List (DataW H)} (h : d ∈ l) : Rows.uptoBulk d ≤ Rows.uptoBulkAll l := by
 induction l with
 | nil => cases h
 | cons x r ih =>
  simp only [Rows.uptoBulkAll]
  rcases List.mem_cons.1 h with rfl | e
  ·omega
  ·have := ih e; omega
theorem bulk_len {H : Type} (l : List (DataW H)) : l.length ≤ Rows.uptoBulkAll l := by
 induction l with
 | nil => simp [Rows.uptoBulkAll]
 | cons x r ih => have := bulk_pos x; simp only [Rows.uptoBulkAll, List.length_cons]; omega
theorem bulk_agg {H : Type} {d : DataW H} {l : List (DataW H)} (h : d ∈ l) : Rows.uptoBulk d ≤ Rows.uptoBulk (.agg l) := by
 have := bulk_part h
 simp only [Rows.uptoBulk]; omega
theorem bulk_elem {H : Type} {d : DataW H} {l r : List (DataW H)} (h : d ∈ l) : Rows.uptoBulk d ≤ Rows.uptoBulk (.slice l r) := by
 have := bulk_part h
 simp only [Rows.uptoBulk]; omega
theorem bulk_all {H : Type} {l : List (DataW H)} (hk : Rows.uptoSmall H l = true) : Rows.uptoBulkAll l ≤ 1048576 := of_decide_eq_true hk

theorem bulk_mul {H : Type} {m : Nat} {l : List (DataW H)} (h : ∀ d ∈ l, m ≤ Rows.uptoBulk d) : l.length * m ≤ Rows.uptoBulkAll l := by
 induction l with
 | nil => simp
 | cons x r ih =>
  have h1 := ih fun d hd => h d (List.mem_cons_of_mem _ hd)
  have h2 := h x (List.mem_cons_self ..)
  simp only [Rows.uptoBulkAll, List.length_cons, Nat.add_mul]
  omega
theorem array3 {α : Type} {x : Array α} (h : x.size = 3) : ∃ a b c, x = #[a, b, c] := by
 obtain ⟨l⟩ := x
 match l, h with
 | [a, b, c], _ => exact ⟨a, b, c, rfl⟩
theorem array2 {α : Type} {x : Array α} (h : x.size = 2) : ∃ a b, x = #[a, b] := by
 obtain ⟨l⟩ := x
 match l, h with
 | [a, b], _ => exact ⟨a, b, rfl⟩
theorem list9 {α : Type} {l : List α} (h : l.length = 9) : ∃ a b c d e f g i j, l = [a, b, c, d, e, f, g, i, j] := by
 match l, h with
 | [a, b, c, d, e, f, g, i, j], _ => exact ⟨a, b, c, d, e, f, g, i, j, rfl⟩
theorem list6 {α : Type} {l : List α} (h : l.length = 6) : ∃ a b c d e f, l = [a, b, c, d, e, f] := by
 match l, h with
 | [a, b, c, d, e, f], _ => exact ⟨a, b, c, d, e, f, rfl⟩
theorem okWide_array {P : Program} {w : World} {r : Reach} {base n : Nat} {t e : TypeId} {v : Value} (ht : P.underlying t = some (.array n e)) (h : Value.okWide P w r base t v) : ∃ cs, v = .agg cs ∧ cs.size = P.cellsOf t := by
 simp only [Value.okWide, ht] at h
 obtain ⟨cs, h1, h2, _⟩ := h
 exact ⟨cs, h1, h2⟩
instance : Inhabited TeV := ⟨⟨0, zeroR, 0⟩⟩
section
variable {H : Type} {enc : TypeId × Value → H} {w : World} {b : Nat} {sp : Nat → Bool} {hd : Bool}
theorem slice_els {α : Type} [Inhabited α] {t e : TypeId} {k : Nat} {cells : α → Array Value} {φ : α → Prop} (ht : Tryz.prog.underlying t = some (.slice e)) (hc : Tryz.prog.cellsOf e = k) (hk : 0 < k)
 (hq : ∀ n cs y, cs.length = k → DataW.trod enc Tryz.prog w b sp hd n e cs = some y → ∃ x, cs = (cells x).toList ∧ φ x) {v : Value} {n : Nat} {y : DataW H × List MemPlace} (h : DataW.trod enc Tryz.prog w b sp hd n t [v] = some y) :
 ∃ A c l, v = .slice A (List.length l) c ∧ l.length ≤ c ∧ El w k A (l.map cells) ∧ ∀ x ∈ l, φ x := by
 subst hc
 rcases open_slice ht h with ⟨h1, -⟩ | ⟨a, len, cap, m, n, D, Pl, h1, -, hl, hm, hmm, hy, hx⟩
 ·exact ⟨none, 0, [], by simpa using h1, by simp, El.nil_ _ _ _, by simp⟩
 ·have hlm : len ≤ m := by rw [hmm]; split <;> omega
  obtain ⟨f, hf⟩ := choose_lt (n := len) (p := fun i x => w.cells? b (a.add (i * Tryz.prog.cellsOf e)) (Tryz.prog.cellsOf e) = some (cells x).toList ∧ φ x) fun i hi => by
   obtain ⟨cs, h2, h3⟩ := hx i (by omega)
   obtain ⟨x, rfl, h4⟩ := hq _ _ _ (World.cells?_some h2).2.1 h3
   exact ⟨x, h2, h4⟩
  have hce : ∀ i, i < len → (cells (f i)).size = Tryz.prog.cellsOf e ∧ ∀ j, j < Tryz.prog.cellsOf e → w.cell? ((a.add (i * Tryz.prog.cellsOf e)).add j) = (cells (f i))[j]? := fun i hi => by
   obtain ⟨-, h2, h3⟩ := World.cells?_some (hf i hi).1
   exact ⟨by simpa using h2, fun j hj => by simpa using h3 j hj⟩
  have hsp : 0 < len → a.spot = none := fun h0 => by
   obtain ⟨h2, h3⟩ := hce 0 h0
   have h4 := h3 0 hk
   have h5 : 0 < (cells (f 0)).size := by omega
   rw [Array.getElem?_eq_getElem h5] at h4
   have := spot_of h4
   simpa [Addr.add] using this
  refine ⟨some a, cap, (List.range len).map f, by simpa using h1, by simpa using hl, ⟨?_, ?_, ?_⟩, ?_⟩
  ·intro h0
   have h0' : 0 < len := by simpa using h0
   obtain ⟨ab, ao, asp⟩ := a
   have : asp = none := hsp h0'
   exact ⟨ab, ao, by rw [this]⟩
  ·intro i hi
   have hi' : i < len := by simpa using hi
   simpa using (hce i hi').1
  ·intro i hi j hj
   have hi' : i < len := by simpa using hi
   have hc := (hce i hi').2 j hj
   have hs := hsp (by omega)
   obtain ⟨ab, ao, asp⟩ := a
   have e : asp = none := hs
   subst e
   rw [add_one_cell, add_one_cell, Nat.add_assoc] at hc
   rw [adr_some, hc]
   simp
  ·intro x hx'
   obtain ⟨i, hi, rfl⟩ := List.mem_map.1 hx'
   have hi' : i < len := by simpa using hi
   exact (hf i hi').2
theorem slice_elsN {α : Type} [Inhabited α] {t e : TypeId} {k : Nat} {cells : α → Array Value} {φ : α → Prop} (ht : Tryz.prog.underlying t = some (.slice e)) (hc : Tryz.prog.cellsOf e = k) (hk : 0 < k)
 {m0 : Nat} (hq : ∀ n cs y, cs.length = k → DataW.trod enc Tryz.prog w b sp hd n e cs = some y → Rows.uptoBulk y.1 ≤ 1048576 → m0 ≤ Rows.uptoBulk y.1 ∧ ∃ x, cs = (cells x).toList ∧ φ x) {v : Value} {n : Nat} {y : DataW H × List MemPlace} (h : DataW.trod enc Tryz.prog w b sp hd n t [v] = some y) (hB : Rows.uptoBulk y.1 ≤ 1048576) :
 ∃ A c l, v = .slice A (List.length l) c ∧ l.length ≤ c ∧ El w k A (l.map cells) ∧ (∀ x ∈ l, φ x) ∧ l.length * m0 ≤ 1048576 := by
 subst hc
 rcases open_slice ht h with ⟨h1, -⟩ | ⟨a, len, cap, m, n, D, Pl, h1, -, hl, hm, hmm, hy, hx⟩
 ·exact ⟨none, 0, [], by simpa using h1, by simp, El.nil_ _ _ _, by simp, by simp⟩
 ·have hlm : len ≤ m := by rw [hmm]; split <;> omega
  have hbk : ∀ i, i < len → Rows.uptoBulk (D i) ≤ Rows.uptoBulk y.1 := fun i hi => by
   rw [hy]
   exact bulk_elem (List.mem_map.2 ⟨i, by simpa using hi, rfl⟩)
  have hm0 : ∀ i, i < len → m0 ≤ Rows.uptoBulk (D i) := fun i hi => by
   obtain ⟨cs, h2, h3⟩ := hx i (by omega)
   exact (hq _ _ _ (World.cells?_some h2).2.1 h3 (Nat.le_trans (hbk i hi) hB)).1
  obtain ⟨f, hf⟩ := choose_lt (n := len) (p := fun i x => w.cells? b (a.add (i * Tryz.prog.cellsOf e)) (Tryz.prog.cellsOf e) = some (cells x).toList ∧ φ x) fun i hi => by
   obtain ⟨cs, h2, h3⟩ := hx i (by omega)
   obtain ⟨-, x, rfl, h4⟩ := hq _ _ _ (World.cells?_some h2).2.1 h3 (Nat.le_trans (hbk i hi) hB)
   exact ⟨x, h2, h4⟩
  have hce : ∀ i, i < len → (cells (f i)).size = Tryz.prog.cellsOf e ∧ ∀ j, j < Tryz.prog.cellsOf e → w.cell? ((a.add (i * Tryz.prog.cellsOf e)).add j) = (cells (f i))[j]? := fun i hi => by
   obtain ⟨-, h2, h3⟩ := World.cells?_some (hf i hi).1
   exact ⟨by simpa using h2, fun j hj => by simpa using h3 j hj⟩
  have hsp : 0 < len → a.spot = none := fun h0 => by
   obtain ⟨h2, h3⟩ := hce 0 h0
   have h4 := h3 0 hk
   have h5 : 0 < (cells (f 0)).size := by omega
   rw [Array.getElem?_eq_getElem h5] at h4
   have := spot_of h4
   simpa [Addr.add] using this
  refine ⟨some a, cap, (List.range len).map f, by simpa using h1, by simpa using hl, ⟨?_, ?_, ?_⟩, ?_, ?_⟩
  ·intro h0
   have h0' : 0 < len := by simpa using h0
   obtain ⟨ab, ao, asp⟩ := a
   have : asp = none := hsp h0'
   exact ⟨ab, ao, by rw [this]⟩
  ·intro i hi
   have hi' : i < len := by simpa using hi
   simpa using (hce i hi').1
  ·intro i hi j hj
   have hi' : i < len := by simpa using hi
   have hc := (hce i hi').2 j hj
   have hs := hsp (by omega)
   obtain ⟨ab, ao, asp⟩ := a
   have e : asp = none := hs
   subst e
   rw [add_one_cell, add_one_cell, Nat.add_assoc] at hc
   rw [adr_some, hc]
   simp
  ·intro x hx'
   obtain ⟨i, hi, rfl⟩ := List.mem_map.1 hx'
   have hi' : i < len := by simpa using hi
   exact (hf i hi').2
  ·have h9 := bulk_mul (m := m0) (l := (List.range len).map D) (fun d hd => by
    obtain ⟨i, hi, rfl⟩ := List.mem_map.1 hd
    exact hm0 i (by simpa using hi))
   rw [hy] at hB
   simp only [Rows.uptoBulk] at hB
   simp at h9 ⊢
   omega
theorem cellsTerm : Tryz.prog.cellsOf 60 = 5 := by kernel_rfl
theorem cellsI64 : Tryz.prog.cellsOf 3 = 1 := by kernel_rfl
theorem cellsVec : Tryz.prog.cellsOf 40 = 1 := by kernel_rfl
theorem cellsRats : Tryz.prog.cellsOf 23 = 1 := by kernel_rfl
theorem cellsVar : Tryz.prog.cellsOf 71 = 9 := by kernel_rfl
theorem cellsRow : Tryz.prog.cellsOf 51 = 6 := by kernel_rfl
theorem cellsKind : Tryz.prog.cellsOf 49 = 1 := by kernel_rfl
theorem cellsVars : Tryz.prog.cellsOf 37 = 1 := by kernel_rfl
theorem cellsRows : Tryz.prog.cellsOf 38 = 1 := by kernel_rfl
theorem cellsProg : Tryz.prog.cellsOf 42 = 3 := by kernel_rfl
theorem cellsY : Tryz.prog.cellsOf 43 = 2 := by kernel_rfl
theorem rat_one {n : Nat} {cs : List Value} {y : DataW H × List MemPlace} (h : DataW.trod enc Tryz.prog w b sp hd n 33 cs = some y) : ∃ p : RV × Rat, cs = (rtcells p).toList ∧ okR p w := by
 obtain ⟨y0, y1, m, -, hl, h0, h1⟩ := trod_struct2 Tryz.underlying33 h
 rw [cellsRat] at hl
 obtain ⟨c0, c1, c2, c3, rfl⟩ := list4 hl
 have k0 : DataW.trod enc Tryz.prog w b sp hd m 31 [c0, c1] = some y0 := by simpa [cellsInt] using h0
 have k1 : DataW.trod enc Tryz.prog w b sp hd m 31 [c2, c3] = some y1 := by simpa [cellsInt] using h1
 obtain ⟨i, rfl, rfl, x, hx⟩ := int_cells k0
 obtain ⟨j, rfl, rfl, y', hy⟩ := int_cells k1
 exact ⟨(⟨i, j⟩, if j.k = 0 then Rat.divInt x 1 else Rat.divInt x y'), rfl, x, y', hx.mono (Nat.le_add_right _ _), hy.mono (Nat.le_add_left _ _), rfl⟩
theorem rats_el {n : Nat} {v : Value} {y : DataW H × List MemPlace} (h : DataW.trod enc Tryz.prog w b sp hd n 23 [v] = some y) : ∃ A c l, v = .slice A (List.length l) c ∧ l.length ≤ c ∧ LsR 4 rtcells okR A l w := by
 obtain ⟨A, c, l, h1, h2, h3, h4⟩ := slice_els (cells := rtcells) (φ := fun p => okR p w) Tryz.underlying23 cellsRat (by decide) (fun n cs y _ h => rat_one h) h
 exact ⟨A, c, l, h1, h2, h3, h4⟩
theorem words_bulk {n : Nat} {A : Option Addr} {k c : Nat} {y : DataW H × List MemPlace} (h : DataW.trod enc Tryz.prog w b sp hd n 29 [.slice A k c] = some y) : k ≤ Rows.uptoBulk y.1 := by
 rcases open_slice1 Tryz.underlying29 cellsU64 h with ⟨h1, -⟩ | ⟨a, len, cap, m, n, V, D, Pl, h1, -, hl, hm, hmm, hy, hx⟩
 ·have : k = 0 := by simpa using (by simpa using h1 : A = none ∧ k = 0 ∧ c = 0).2.1
  omega
 ·have e : A = some a ∧ k = len ∧ c = cap := by simpa using h1
  rw [hy, e.2.1]
  simp only [Rows.uptoBulk]
  have := bulk_len ((List.range len).map D)
  simp at this ⊢
  omega
theorem int_cells_b {n : Nat} {v0 v1 : Value} {y : DataW H × List MemPlace} (h : DataW.trod enc Tryz.prog w b sp hd n 31 [v0, v1] = some y) :
 ∃ i : IV, v0 = .bool i.neg ∧ v1 = .slice i.A i.k i.c ∧ (∃ z, IntD i z i.k w) ∧ i.k ≤ Rows.uptoBulk y.1 := by
 obtain ⟨i, rfl, rfl, hz⟩ := int_cells h
 obtain ⟨y0, y1, m, hy, -, h0, h1⟩ := trod_struct2 Tryz.underlying31 h
 have k1 : DataW.trod enc Tryz.prog w b sp hd m 29 [.slice i.A i.k i.c] = some y1 := by simpa [cellsWords] using h1
 refine ⟨i, rfl, rfl, hz, Nat.le_trans (words_bulk k1) ?_⟩
 rw [hy]
 exact bulk_agg (by simp)
theorem rat_oneN {n : Nat} {cs : List Value} {y : DataW H × List MemPlace} (h : DataW.trod enc Tryz.prog w b sp hd n 33 cs = some y) (hB : Rows.uptoBulk y.1 ≤ 1048576) : ∃ p : RV × Rat, cs = (rtcells p).toList ∧ RatD p.1 p.2 1048576 w := by
 obtain ⟨y0, y1, m, hy, hl, h0, h1⟩ := trod_struct2 Tryz.underlying33 h
 rw [cellsRat] at hl
 obtain ⟨c0, c1, c2, c3, rfl⟩ := list4 hl
 have k0 : DataW.trod enc Tryz.prog w b sp hd m 31 [c0, c1] = some y0 := by simpa [cellsInt] using h0
 have k1 : DataW.trod enc Tryz.prog w b sp hd m 31 [c2, c3] = some y1 := by simpa [cellsInt] using h1
 obtain ⟨i, rfl, rfl, ⟨x, hx⟩, b0⟩ := int_cells_b k0
 obtain ⟨j, rfl, rfl, ⟨y', hy'⟩, b1⟩ := int_cells_b k1
 have a0 : Rows.uptoBulk y0.1 ≤ 1048576 := Nat.le_trans (by rw [hy]; exact bulk_agg (by simp)) hB
 have a1 : Rows.uptoBulk y1.1 ≤ 1048576 := Nat.le_trans (by rw [hy]; exact bulk_agg (by simp)) hB
 exact ⟨(⟨i, j⟩, if j.k = 0 then Rat.divInt x 1 else Rat.divInt x y'), rfl, x, y', hx.mono (Nat.le_trans b0 a0), hy'.mono (Nat.le_trans b1 a1), rfl⟩
theorem term_oneN {n : Nat} {cs : List Value} {y : DataW H × List MemPlace} (h : DataW.trod enc Tryz.prog w b sp hd n 60 cs = some y) (hB : Rows.uptoBulk y.1 ≤ 1048576) : 2 ≤ Rows.uptoBulk y.1 ∧ ∃ t : TeV, cs = (tecells t).toList ∧ teD 1048576 t w := by
 obtain ⟨y0, y1, m, hy, hl, h0, h1⟩ := trod_struct2 Tryz.underlying60 h
 rw [cellsTerm] at hl
 obtain ⟨c0, c1, c2, c3, c4, rfl⟩ := list5 hl
 have k0 : DataW.trod enc Tryz.prog w b sp hd m 3 [c0] = some y0 := by simpa [cellsI64] using h0
 have k1 : DataW.trod enc Tryz.prog w b sp hd m 33 [c1, c2, c3, c4] = some y1 := by simpa [cellsRat] using h1
 obtain ⟨z, e0, -, -⟩ := DataW.trod_int Tryz.underlying3 k0
 obtain ⟨p, e, hp⟩ := rat_oneN k1 (Nat.le_trans (by rw [hy]; exact bulk_agg (by simp)) hB)
 obtain rfl : c0 = .int .i64 z := by simpa using e0
 refine ⟨?_, ⟨z, p.1, p.2⟩, by rw [e]; rfl, hp⟩
 rw [hy]
 have := bulk_pos y0.1
 simp only [Rows.uptoBulk, Rows.uptoBulkAll]
 omega
theorem terms_elN {n : Nat} {v : Value} {y : DataW H × List MemPlace} (h : DataW.trod enc Tryz.prog w b sp hd n 40 [v] = some y) (hB : Rows.uptoBulk y.1 ≤ 1048576) : ∃ A c l, v = .slice A (List.length l) c ∧ LsR 5 tecells (teD 1048576) A l w ∧ l.length ≤ 1000000 := by
 obtain ⟨A, c, l, h1, -, h3, h4, h5⟩ := slice_elsN (cells := tecells) (φ := fun t => teD 1048576 t w) Tryz.underlying40 cellsTerm (by decide) (fun n cs y _ h hB => term_oneN h hB) h hB
 exact ⟨A, c, l, h1, ⟨h3, h4⟩, by omega⟩
theorem var_oneN {n : Nat} {cs : List Value} {y : DataW H × List MemPlace} (h : DataW.trod enc Tryz.prog w b sp hd n 71 cs = some y) (hB : Rows.uptoBulk y.1 ≤ 1048576) : ∃ v : VaV, cs = (vacells v).toList ∧ vaD 1048576 v w := by
 obtain ⟨y0, y1, y2, m, hy, hl, h0, h1, h2⟩ := trod_struct3 Tryz.underlying71 h
 rw [cellsVar] at hl
 obtain ⟨c0, c1, c2, c3, c4, c5, c6, c7, c8, rfl⟩ := list9 hl
 have k0 : DataW.trod enc Tryz.prog w b sp hd m 33 [c0, c1, c2, c3] = some y0 := by simpa [cellsRat] using h0
 have k1 : DataW.trod enc Tryz.prog w b sp hd m 33 [c4, c5, c6, c7] = some y1 := by simpa [cellsRat] using h1
 have k2 : DataW.trod enc Tryz.prog w b sp hd m 4 [c8] = some y2 := by simpa [cellsBool] using h2
 obtain ⟨p, e, hp⟩ := rat_oneN k0 (Nat.le_trans (by rw [hy]; exact bulk_agg (by simp)) hB)
 obtain ⟨q, e', hq⟩ := rat_oneN k1 (Nat.le_trans (by rw [hy]; exact bulk_agg (by simp)) hB)
 obtain ⟨B, h3, -⟩ := DataW.trod_bool Tryz.underlying4 k2
 obtain rfl : c8 = .bool B := by simpa using h3
 unfold rtcells at e e'
 simp only [List.cons.injEq, and_true] at e e'
 obtain ⟨rfl, rfl, rfl, rfl⟩ := e
 obtain ⟨rfl, rfl, rfl, rfl⟩ := e'
 exact ⟨⟨p, q, B⟩, rfl, hp, hq⟩
theorem row_oneN {n : Nat} {cs : List Value} {y : DataW H × List MemPlace} (h : DataW.trod enc Tryz.prog w b sp hd n 51 cs = some y) (hB : Rows.uptoBulk y.1 ≤ 1048576) : ∃ r : RoV, cs = (rwcells r).toList ∧ rwD 1048576 r w ∧ r.ts.length ≤ 1000000 := by
 obtain ⟨y0, y1, y2, m, hy, hl, h0, h1, h2⟩ := trod_struct3 Tryz.underlying51 h
 rw [cellsRow] at hl
 obtain ⟨c0, c1, c2, c3, c4, c5, rfl⟩ := list6 hl
 have k0 : DataW.trod enc Tryz.prog w b sp hd m 40 [c0] = some y0 := by simpa [cellsVec] using h0
 have k1 : DataW.trod enc Tryz.prog w b sp hd m 49 [c1] = some y1 := by simpa [cellsKind] using h1
 have k2 : DataW.trod enc Tryz.prog w b sp hd m 33 [c2, c3, c4, c5] = some y2 := by simpa [cellsRat] using h2
 obtain ⟨A, c, l, rfl, hA, hn⟩ := terms_elN k0 (Nat.le_trans (by rw [hy]; exact bulk_agg (by simp)) hB)
 obtain ⟨z, e1, -, -⟩ := DataW.trod_int Tryz.underlying49 k1
 obtain ⟨q, e', hq⟩ := rat_oneN k2 (Nat.le_trans (by rw [hy]; exact bulk_agg (by simp)) hB)
 obtain rfl : c1 = .int .u8 z := by simpa using e1
 unfold rtcells at e'
 simp only [List.cons.injEq, and_true] at e'
 obtain ⟨rfl, rfl, rfl, rfl⟩ := e'
 exact ⟨⟨A, c, l, z, q⟩, rfl, ⟨hA, hq⟩, hn⟩
set_option maxRecDepth 100000 in
theorem prog_arg {b0 : Nat} {rr : Reach} {v : Value} {d : DataW H} {p : List MemPlace} (hv : Value.okWide Tryz.prog w rr b0 42 v) (h : DataW.Trod enc Tryz.prog w b sp hd 42 v d p) (hB : Rows.uptoBulk d ≤ 1048576) :
 ∃ f : PrV, v = .agg #[.slice f.Av f.vars.length f.cv, .slice f.Ar f.rows.length f.cr, .slice f.Ak f.cost.length f.ck] ∧ PrD 1048576 f w ∧ (∀ r ∈ f.rows, r.ts.length ≤ 1000000) ∧ f.cost.length ≤ 1000000 := by
 obtain ⟨cs, rfl, hsz⟩ := okWide_struct Tryz.underlying42 hv
 obtain ⟨c0, c1, c2, rfl⟩ := array3 (hsz.trans cellsProg)
 obtain ⟨fuel, hf⟩ := h
 obtain ⟨y0, y1, y2, n, hy, -, h0, h1, h2⟩ := trod_struct3 Tryz.underlying42 hf
 have k0 : DataW.trod enc Tryz.prog w b sp hd n 37 [c0] = some y0 := by simpa [Value.cells, cellsVars] using h0
 have k1 : DataW.trod enc Tryz.prog w b sp hd n 38 [c1] = some y1 := by simpa [Value.cells, cellsRows] using h1
 have k2 : DataW.trod enc Tryz.prog w b sp hd n 40 [c2] = some y2 := by simpa [Value.cells, cellsVec] using h2
 have hd : d = .agg [y0.1, y1.1, y2.1] := congrArg Prod.fst hy
 obtain ⟨A0, q0, l0, rfl, -, g0, f0, -⟩ := slice_elsN (m0 := 0) (cells := vacells) (φ := fun v => vaD 1048576 v w) Tryz.underlying37 cellsVar (by decide) (fun n cs y _ h hB => ⟨Nat.zero_le _, var_oneN h hB⟩) k0 (Nat.le_trans (by rw [hd]; exact bulk_agg (by simp)) hB)
 obtain ⟨A1, q1, l1, rfl, -, g1, f1, -⟩ := slice_elsN (m0 := 0) (cells := rwcells) (φ := fun r => rwD 1048576 r w ∧ r.ts.length ≤ 1000000) Tryz.underlying38 cellsRow (by decide) (fun n cs y _ h hB => ⟨Nat.zero_le _, row_oneN h hB⟩) k1 (Nat.le_trans (by rw [hd]; exact bulk_agg (by simp)) hB)
 obtain ⟨A2, q2, l2, rfl, g2, hn2⟩ := terms_elN k2 (Nat.le_trans (by rw [hd]; exact bulk_agg (by simp)) hB)
 exact ⟨⟨A0, q0, l0, A1, q1, l1, A2, q2, l2⟩, rfl, ⟨⟨g0, f0⟩, ⟨g1, fun r hr => (f1 r hr).1⟩, g2⟩, fun r hr => (f1 r hr).2, hn2⟩
set_option maxRecDepth 100000 in
theorem rats_arg {b0 : Nat} {rr : Reach} {v : Value} {d : DataW H} {p : List MemPlace} (hv : Value.okWide Tryz.prog w rr b0 23 v) (h : DataW.Trod enc Tryz.prog w b sp hd 23 v d p) :
 ∃ A c l, v = .slice A (List.length l) c ∧ l.length ≤ c ∧ LsR 4 rtcells okR A l w := by
 obtain ⟨a, len, cap, rfl⟩ := okWide_slice Tryz.underlying23 hv
 obtain ⟨n, hf⟩ := h
 exact rats_el hf
set_option maxRecDepth 100000 in
theorem ys_arg {b0 : Nat} {rr : Reach} {v : Value} {d : DataW H} {p : List MemPlace} (hv : Value.okWide Tryz.prog w rr b0 43 v) (h : DataW.Trod enc Tryz.prog w b sp hd 43 v d p) :
 ∃ A0 c0 l0 A1 c1 l1, v = .agg #[.slice A0 (List.length l0) c0, .slice A1 (List.length l1) c1] ∧ l0.length ≤ c0 ∧ LsR 4 rtcells okR A0 l0 w ∧ l1.length ≤ c1 ∧ LsR 4 rtcells okR A1 l1 w := by
 obtain ⟨cs, rfl, hsz⟩ := okWide_array Tryz.underlying43 hv
 obtain ⟨e0, e1, rfl⟩ := array2 (hsz.trans cellsY)
 obtain ⟨fuel, hf⟩ := h
 obtain ⟨xs, m, -, -, -, hx, hi⟩ := DataW.trod_array Tryz.underlying43 hf
 match xs, hx with
 | [y0, y1], _ =>
  have k0 : DataW.trod enc Tryz.prog w b sp hd m 23 [e0] = some y0 := by simpa [Value.cells, cellsRats] using hi 0 (by decide)
  have k1 : DataW.trod enc Tryz.prog w b sp hd m 23 [e1] = some y1 := by simpa [Value.cells, cellsRats] using hi 1 (by decide)
  obtain ⟨A0, q0, l0, rfl, a0, g0⟩ := rats_el k0
  obtain ⟨A1, q1, l1, rfl, a1, g1⟩ := rats_el k1
  exact ⟨A0, q0, l0, A1, q1, l1, rfl, a0, g0, a1, g1⟩
end
end Go.Proofs.YtbnleajchmnbdaaGreatDoor
namespace Go.Proofs.YtbnleajchmnbdaaGreatDoor.proofHolds
set_option maxHeartbeats 4000000
open Go.ChangeShapes Go.WideShapes Go.ChangeAt Go.RowKit Go.ChangeMaps

set_option maxRecDepth 100000 in
theorem contract (H : Type) (enc : TypeId × Value → H) (W : World) (base : Nat) (args : Array Value) (ds gs : List (DataW H)) (before : List MemPlace)
 (hval : ∀ (j : Nat) t v, Tryz.f4.params[j]? = some t → args[j]? = some v → Value.okWide Tryz.prog W .any base t v)
 (hW : DataW.Whole enc Tryz.prog Tryz.f4.params.toList Rows.proofHoldsSpec.vars false W args.toList ds gs before) (hL : laidMetH Tryz.prog Rows.proofHoldsUptoRow.laid W) (hk : Rows.uptoSmall H (ds ++ gs) = true) :
 Calls Tryz.prog 4 args W fun e W' => ∃ v, e = .returned v ∧ Rows.proofHoldsSpec.post enc Tryz.prog Tryz.f4 false true false false W args v W' := by
 have hW' := hW
 have hlt := hW.lt
 obtain ⟨p, q, hA, hV, rfl, hfz, hnd⟩ := hW
 obtain ⟨rfl, rfl⟩ := trodVars_none hV
 rw [Tryz.params4] at hA
 obtain ⟨v0, vs0, d0, ds0, p0, q0, hargs, rfl, rfl, h0, t0⟩ := trodAll_cons hA
 obtain ⟨v1, vs1, d1, ds1, p1, q1, rfl, rfl, rfl, h1, t1⟩ := trodAll_cons t0
 obtain ⟨v2, vs2, d2, ds2, p2, q2, rfl, rfl, rfl, h2, t2⟩ := trodAll_cons t1
 obtain ⟨rfl, rfl, rfl⟩ := trodAll_nil t2
 obtain rfl : args = #[v0, v1, v2] := by cases args; simp_all
 have hbk := bulk_all (by simpa only [List.append_nil] using hk)
 obtain ⟨f0, rfl, x0, ht0, hk0⟩ := prog_arg (hval 0 _ v0 (by rw [Tryz.params4]; rfl) rfl) h0 (Nat.le_trans (bulk_part (by simp)) hbk)
 obtain ⟨A1, c1, l1, rfl, hn1, hr1⟩ := rats_arg (hval 1 _ v1 (by rw [Tryz.params4]; rfl) rfl) h1
 obtain ⟨A2, c2, l2, A2', c2', l2', rfl, hn2, hr2, hn2', hr2'⟩ := ys_arg (hval 2 _ v2 (by rw [Tryz.params4]; rfl) rfl) h2
 refine (proofHolds_any W 1048576 (by decide) (by decide) f0 x0 ht0 hk0 A1 c1 l1 hr1 A2 c2 l2 hr2 hn2 A2' c2' l2' hr2' hn2' (tz_of hL)).mono fun e W' ⟨he, hb⟩ => ?_
 subst he
 exact ⟨_, rfl, post_kept hW' rfl rfl rfl hb (by rw [Tryz.params4]; simpa only [List.append_nil] using trodAll_cons_mk (Below.trod laidOut (by kernel_rfl) (of_decide_eq_true (by kernel_rfl)) h0 hb (fun x hx => hlt x (by simp [hx]))) (trodAll_cons_mk (Below.trod laidOut (by kernel_rfl) (of_decide_eq_true (by kernel_rfl)) h1 hb (fun x hx => hlt x (by simp [hx]))) (trodAll_cons_mk (Below.trod laidOut (by kernel_rfl) (of_decide_eq_true (by kernel_rfl)) h2 hb (fun x hx => hlt x (by simp [hx]))) (trodAll_mk0))))⟩

theorem laid_met (os : Os) : laidMet Tryz.prog Rows.proofHoldsUptoRow.laid ((laidWorld os).forCall (fun _ _ => 0) ⟨#[], #[.agg #[.slice none 0 0, .slice none 0 0, .slice none 0 0], .slice none 0 0, .agg #[.slice none 0 0, .slice none 0 0]], []⟩).memory :=
 laidMet_of_run' 8 (by kernel_rfl) (by kernel_rfl)
theorem reads (os : Os) {H : Type} (enc : TypeId × Value → H) : ∃ places, DataW.whole enc Tryz.prog ((laidWorld os).forCall (fun _ _ => 0) ⟨#[], #[.agg #[.slice none 0 0, .slice none 0 0, .slice none 0 0], .slice none 0 0, .agg #[.slice none 0 0, .slice none 0 0]], []⟩).memory Tryz.f4.params.toList Rows.proofHoldsSpec.vars false (#[.agg #[.slice none 0 0, .slice none 0 0, .slice none 0 0], .slice none 0 0, .agg #[.slice none 0 0, .slice none 0 0]] : Array Value).toList 8 = some ([.agg [.nil, .nil, .nil], .nil, .agg [.nil, .nil]], [], places) :=
 ⟨[], by kernel_rfl⟩

set_option maxRecDepth 100000 in
theorem lifted (os : Os) (started : os.Started) (H : Type) (enc : TypeId × Value → H) (F : Stop.Interp) :
 ReturnsInHanded {} Tryz.checked os 4 .any ((Rows.OpenSpec.upto Rows.proofHoldsSpec).preRow enc Tryz.prog Tryz.f4 Rows.proofHoldsUptoRow.domain false Rows.proofHoldsUptoRow.laid) (((Rows.OpenSpec.upto Rows.proofHoldsSpec).at F).post enc Tryz.prog Tryz.f4 false true false false) := by
 obtain ⟨places, hx⟩ := reads os enc
 refine returnsInHanded_of_row (C := Tryz.checked) (s := Rows.OpenSpec.upto Rows.proofHoldsSpec) own started (by kernel_rfl) Tryz.func4
  (witness_row_at (enc := enc) (C := Tryz.checked) false (laidWorld os) #[.agg #[.slice none 0 0, .slice none 0 0, .slice none 0 0], .slice none 0 0, .agg #[.slice none 0 0, .slice none 0 0]] rfl (by kernel_rfl) (by kernel_rfl) (by kernel_rfl)
   (OpenSpec.preRow_of_cond 8 hx (by kernel_rfl) (fun k hk => by cases hk; kernel_rfl) (by kernel_rfl) (laid_met os))) ?_
 intro W base args ds gs before hval hW _ hcond _ hL _ _
 exact contract H enc W base args ds gs before hval hW hL (hcond _ rfl)

theorem and_tr {a b : Bool} (h : a = true) (h' : b = true) : (a && b) = true := by rw [h, h']; rfl
theorem closed : joinedFacts Tryz.pinned.checked.prog 4 Tryz.f4 (Rows.OpenSpec.upto Rows.proofHoldsSpec).bare Rows.proofHoldsUptoRow = true := by
 unfold joinedFacts
 repeat' (with_reducible refine and_tr ?_ ?_)
 all_goals (as_aux_lemma => kernel_rfl)
theorem said : Rows.ProofHoldsUptoSaid :=
 OpenClaim.holds_of_cond 4 Tryz.f4 rfl rfl rfl rfl rfl rfl rfl ⟨rfl, rfl, rfl, rfl, rfl⟩ rfl rfl rfl rfl rfl (by kernel_rfl) Tryz.func4 closed
  (of_decide_eq_true (by kernel_rfl)) (by unfold Func.isWrapper; first | (rw [if_pos (by decide +kernel)]; kernel_rfl) | (rw [if_neg (by decide +kernel)]; exact ⟨rfl, rfl⟩))
  (fun os started H enc _ F => by rw [OpenClaim.pre_eq_preRow]; exact lifted os started H enc F)

theorem plain (f : FuncId) (fn : Func) (hf : Tryz.pinned.checked.prog.funcNamed "tripwire/tripwirelaw17.ProofHolds" = some f) (hfn : Tryz.pinned.checked.prog.funcs[f]? = some fn) :
 false = Tryz.pinned.checked.prog.looks [] ∧ ∀ (j : Nat) t, fn.params[j]? = some t → Tryz.pinned.checked.prog.wantsStandIn t = false := by
 obtain rfl : f = 4 := Option.some.inj ((show Tryz.prog.funcNamed "tripwire/tripwirelaw17.ProofHolds" = some 4 by kernel_rfl).symm.trans hf) |>.symm
 obtain rfl : fn = Tryz.f4 := (Option.some.inj (Tryz.func4.symm.trans hfn)).symm
 refine ⟨by kernel_rfl, fun j t ht => ?_⟩
 rw [Tryz.params4] at ht
 match j, ht with
 | 0, ht => have e := Option.some.inj ht; rw [← e]; exact (show Tryz.prog.wantsStandIn 42 = false by kernel_rfl)
 | 1, ht => have e := Option.some.inj ht; rw [← e]; exact (show Tryz.prog.wantsStandIn 23 = false by kernel_rfl)
 | 2, ht => have e := Option.some.inj ht; rw [← e]; exact (show Tryz.prog.wantsStandIn 43 = false by kernel_rfl)
 | n + 3, ht => simp at ht

theorem card : Rows.ProofHoldsUptoCardSaid :=
 Claim7.holds_tied_plain_at .later [] _ _ _ _ said (fun _ h => by cases h) (by kernel_rfl) (fun _ h => by cases h) proofHoldsUpto_row_tie rfl ⟨rfl, rfl⟩ (by kernel_rfl) rfl plain (by kernel_rfl)
end Go.Proofs.YtbnleajchmnbdaaGreatDoor.proofHolds
#print axioms Go.Proofs.YtbnleajchmnbdaaGreatDoor.proofHolds.card
