/-
  tripwireref02.Make; tripwireref03.Text.
-/
import Derived.Test.YthffandpjjnkhaaDoorRefD
import Derived.Test.YthffandpjjnkhaaDoorText
namespace Go.Proofs.YthffandpjjnkhaaDoor
open Go.RowKit

/-- the sign of a number in its one form -/
def sgn (neg : Bool) (v : Nat) : Bool := if v = 0 then false else neg
/-- a whole number told -/
def RetI (neg : Bool) (v : Nat) (w : World) (e : Ending) (w' : World) : Prop :=
  ∃ A c, e = .returned (.agg #[.bool neg, .slice A (digs B64 v).length c]) ∧ (digs B64 v).length ≤ c ∧ Rd w' .u64 A (digs B64 v) ∧ Below w.heap.size w w' ∧ Fr w.heap.size A (digs B64 v)

theorem fr_set {W : World} {A : Option Addr} {l : List Nat} {k : IntKind} (h : Rd W k A l) {a : Addr} (hf : Fr (a.block + 1) A l) (v : Value) : Rd (W.setCell a v) k A l :=
  ⟨h.sl, fun i hi => by
    rw [World.cell?_setCell_other _ _ _ _ (fun e => by have := hf i hi; rw [← e] at this; omega)]
    exact h.cell i hi⟩

set_option maxRecDepth 100000 in
set_option maxHeartbeats 1000000 in
theorem rmake_any (w : World) (neg : Bool) (A : Option Addr) (c : Nat) (l : List Nat) (hl : l.length ≤ 1000000) (ha : Rd w .u64 A l) (hx : ∀ x ∈ l, x < B64) :
    Calls Tryd.prog 52 #[.bool neg, .slice A l.length c] w (RetI (sgn neg (val B64 l)) (val B64 l) w) := by
  have hlx := small_len hx
  have Ha := Lib.hid ha; have Hx := Lib.hid hx
  clear ha hx
  go_enter Tryd.func52, Tryd.ntmps52
  go_wp2_with fail
  refine (small_any _ A c l (by omega) (Ha.out.alloc _) Hx.out).mono ?_
  rintro e w1 ⟨A1, c1, rfl, hc1, hr1, hb1, -⟩
  have Hlg := Lib.hid (large_any w1 A1 c1 (digs 256 (val B64 l)) (by omega) hc1 hr1 (digs_lt (by decide) _))
  rw [val_digs (by decide)] at Hlg
  have HB1 := Lib.hid ((Blk.new w 25 #[.bool false, .slice none 0 0]).below hb1 (by simp))
  have Hb1 := Lib.hid (show Below w.heap.size w w1 from (Below.of_alloc _ _).trans (hb1.mono (by simp)))
  have hz1 : w.heap.size + 1 ≤ w1.heap.size := by have := hb1.size; simpa using this
  clear hc1 hr1 hb1
  go_wp2_with fail
  refine Hlg.out.mono ?_
  rintro e w2 ⟨A2, c2, rfl, hc2, hr2, hb2, hf2⟩
  have hB2 := HB1.out.below hb2 HB1.out.lt
  have Hb2 := Lib.hid (Hb1.out.trans (hb2.mono Hb1.out.size))
  have Hr2 := Lib.hid hr2; have Hf2 := Lib.hid hf2; have Hc2 := Lib.hid hc2
  have p0 : w2.cell? ⟨w.heap.size, 0, none⟩ = some (.bool false) := hB2.cell 0
  have p1 : w2.cell? ⟨w.heap.size, 1, none⟩ = some (.slice none 0 0) := hB2.cell 1
  have p2 : w2.frozen? ⟨w.heap.size, 0, none⟩ = false := hB2.frozen 0
  have p3 : w2.frozen? ⟨w.heap.size, 1, none⟩ = false := hB2.frozen 1
  have HB2 := Lib.hid hB2
  clear hB2 hr2 hf2 hc2 hb2 Hlg hlx
  obtain ⟨V, hV⟩ : ∃ V, V = val B64 l := ⟨_, rfl⟩
  rw [← hV] at Hr2 Hf2 Hc2 ⊢
  have HV := Lib.hid hV; clear hV
  have hfin : ∀ ng, ng = sgn neg V → RetI (sgn neg (val B64 l)) (val B64 l) w (.returned (.agg #[.bool ng, .slice A2 (digs B64 V).length c2])) ((w2.setCell ⟨w.heap.size, 0, none⟩ (.bool ng)).setCell ⟨w.heap.size, 1, none⟩ (.slice A2 (digs B64 V).length c2)) := by
    rintro ng rfl
    rw [← HV.out]
    refine ⟨A2, c2, rfl, Hc2.out, ?_, ?_, ?_⟩
    · have hf : Fr (w.heap.size + 1) A2 (digs B64 V) := fun i hi => Nat.le_trans hz1 (Hf2.out i hi)
      exact fr_set (fr_set Hr2.out (a := ⟨w.heap.size, 0, none⟩) hf _) (a := ⟨w.heap.size, 1, none⟩) hf _
    · exact (Hb2.out.setCell (p := ⟨w.heap.size, 0, none⟩) (Nat.le_refl _) _).setCell (p := ⟨w.heap.size, 1, none⟩) (Nat.le_refl _) _
    · intro i hi; have := Hf2.out i hi; omega
  have Hfin := Lib.hid hfin; clear hfin
  have hres : ∀ ng, Blk ((w2.setCell ⟨w.heap.size, 0, none⟩ (.bool ng)).setCell ⟨w.heap.size, 1, none⟩ (.slice A2 (digs B64 V).length c2)) w.heap.size 25 #[.bool ng, .slice A2 (digs B64 V).length c2] := fun ng => (HB2.out.set_ 0 (.bool ng)).set_ 1 (.slice A2 (digs B64 V).length c2)
  have Hres := Lib.hid hres; clear hres
  by_cases h0 : V = 0
  · have hn : (((digs B64 V).length : Int) == 0) = true := by rw [h0]; rfl
    have Hs := Lib.hid (show false = sgn neg V by rw [h0]; rfl)
    clear h0
    go_wp2_with fail
    have q0 := (Hres.out false).cell 0
    have q1 := (Hres.out false).cell 1
    have Hf := Hfin.out false Hs.out
    clear p0 p1 p2 p3
    generalize ((w2.setCell ⟨w.heap.size, 0, none⟩ (.bool false)).setCell ⟨w.heap.size, 1, none⟩ (.slice A2 (digs B64 V).length c2)) = W at *
    exact bodyPost_ret (v := .agg #[.bool false, .slice A2 (digs B64 V).length c2]) (by simp [results, Tryd.results52, go_sem, q0, q1]) rfl Hf
  · have hn : (((digs B64 V).length : Int) == 0) = false := by
      simp
      intro e
      have := List.eq_nil_of_length_eq_zero (show (digs B64 V).length = 0 by rw [e]; rfl)
      rw [digs_nil_iff (by decide)] at this
      exact h0 this
    have Hs := Lib.hid (show neg = sgn neg V by unfold sgn; rw [if_neg h0])
    clear h0
    go_wp2_with fail
    have q0 := (Hres.out neg).cell 0
    have q1 := (Hres.out neg).cell 1
    have Hf := Hfin.out neg Hs.out
    clear p0 p1 p2 p3
    generalize ((w2.setCell ⟨w.heap.size, 0, none⟩ (.bool neg)).setCell ⟨w.heap.size, 1, none⟩ (.slice A2 (digs B64 V).length c2)) = W at *
    exact bodyPost_ret (v := .agg #[.bool neg, .slice A2 (digs B64 V).length c2]) (by simp [results, Tryd.results52, go_sem, q0, q1]) rfl Hf
end Go.Proofs.YthffandpjjnkhaaDoor
