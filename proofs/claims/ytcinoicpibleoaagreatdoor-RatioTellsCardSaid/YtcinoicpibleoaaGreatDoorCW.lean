/-
  tripwirelow.CopyWords.
-/
import Derived.Test.YtcinoicpibleoaaGreatDoorOwn
import Derived.Test.YtcinoicpibleoaaGreatDoorVal
import Derived.Test.YtcinoicpibleoaaGreatDoorLowB
import Derived.Deep.DeepMust
import Derived.Deep.DeepCutAuto
namespace Go.Proofs.YtcinoicpibleoaaGreatDoor
open Go.RowKit

theorem run_copyWords (w : World) (A : Option Addr) (c : Nat) (l : List Nat) (hl : l.length ≤ 1000000) (hr : Rd w .u64 A l) :
    ∃ v' w', (Builtin.append_ #[27, 27] 27 #[.slice none 0 0, .slice A l.length c]).run Tryz.prog w = .ok v' w' ∧ Own w' w.heap.size 101 .u64 v' l ∧ Below w.heap.size w w' := by
  obtain ⟨i0, hi0, hz0, hz1, hz2⟩ := info_parts info_u64
  cases A with
  | none =>
    have h0 : l = [] := by
      rcases Nat.eq_zero_or_pos l.length with h | h
      · exact List.eq_nil_of_length_eq_zero h
      · obtain ⟨b, o, e⟩ := hr.sl h; cases e
    subst h0
    exact ⟨.slice none 0 0, w, by simp [Builtin.append_, run_underlying Tryz.underlying27, sizeOf, typeInfo, hi0, Builtin.lenOf, Builtin.firstCells], Own.nil_ _ _ _ _, Below.refl _ _⟩
  | some a =>
    have hcells : ∀ j u, (vals .u64 l)[j]? = some u → w.cell? (a.add j) = some u := by
      intro j u hu
      have hj : j < l.length := by
        rcases Nat.lt_or_ge j l.length with h | h
        · exact h
        · simp [vals, h] at hu
      obtain ⟨b, o, e⟩ := hr.sl (by omega)
      cases e
      have h1 := hr.cell j hj
      rw [adr_some] at h1
      rw [add_one_cell, h1, ← hu]
      simp [vals, nth, List.getD, hj]
    obtain ⟨v', w', hrun, h2, h3, -⟩ := run_append_own (P := Tryz.prog) w w.heap.size 27 27 101 i0 (.int .u64 0) 1 8 Tryz.underlying27 hi0 hz0 hz1 hz2 rfl (by decide) (.slice none 0 0) 0 [] (World.ownsRow_nil _ _ _ _) a l.length c (vals .u64 l) (by simp [vals]) hcells (by intro u hu; simp [vals] at hu; obtain ⟨x, -, rfl⟩ := hu; rfl) (by simp only [maxLen]; omega) (by omega) (Nat.le_refl _)
    refine ⟨v', w', hrun, by simpa [Own] using h2, (Below.refl _ _).grown h3 (Nat.le_refl _) (fun b hb => by cases hb)⟩

set_option maxRecDepth 100000 in
set_option maxHeartbeats 1000000 in
theorem copyWords_any (w : World) (A : Option Addr) (c : Nat) (l : List Nat) (hl : l.length ≤ 1000000) (hr : Rd w .u64 A l) :
    Calls Tryz.prog 68 #[.slice A l.length c] w (RetL .u64 l w) := by
  obtain ⟨v', w', hrun, ho, hb⟩ := run_copyWords w A c l hl hr
  have Hrun := Lib.hid hrun; have Ho := Lib.hid ho; have Hb := Lib.hid hb
  clear hrun ho hb hr
  generalize hn : l.length = n at *
  have Hn := Lib.hid hn; clear hn
  go_enter Tryz.func68, Tryz.ntmps68
  go_wp2_with (at_builtin; refine wpList_append_eq rfl (.tmp 4) (.tmp 5) 27 _ _ _ rfl rfl rfl Hrun.out ?_)
  go_ret
  obtain ⟨A1, c1, rfl, hc1, -, hr1, hf1⟩ := Ho.out.form
  exact ⟨A1, c1, rfl, hc1, hr1, Hb.out, hf1⟩
end Go.Proofs.YtcinoicpibleoaaGreatDoor
