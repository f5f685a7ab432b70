/-
  The walk of RatioOf. RatioOf returns true, whatever the input; no conditions: the row and its card.
-/
import Derived.Test.YtbdgeinfijamcaaGreatDoorRef7
import Derived.Test.YtbdgeinfijamcaaGreatDoorSE
import Derived.Test.YtbdgeinfijamcaaGreatDoorSR
import Derived.ChangeMaps5
namespace Go.Proofs.YtbdgeinfijamcaaGreatDoor
open Go.RowKit

theorem sz_of1 {x y : Int} (hx : -9223372036854775808 ≤ x ∧ x ≤ 9223372036854775807) (hy : -9223372036854775808 ≤ y ∧ y ≤ 9223372036854775807) : Sz (Rat.divInt x y) 1 := sz_of (by simp only [B64]; omega) (by simp only [B64]; omega)
set_option maxRecDepth 100000 in
set_option maxHeartbeats 2000000 in
theorem ratioOf_any (w : World) (x : Int) (wx : -9223372036854775808 ≤ x ∧ x ≤ 9223372036854775807) (y : Int) (wy : -9223372036854775808 ≤ y ∧ y ≤ 9223372036854775807) (hT : Tz w) (ht : Tab w) :
    Calls Tryz.prog 4 #[.int .i64 x, .int .i64 y] w fun e w' => e = .returned (.bool true) ∧ Below w.heap.size w w' := by
  have HE := Lib.hid (Env.start ((hT.old).and (ht.old)))
  have Hx := Lib.hid (wx)
  have Hy := Lib.hid (wy)
  clear hT ht wx wy
  go_enter Tryz.func4, Tryz.ntmps4
  go_wp2_with fail
  refine (rof_any _ x y Hx.out.1 Hx.out.2 Hy.out.1 Hy.out.2 (by first | exact HE.out.o.1 | exact HE.out.drew.o.1)).mono ?_
  rintro e w1 ⟨r, rfl, hk, hb⟩
  replace HE := Lib.hid (Env.ret (by first | exact HE.out | exact HE.out.drew) hk hb)
  clear hk hb
  go_wp2_with fail
  refine (refof4_any _ x y Hx.out.1 Hx.out.2 Hy.out.1 Hy.out.2).mono ?_
  rintro e w2 ⟨s, rfl, hk, hb⟩
  replace HE := Lib.hid (Env.ret (by first | exact HE.out | exact HE.out.drew) hk hb)
  clear hk hb
  go_wp2_with fail
  refine (sameRat_true _ r s (Rat.divInt x y) (Rat.divInt x y) 1 (by decide) (sz_of1 Hx.out Hy.out) (by first | exact HE.out.n.2.1 | exact HE.out.drew.n.2.1) (by first | exact HE.out.n.1 | exact HE.out.drew.n.1) rfl).mono ?_
  rintro e w3 ⟨rfl, hb⟩
  replace HE := Lib.hid (Env.call (by first | exact HE.out | exact HE.out.drew) hb)
  clear hb
  go_wp2_with fail
  refine (awake_any _ (by first | exact HE.out.o.1 | exact HE.out.drew.o.1) (by first | exact HE.out.o.2 | exact HE.out.drew.o.2)).mono ?_
  rintro e w4 ⟨rfl, hb⟩
  replace HE := Lib.hid (Env.call (by first | exact HE.out | exact HE.out.drew) hb)
  clear hb
  go_wp2_with fail
  go_ret
  exact ⟨rfl, HE.out.bel⟩
end Go.Proofs.YtbdgeinfijamcaaGreatDoor
namespace Go.Proofs.YtbdgeinfijamcaaGreatDoor.ratioOf
open Go.ChangeShapes Go.WideShapes Go.ChangeAt Go.RowKit Go.ChangeMaps

set_option maxRecDepth 100000 in
theorem contract (H : Type) (enc : TypeId × Value → H) (W : World) (base : Nat) (args : Array Value) (ds gs : List (DataW H)) (before : List MemPlace)
    (hval : ∀ (j : Nat) t v, Tryz.f4.params[j]? = some t → args[j]? = some v → Value.okWide Tryz.prog W .any base t v)
    (hW : DataW.Whole enc Tryz.prog Tryz.f4.params.toList Rows.ratioOfSpec.vars false W args.toList ds gs before) (hL : laidMetH Tryz.prog Rows.ratioOfRow.laid W) :
    Calls Tryz.prog 4 args W fun e W' => ∃ v, e = .returned v ∧ Rows.ratioOfSpec.post enc Tryz.prog Tryz.f4 false true false false W args v W' := by
  have hW' := hW
  have hlt := hW.lt
  obtain ⟨p, q, hA, hV, rfl, hfz, hnd⟩ := hW
  obtain ⟨rfl, rfl⟩ := trodVars_none hV
  rw [Tryz.params4] at hA
  obtain ⟨v0, vs0, d0, ds0, p0, q0, hargs, rfl, rfl, h0, t0⟩ := trodAll_cons hA
  obtain ⟨v1, vs1, d1, ds1, p1, q1, rfl, rfl, rfl, h1, t1⟩ := trodAll_cons t0
  obtain ⟨rfl, rfl, rfl⟩ := trodAll_nil t1
  obtain rfl : args = #[v0, v1] := by cases args; simp_all
  obtain ⟨z0, rfl, -, -, wz0⟩ := open_int Tryz.underlying2 (hval 0 _ v0 (by rw [Tryz.params4]; rfl) rfl) h0
  obtain ⟨z1, rfl, -, -, wz1⟩ := open_int Tryz.underlying2 (hval 1 _ v1 (by rw [Tryz.params4]; rfl) rfl) h1
  refine (ratioOf_any W z0 (bounds_i64 wz0) z1 (bounds_i64 wz1) (tz_of hL) (tab_of hL)).mono fun e W' ⟨he, hb⟩ => ?_
  subst he
  exact ⟨_, rfl, post_kept hW' rfl rfl rfl hb (by rw [Tryz.params4]; simpa only [List.append_nil] using trodAll_cons_mk (Below.trod laidOut (by kernel_rfl) (of_decide_eq_true (by kernel_rfl)) h0 hb (fun x hx => hlt x (by simp [hx]))) (trodAll_cons_mk (Below.trod laidOut (by kernel_rfl) (of_decide_eq_true (by kernel_rfl)) h1 hb (fun x hx => hlt x (by simp [hx]))) (trodAll_mk0)))⟩

theorem laid_met (os : Os) : laidMet Tryz.prog Rows.ratioOfRow.laid ((laidWorld os).forCall (fun _ _ => 0) ⟨#[], #[.int .i64 0, .int .i64 0], []⟩).memory :=
  laidMet_of_run' 8 (by kernel_rfl) (by kernel_rfl)
theorem reads (os : Os) {H : Type} (enc : TypeId × Value → H) : ∃ places, DataW.whole enc Tryz.prog ((laidWorld os).forCall (fun _ _ => 0) ⟨#[], #[.int .i64 0, .int .i64 0], []⟩).memory Tryz.f4.params.toList Rows.ratioOfSpec.vars false (#[.int .i64 0, .int .i64 0] : Array Value).toList 8 = some ([.lit (.int .i64 0), .lit (.int .i64 0)], [], places) :=
  ⟨[], by kernel_rfl⟩

set_option maxRecDepth 100000 in
theorem lifted (os : Os) (started : os.Started) (H : Type) (enc : TypeId × Value → H) (F : Stop.Interp) :
    ReturnsInHanded {} Tryz.checked os 4 .any ((OpenSpec.ofChange Rows.ratioOfSpec).preRow enc Tryz.prog Tryz.f4 Rows.ratioOfRow.domain false Rows.ratioOfRow.laid) (((OpenSpec.ofChange Rows.ratioOfSpec).at F).post enc Tryz.prog Tryz.f4 false true false false) := by
  obtain ⟨places, hx⟩ := reads os enc
  refine returnsInHanded_of_row (C := Tryz.checked) (s := OpenSpec.ofChange Rows.ratioOfSpec) own started (by kernel_rfl) Tryz.func4
    (witness_row_at (enc := enc) (C := Tryz.checked) false (laidWorld os) #[.int .i64 0, .int .i64 0] rfl (by kernel_rfl) (by kernel_rfl) (by kernel_rfl)
      (OpenSpec.preRow_of_cond 8 hx (by kernel_rfl) (fun k hk => by cases hk) (by kernel_rfl) (laid_met os))) ?_
  intro W base args ds gs before hval hW _ _ _ hL _ _
  exact contract H enc W base args ds gs before hval hW hL

theorem and_tr {a b : Bool} (h : a = true) (h' : b = true) : (a && b) = true := by rw [h, h']; rfl
set_option maxHeartbeats 4000000 in
/-- the row's closed facts, one by one -/
theorem closed : joinedFacts Tryz.pinned.checked.prog 4 Tryz.f4 (OpenSpec.ofChange Rows.ratioOfSpec).bare Rows.ratioOfRow = true := by
  unfold joinedFacts
  repeat' (with_reducible refine and_tr ?_ ?_)
  all_goals (as_aux_lemma => kernel_rfl)
theorem said : Rows.RatioOfSaid :=
  OpenClaim.holds_of_cond 4 Tryz.f4 rfl rfl rfl rfl rfl rfl rfl ⟨rfl, rfl, rfl, rfl, rfl⟩ rfl rfl rfl rfl rfl (by kernel_rfl) Tryz.func4 closed
    (of_decide_eq_true (by kernel_rfl)) (by unfold Func.isWrapper; first | (rw [if_pos (by decide +kernel)]; kernel_rfl) | (rw [if_neg (by decide +kernel)]; exact ⟨rfl, rfl⟩))
    (fun os started H enc _ F => by rw [OpenClaim.pre_eq_preRow]; exact lifted os started H enc F)

theorem plain (f : FuncId) (fn : Func) (hf : Tryz.pinned.checked.prog.funcNamed "tripwire/tripwirelaw04.RatioOf" = some f) (hfn : Tryz.pinned.checked.prog.funcs[f]? = some fn) :
    false = Tryz.pinned.checked.prog.looks [] ∧ ∀ (j : Nat) t, fn.params[j]? = some t → Tryz.pinned.checked.prog.wantsStandIn t = false := by
  obtain rfl : f = 4 := Option.some.inj ((show Tryz.prog.funcNamed "tripwire/tripwirelaw04.RatioOf" = some 4 by kernel_rfl).symm.trans hf) |>.symm
  obtain rfl : fn = Tryz.f4 := (Option.some.inj (Tryz.func4.symm.trans hfn)).symm
  refine ⟨by kernel_rfl, fun j t ht => ?_⟩
  rw [Tryz.params4] at ht
  match j, ht with
  | 0, ht => have e := Option.some.inj ht; rw [← e]; exact (show Tryz.prog.wantsStandIn 2 = false by kernel_rfl)
  | 1, ht => have e := Option.some.inj ht; rw [← e]; exact (show Tryz.prog.wantsStandIn 2 = false by kernel_rfl)
  | n + 2, ht => simp at ht

theorem card : Rows.RatioOfCardSaid :=
  Claim7.holds_tied_plain_at .later [] _ _ _ _ said (fun _ h => by cases h) (by kernel_rfl) (fun _ h => by cases h) ratioOf_row_tie rfl ⟨rfl, rfl⟩ (by kernel_rfl) rfl plain (by kernel_rfl)
end Go.Proofs.YtbdgeinfijamcaaGreatDoor.ratioOf
#print axioms Go.Proofs.YtbdgeinfijamcaaGreatDoor.ratioOf.card
