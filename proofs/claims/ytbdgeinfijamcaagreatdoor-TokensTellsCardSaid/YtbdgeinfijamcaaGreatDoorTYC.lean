/-
  The walk of TokensTells. TokensTells returns true, whatever the input; no conditions: the row and its card.
-/
import Derived.Test.YtbdgeinfijamcaaGreatDoorRef9
import Derived.Test.YtbdgeinfijamcaaGreatDoorTW
import Derived.Test.YtbdgeinfijamcaaGreatDoorTR
import Derived.ChangeMaps5
namespace Go.Proofs.YtbdgeinfijamcaaGreatDoor
open Go.RowKit

set_option maxRecDepth 100000 in
set_option maxHeartbeats 2000000 in
theorem tells_long (w : World) (s : ByteArray) (hT : Tz w) (hl : 3000 < s.size) :
    Calls Tryz.prog 3 #[.string s] w fun e w' => e = .returned (.bool true) ∧ Below w.heap.size w w' := by
  have t : (3000 : Int) < (s.size : Int) := by omega
  have HT := Lib.hid hT
  clear hT hl
  go_enter Tryz.func3, Tryz.ntmps3
  go_wp2_with fail
  refine (awake_tok _ HT.out).mono ?_
  rintro e w1 ⟨rfl, hb⟩
  have Hb := Lib.hid hb
  clear hb
  go_wp2_with fail
  go_ret
  exact ⟨rfl, Hb.out⟩

set_option maxRecDepth 100000 in
set_option maxHeartbeats 2000000 in
theorem tells_short (w : World) (s : ByteArray) (hT : Tz w) (hl : ¬ 3000 < s.size) :
    Calls Tryz.prog 3 #[.string s] w fun e w' => e = .returned (.bool true) ∧ Below w.heap.size w w' := by
  have HE := Lib.hid (Env.start hT.old)
  have HS := Lib.hid (tokens_sz s.data.toList)
  have HS2 := Lib.hid (tokens_len s.data.toList)
  have HC := Lib.hid (fun W (h : Tz W) => tokens_any s W (by omega) h)
  have HR := Lib.hid (fun W => rtokens_any s W)
  have t : ¬ (3000 : Int) < (s.size : Int) := by omega
  generalize tokens parseR s.data.toList = T at *
  clear hT hl
  go_enter Tryz.func3, Tryz.ntmps3
  go_wp2_with fail
  refine (HC.out _ HE.out.o).mono ?_
  rintro e w1 ⟨v, ps, rfl, hps, hO, hne, hb⟩
  obtain ⟨A, ca, rfl, hca, hR⟩ := hO.read
  replace HE := Lib.hid (Env.ret HE.out (TokR.rests hO rfl hR) hb)
  have Hps := Lib.hid hps
  clear hps hO hR hne hb hca HC
  go_wp2_with fail
  obtain ⟨W2, g4, hW2, hg4, HE⟩ := Env.al HE.out 26 #[.int .i64 (T.1 : Nat), .int .i64 (T.2.1 : Nat)]
  rw [hW2, hg4]
  clear hW2 hg4
  refine (HR.out _).mono ?_
  rintro e w3 ⟨v, qs, rfl, hqs, hO, hne, hb⟩
  obtain ⟨B, cb, rfl, hcb, hR⟩ := hO.read
  replace HE := Lib.hid (Env.ret HE.out (TokR.rests hO rfl hR) hb)
  have Hqs := Lib.hid hqs
  clear hqs hO hR hne hb hcb HR
  go_upto_region 5 with fail
  obtain ⟨W4, g6, hW4, hg6, HE⟩ := Env.al HE.out 26 #[.int .i64 (T.1 : Nat), .int .i64 (T.2.1 : Nat)]
  rw [hW4, hg6]
  clear hW4 hg6
  have c := Env.c2 HE.out
  go_wp2_with fail
  refine (sameTok_true _ A B ca cb qs.length ps qs HE.out.n.2.1 HE.out.n.1 (Hps.out.trans Hqs.out.symm) (fun p hp => HS.out _ (by rw [← Hps.out]; exact List.mem_map_of_mem hp)) rfl (Nat.le_trans (by rw [← List.length_map (f := Prod.fst), Hqs.out]; exact Nat.le_refl _) HS2.out)).mono ?_
  rintro e w5 ⟨rfl, hb⟩
  replace HE := Lib.hid (HE.out.call hb)
  replace c := Env.c2 HE.out
  clear hb
  go_wp2_with fail
  refine (awake_tok _ HE.out.o).mono ?_
  rintro e w6 ⟨rfl, hb⟩
  replace HE := Lib.hid (HE.out.call hb)
  clear hb
  go_wp2_with fail
  go_ret
  exact ⟨rfl, HE.out.bel⟩
theorem tokensTells_any (w : World) (s : ByteArray) (_ws : s.size ≤ maxLen) (hT : Tz w) :
    Calls Tryz.prog 3 #[.string s] w fun e w' => e = .returned (.bool true) ∧ Below w.heap.size w w' := by
  by_cases h : 3000 < s.size
  · exact tells_long w s hT h
  · exact tells_short w s hT h
end Go.Proofs.YtbdgeinfijamcaaGreatDoor
namespace Go.Proofs.YtbdgeinfijamcaaGreatDoor.tokensTells
open Go.ChangeShapes Go.WideShapes Go.ChangeAt Go.RowKit Go.ChangeMaps

set_option maxRecDepth 100000 in
theorem contract (H : Type) (enc : TypeId × Value → H) (W : World) (base : Nat) (args : Array Value) (ds gs : List (DataW H)) (before : List MemPlace)
    (hval : ∀ (j : Nat) t v, Tryz.f3.params[j]? = some t → args[j]? = some v → Value.okWide Tryz.prog W .any base t v)
    (hW : DataW.Whole enc Tryz.prog Tryz.f3.params.toList Rows.tokensTellsSpec.vars false W args.toList ds gs before) (hL : laidMetH Tryz.prog Rows.tokensTellsRow.laid W) :
    Calls Tryz.prog 3 args W fun e W' => ∃ v, e = .returned v ∧ Rows.tokensTellsSpec.post enc Tryz.prog Tryz.f3 false true false false W args v W' := by
  have hW' := hW
  have hlt := hW.lt
  obtain ⟨p, q, hA, hV, rfl, hfz, hnd⟩ := hW
  obtain ⟨rfl, rfl⟩ := trodVars_none hV
  rw [Tryz.params3] at hA
  obtain ⟨v0, vs0, d0, ds0, p0, q0, hargs, rfl, rfl, h0, t0⟩ := trodAll_cons hA
  obtain ⟨rfl, rfl, rfl⟩ := trodAll_nil t0
  obtain rfl : args = #[v0] := by cases args; simp_all
  obtain ⟨s0, rfl, -, -, ws0⟩ := open_string Tryz.underlying9 (hval 0 _ v0 (by rw [Tryz.params3]; rfl) rfl) h0
  refine (tokensTells_any W s0 ws0 (tz_of hL)).mono fun e W' ⟨he, hb⟩ => ?_
  subst he
  exact ⟨_, rfl, post_kept hW' rfl rfl rfl hb (by rw [Tryz.params3]; simpa only [List.append_nil] using trodAll_cons_mk (keep_str h0 hb (fun x hx => hlt x (by simp [hx]))) (trodAll_mk0))⟩

theorem laid_met (os : Os) : laidMet Tryz.prog Rows.tokensTellsRow.laid ((laidWorld os).forCall (fun _ _ => 0) ⟨#[], #[.string ⟨#[]⟩], []⟩).memory :=
  laidMet_of_run' 8 (by kernel_rfl) (by kernel_rfl)
theorem reads (os : Os) {H : Type} (enc : TypeId × Value → H) : ∃ places, DataW.whole enc Tryz.prog ((laidWorld os).forCall (fun _ _ => 0) ⟨#[], #[.string ⟨#[]⟩], []⟩).memory Tryz.f3.params.toList Rows.tokensTellsSpec.vars false (#[.string ⟨#[]⟩] : Array Value).toList 8 = some ([.lit (.string [])], [], places) :=
  ⟨[], by kernel_rfl⟩

set_option maxRecDepth 100000 in
theorem lifted (os : Os) (started : os.Started) (H : Type) (enc : TypeId × Value → H) (F : Stop.Interp) :
    ReturnsInHanded {} Tryz.checked os 3 .any ((OpenSpec.ofChange Rows.tokensTellsSpec).preRow enc Tryz.prog Tryz.f3 Rows.tokensTellsRow.domain false Rows.tokensTellsRow.laid) (((OpenSpec.ofChange Rows.tokensTellsSpec).at F).post enc Tryz.prog Tryz.f3 false true false false) := by
  obtain ⟨places, hx⟩ := reads os enc
  refine returnsInHanded_of_row (C := Tryz.checked) (s := OpenSpec.ofChange Rows.tokensTellsSpec) own started (by kernel_rfl) Tryz.func3
    (witness_row_at (enc := enc) (C := Tryz.checked) false (laidWorld os) #[.string ⟨#[]⟩] rfl (by kernel_rfl) (by kernel_rfl) (by kernel_rfl)
      (OpenSpec.preRow_of_cond 8 hx (by kernel_rfl) (fun k hk => by cases hk) (by kernel_rfl) (laid_met os))) ?_
  intro W base args ds gs before hval hW _ _ _ hL _ _
  exact contract H enc W base args ds gs before hval hW hL

theorem and_tr {a b : Bool} (h : a = true) (h' : b = true) : (a && b) = true := by rw [h, h']; rfl
set_option maxHeartbeats 4000000 in
/-- the row's closed facts, one by one -/
theorem closed : joinedFacts Tryz.pinned.checked.prog 3 Tryz.f3 (OpenSpec.ofChange Rows.tokensTellsSpec).bare Rows.tokensTellsRow = true := by
  unfold joinedFacts
  repeat' (with_reducible refine and_tr ?_ ?_)
  all_goals (as_aux_lemma => kernel_rfl)
theorem said : Rows.TokensTellsSaid :=
  OpenClaim.holds_of_cond 3 Tryz.f3 rfl rfl rfl rfl rfl rfl rfl ⟨rfl, rfl, rfl, rfl, rfl⟩ rfl rfl rfl rfl rfl (by kernel_rfl) Tryz.func3 closed
    (of_decide_eq_true (by kernel_rfl)) (by unfold Func.isWrapper; first | (rw [if_pos (by decide +kernel)]; kernel_rfl) | (rw [if_neg (by decide +kernel)]; exact ⟨rfl, rfl⟩))
    (fun os started H enc _ F => by rw [OpenClaim.pre_eq_preRow]; exact lifted os started H enc F)

theorem plain (f : FuncId) (fn : Func) (hf : Tryz.pinned.checked.prog.funcNamed "tripwire/tripwirelaw09.TokensTells" = some f) (hfn : Tryz.pinned.checked.prog.funcs[f]? = some fn) :
    false = Tryz.pinned.checked.prog.looks [] ∧ ∀ (j : Nat) t, fn.params[j]? = some t → Tryz.pinned.checked.prog.wantsStandIn t = false := by
  obtain rfl : f = 3 := Option.some.inj ((show Tryz.prog.funcNamed "tripwire/tripwirelaw09.TokensTells" = some 3 by kernel_rfl).symm.trans hf) |>.symm
  obtain rfl : fn = Tryz.f3 := (Option.some.inj (Tryz.func3.symm.trans hfn)).symm
  refine ⟨by kernel_rfl, fun j t ht => ?_⟩
  rw [Tryz.params3] at ht
  match j, ht with
  | 0, ht => have e := Option.some.inj ht; rw [← e]; exact (show Tryz.prog.wantsStandIn 9 = false by kernel_rfl)
  | n + 1, ht => simp at ht

theorem card : Rows.TokensTellsCardSaid :=
  Claim7.holds_tied_plain_at .later [] _ _ _ _ said (fun _ h => by cases h) (by kernel_rfl) (fun _ h => by cases h) tokensTells_row_tie rfl ⟨rfl, rfl⟩ (by kernel_rfl) rfl plain (by kernel_rfl)
end Go.Proofs.YtbdgeinfijamcaaGreatDoor.tokensTells
#print axioms Go.Proofs.YtbdgeinfijamcaaGreatDoor.tokensTells.card
