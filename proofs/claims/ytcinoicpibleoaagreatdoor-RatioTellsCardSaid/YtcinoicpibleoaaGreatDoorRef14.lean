/-
  tripwireref04: Text.
-/
import Derived.Test.YtcinoicpibleoaaGreatDoorRef13
import Derived.Test.YtcinoicpibleoaaGreatDoorRefP
import Derived.Test.YtcinoicpibleoaaGreatDoorQP
namespace Go.Proofs.YtcinoicpibleoaaGreatDoor
open Go.RowKit

theorem text3_i {W : World} {i : IV} {z : Int} {n : Nat} (h : IntN i z W) (hz : z.natAbs < B64 ^ n) (hn : n ≤ 60) :
    Calls Tryz.prog 93 #[.agg #[.bool i.neg, .slice i.A i.k i.c]] W fun e w' => e = .returned (strV (intText (decide (z < 0)) z.natAbs)) ∧ Below W.heap.size W w' := by
  have := reftext_any W i.neg i.A i.c _ (Nat.le_trans (dlen_le hz) hn) h.rd (digs_lt (by decide) _)
  rw [val_digs (by decide), ← h.k] at this
  rw [← h.neg]; exact this
set_option maxRecDepth 100000 in
set_option maxHeartbeats 2000000 in
theorem text4_one (w : World) (r : RV) (q : Rat) (n : Nat) (hn : n ≤ 50) (h1n : 1 ≤ n) (ha : RatD r q n w) (hd : q.den = 1) :
    Calls Tryz.prog 49 #[.agg #[.bool r.num.neg, .slice r.num.A r.num.k r.num.c, .bool r.den.neg, .slice r.den.A r.den.k r.den.c]] w fun e w' => e = .returned (strV (ratText q)) ∧ Below w.heap.size w w' := by
  have hsz := ha.sz h1n
  have HLn := Lib.hid hsz.1
  have HLd := Lib.hid (show (dn q).natAbs < B64 ^ n from by unfold dn; split <;> first | exact Nat.pow_pos B64_pos | exact hsz.2)
  obtain ⟨T1, hT1⟩ : ∃ T1 : ByteArray, T1 = ⟨(intText (decide (q.num < 0)) q.num.natAbs).toArray⟩ := ⟨_, rfl⟩
  have hs1 : T1.size ≤ 20 * n + 1 := by rw [hT1, size_str]; exact txt_len hsz.1 h1n
  have HX1 := Lib.hid (fun (W : World) (i : IV) (h1 : IntN i q.num W) => (show Calls Tryz.prog 93 #[.agg #[.bool i.neg, .slice i.A i.k i.c]] W fun e w' => e = .returned (.string T1) ∧ Below W.heap.size W w' from by
    have h3 := text3_i h1 HLn.out (by omega)
    rw [hT1]; exact h3))
  have HF := Lib.hid (show strV (ratText q) = .string T1 from by unfold ratText; rw [if_pos hd, List.append_nil, hT1])
  have Hd := Lib.hid hd
  clear hd hT1 hsz
  obtain ⟨W0, hW0⟩ : ∃ W0, W0 = (w.alloc (.cells #[.bool r.num.neg, .slice r.num.A r.num.k r.num.c, .bool r.den.neg, .slice r.den.A r.den.k r.den.c] 31)) := ⟨_, rfl⟩
  have HE := Lib.hid (Env.lay1 (Env.start (ha.old)) hW0)
  subst hW0
  have c := Env.c1 HE.out
  clear ha
  rw [HF.out]
  go_enter Tryz.func49, Tryz.ntmps49
  go_wp2_with fail
  refine (refnorm4_any _ r q n (by omega) h1n (by first | exact HE.out.o | exact HE.out.drew.o)).mono ?_
  rintro e w1 ⟨k, rfl, hk, hb⟩
  replace HE := Lib.hid (Env.ret (by first | exact HE.out | exact HE.out.drew) hk hb)
  replace c := Env.c1 HE.out
  clear hk hb
  go_wp2_with fail
  obtain ⟨W2, hW2, HE⟩ := Env.st4_0 HE.out (.bool k.num.neg) (.slice k.num.A k.num.k k.num.c) (.bool k.den.neg) (.slice k.den.A k.den.k k.den.c)
  rw [hW2]
  clear hW2
  replace c := Env.c1 HE.out
  have Hk := Lib.hid (show RatN k q _ from HE.out.n.1)
  refine (HX1.out _ _ HE.out.n.1.num).mono ?_
  rintro e w3 ⟨rfl, hb⟩
  replace HE := Lib.hid (HE.out.call hb)
  replace c := Env.c1 HE.out
  clear hb
  have hkk : ((k.den.k : Int)) = 0 := by have := (dn_k Hk.out).2 Hd.out; omega
  go_wp2_with fail
  go_ret
  exact ⟨rfl, HE.out.bel⟩
set_option maxRecDepth 100000 in
set_option maxHeartbeats 2000000 in
theorem text4_more (w : World) (r : RV) (q : Rat) (n : Nat) (hn : n ≤ 50) (h1n : 1 ≤ n) (ha : RatD r q n w) (hd : ¬ q.den = 1) :
    Calls Tryz.prog 49 #[.agg #[.bool r.num.neg, .slice r.num.A r.num.k r.num.c, .bool r.den.neg, .slice r.den.A r.den.k r.den.c]] w fun e w' => e = .returned (strV (ratText q)) ∧ Below w.heap.size w w' := by
  have hsz := ha.sz h1n
  have HLn := Lib.hid hsz.1
  have HLd := Lib.hid (show (dn q).natAbs < B64 ^ n from by unfold dn; split <;> first | exact Nat.pow_pos B64_pos | exact hsz.2)
  obtain ⟨T1, hT1⟩ : ∃ T1 : ByteArray, T1 = ⟨(intText (decide (q.num < 0)) q.num.natAbs).toArray⟩ := ⟨_, rfl⟩
  have hs1 : T1.size ≤ 20 * n + 1 := by rw [hT1, size_str]; exact txt_len hsz.1 h1n
  have HX1 := Lib.hid (fun (W : World) (i : IV) (h1 : IntN i q.num W) => (show Calls Tryz.prog 93 #[.agg #[.bool i.neg, .slice i.A i.k i.c]] W fun e w' => e = .returned (.string T1) ∧ Below W.heap.size W w' from by
    have h3 := text3_i h1 HLn.out (by omega)
    rw [hT1]; exact h3))
  obtain ⟨T2, hT2⟩ : ∃ T2 : ByteArray, T2 = ⟨(intText false q.den).toArray⟩ := ⟨_, rfl⟩
  have hs2 : T2.size ≤ 20 * n + 1 := by rw [hT2, size_str]; exact txt_len hsz.2 h1n
  have hdn : dn q = (q.den : Int) := by unfold dn; rw [if_neg hd]
  have HF := Lib.hid (show strV (ratText q) = .string (T1 ++ ⟨#[47]⟩ ++ T2) from by
    unfold ratText; rw [if_neg hd, hT1, hT2]
    show Value.string _ = Value.string _
    congr 1
    apply ByteArray.ext
    simp [ByteArray.data_append])
  have HX2 := Lib.hid (fun (W : World) (i : IV) (h1 : IntN i (dn q) W) => (show Calls Tryz.prog 93 #[.agg #[.bool i.neg, .slice i.A i.k i.c]] W fun e w' => e = .returned (.string T2) ∧ Below W.heap.size W w' from by
    have h3 := text3_i h1 HLd.out (by omega)
    rw [hdn, decide_eq_false (by omega)] at h3
    rw [hT2]; exact h3))
  have hc1 := fun (W : World) => run_string_add_sum (P := Tryz.prog) W T1 ⟨#[47]⟩ (by rw [show (⟨#[47]⟩ : ByteArray).size = 1 from rfl]; omega)
  have ha2 : (T1 ++ (⟨#[47]⟩ : ByteArray)).size = T1.size + 1 := by rw [ByteArray.size_append]; rfl
  have hc2 := fun (W : World) => run_string_add_sum (P := Tryz.prog) W (T1 ++ ⟨#[47]⟩) T2 (by rw [ha2]; omega)
  have Hd := Lib.hid hd
  clear hd hT1 hT2 hdn hsz
  obtain ⟨W0, hW0⟩ : ∃ W0, W0 = (w.alloc (.cells #[.bool r.num.neg, .slice r.num.A r.num.k r.num.c, .bool r.den.neg, .slice r.den.A r.den.k r.den.c] 31)) := ⟨_, rfl⟩
  have HE := Lib.hid (Env.lay1 (Env.start (ha.old)) hW0)
  subst hW0
  have c := Env.c1 HE.out
  clear ha
  rw [HF.out]
  go_enter Tryz.func49, Tryz.ntmps49
  go_wp2_with fail
  refine (refnorm4_any _ r q n (by omega) h1n (by first | exact HE.out.o | exact HE.out.drew.o)).mono ?_
  rintro e w1 ⟨k, rfl, hk, hb⟩
  replace HE := Lib.hid (Env.ret (by first | exact HE.out | exact HE.out.drew) hk hb)
  replace c := Env.c1 HE.out
  clear hk hb
  go_wp2_with fail
  obtain ⟨W2, hW2, HE⟩ := Env.st4_0 HE.out (.bool k.num.neg) (.slice k.num.A k.num.k k.num.c) (.bool k.den.neg) (.slice k.den.A k.den.k k.den.c)
  rw [hW2]
  clear hW2
  replace c := Env.c1 HE.out
  have Hk := Lib.hid (show RatN k q _ from HE.out.n.1)
  refine (HX1.out _ _ HE.out.n.1.num).mono ?_
  rintro e w3 ⟨rfl, hb⟩
  replace HE := Lib.hid (HE.out.call hb)
  replace c := Env.c1 HE.out
  clear hb
  have hkk : 0 < ((k.den.k : Int)) := by have := mt (dn_k Hk.out).1 Hd.out; omega
  go_wp2_with fail
  refine (HX2.out _ _ (by first | exact HE.out.n.1.den | exact HE.out.drew.n.1.den)).mono ?_
  rintro e w4 ⟨rfl, hb⟩
  replace HE := Lib.hid (Env.call (by first | exact HE.out | exact HE.out.drew) hb)
  clear hb
  go_wp2_with fail
  go_ret
  exact ⟨rfl, HE.out.bel⟩
theorem reftext4_any (w : World) (r : RV) (q : Rat) (n : Nat) (hn : n ≤ 50) (h1n : 1 ≤ n) (ha : RatD r q n w) : Calls Tryz.prog 49 #[.agg #[.bool r.num.neg, .slice r.num.A r.num.k r.num.c, .bool r.den.neg, .slice r.den.A r.den.k r.den.c]] w fun e w' => e = .returned (strV (ratText q)) ∧ Below w.heap.size w w' := by
  by_cases hd : q.den = 1
  · exact text4_one w r q n hn h1n ha hd
  · exact text4_more w r q n hn h1n ha hd
end Go.Proofs.YtcinoicpibleoaaGreatDoor
