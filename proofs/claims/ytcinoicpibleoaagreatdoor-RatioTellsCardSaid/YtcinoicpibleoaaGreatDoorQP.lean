/-
  ratio.Text; tripwirelaw04.is. strings.Cut at "/"; ratio.Parse. ratio.Parse.
-/
import Derived.Test.YtcinoicpibleoaaGreatDoorSL
import Derived.Test.YtcinoicpibleoaaGreatDoorBackM
import Derived.Test.YtcinoicpibleoaaGreatDoorShelf
import Derived.Lib.CutLaws
import Derived.Deep.DeepMust
import Derived.Test.YtcinoicpibleoaaGreatDoorQC
namespace Go.Proofs.YtcinoicpibleoaaGreatDoor
open Go.RowKit

theorem text_i {W : World} {i : IV} {z : Int} {n : Nat} (h : IntD i z n W) (hn : n ≤ 1048576) (ht : Tab W) :
    Calls Tryz.prog 92 #[.agg #[.bool i.neg, .slice i.A i.k i.c]] W fun e w' => e = .returned (strV (intText (decide (z < 0)) z.natAbs)) ∧ Below W.heap.size W w' := by
  obtain ⟨l, hk, hr, hx, rfl⟩ := h.ex
  have h1 := h.le
  have h2 := text_any W i.neg i.A i.c l (by omega) hr hx ht
  have e : intText i.neg (val B64 l) = intText (decide (iv i.neg (val B64 l) < 0)) (iv i.neg (val B64 l)).natAbs := by
    rw [iv_natAbs]
    unfold intText
    by_cases h0 : val B64 l = 0
    · rw [if_pos h0, if_pos h0]
    · rw [if_neg h0, if_neg h0]
      have : i.neg = decide (iv i.neg (val B64 l) < 0) := by unfold iv; cases i.neg <;> simp <;> omega
      rw [← this]
  rw [← hk, e] at h2
  exact h2
/-- a fraction's text -/
def ratText (q : Rat) : List UInt8 := intText (decide (q.num < 0)) q.num.natAbs ++ (if q.den = 1 then [] else 47 :: intText false q.den)
theorem ten_B (n : Nat) : B64 ^ n ≤ 10 ^ (20 * n) := by
  have h1 : B64 ^ n ≤ (10 ^ 20) ^ n := Nat.pow_le_pow_left (by decide) _
  rw [← Nat.pow_mul] at h1
  exact h1
theorem txt_len {neg : Bool} {v n : Nat} (h : v < B64 ^ n) (hn : 0 < n) : (intText neg v).length ≤ 20 * n + 1 := by
  have h1 := dec_length (k := 20 * n) (Nat.lt_of_lt_of_le h (ten_B n)) (by omega)
  unfold intText
  split
  · simp
  · split <;> simp <;> omega

set_option maxRecDepth 100000 in
set_option maxHeartbeats 4000000 in
theorem rtext_one (w : World) (r : RV) (q : Rat) (n : Nat) (hn : n ≤ 1048576) (h1n : 1 ≤ n) (h : RatD r q n w) (hT : Tz w) (ht : Tab w) (hd : q.den = 1) :
    Calls Tryz.prog 48 #[.agg #[.bool r.num.neg, .slice r.num.A r.num.k r.num.c, .bool r.den.neg, .slice r.den.A r.den.k r.den.c]] w fun e w' => e = .returned (strV (ratText q)) ∧ Below w.heap.size w w' := by
  have hsz := h.sz h1n
  have HLn := Lib.hid hsz.1
  have HLd := Lib.hid (show (dn q).natAbs < B64 ^ n from by unfold dn; split <;> first | exact Nat.pow_pos B64_pos | exact hsz.2)
  obtain ⟨T1, hT1⟩ : ∃ T1 : ByteArray, T1 = ⟨(intText (decide (q.num < 0)) q.num.natAbs).toArray⟩ := ⟨_, rfl⟩
  have hs1 : T1.size ≤ 20 * n + 1 := by rw [hT1, size_str]; exact txt_len hsz.1 h1n
  have HF := Lib.hid (show strV (ratText q) = .string T1 from by unfold ratText; rw [if_pos hd, List.append_nil, hT1])
  have Htx1 := Lib.hid (fun (W : World) (i : IV) (h1 : IntN i q.num W) (h2 : Tab W) => (show Calls Tryz.prog 92 #[.agg #[.bool i.neg, .slice i.A i.k i.c]] W fun e w' => e = .returned (.string T1) ∧ Below W.heap.size W w' from by
    have h3 := text_i (h1.ofLt HLn.out) (by omega) h2
    rw [hT1]; exact h3))
  obtain ⟨W0, hW0⟩ : ∃ W0, W0 = (w.alloc (.cells #[.bool r.num.neg, .slice r.num.A r.num.k r.num.c, .bool r.den.neg, .slice r.den.A r.den.k r.den.c] 31)) := ⟨_, rfl⟩
  obtain ⟨p0, pb⟩ := lay1 hW0
  have HBa := Lib.hid p0
  have Hbel := Lib.hid pb
  have Hx := Lib.hid (Rests.al1 (h.old) hW0)
  have HT := Lib.hid (Rests.al1 (hT.old) hW0)
  have Ht := Lib.hid (Rests.al1 (ht.old) hW0)
  clear p0 pb
  subst hW0
  clear h hT ht hT1 hsz
  have Hd := Lib.hid hd
  clear hd
  go_enter Tryz.func48, Tryz.ntmps48
  go_wp2_with fail
  refine (rnorm_any _ r q n (by omega) h1n (by first | exact Hx.out.now | exact Hx.out.drew.now) (by first | exact HT.out.now | exact HT.out.drew.now)).mono ?_
  rintro e w1 ⟨rr, rfl, hrr, hb1⟩
  have hgl := HBa.out.lt
  replace HBa := Lib.hid (Blk.below (by exact HBa.out) hb1 (by exact HBa.out.lt))
  obtain ⟨sw1HBa0, sw1HBa1, sw1HBa2, sw1HBa3⟩ := Blk.c4 HBa.out
  obtain ⟨fw1HBa0, fw1HBa1, fw1HBa2, fw1HBa3⟩ := Blk.f4 HBa.out
  replace Ht := Lib.hid (Rests.below (φ := Tab) (by first | exact Ht.out | exact Ht.out.drew) hb1)
  replace Hbel := Lib.hid (Below.after (by first | exact Hbel.out | exact Below.drew Hbel.out) hb1)
  have Hrr := Lib.hid (hrr.mono (G := (w.heap.size + 1 ≤ ·)) (fun b hb => Nat.le_trans hgl hb))
  clear hrr hgl
  clear hb1
  have hk := (dn_k Hrr.out.now)
  have hk0 : ((rr.den.k : Int)) = 0 := by have hk1 := Hd.out; omega
  clear hk
  go_wp2_with fail
  replace HBa := Lib.hid (((((HBa.out).set_ 0 (.bool rr.num.neg)).set_ 1 (.slice rr.num.A rr.num.k rr.num.c)).set_ 2 (.bool rr.den.neg)).set_ 3 (.slice rr.den.A rr.den.k rr.den.c))
  replace Ht := Lib.hid (((((Ht.out).set (a := ⟨w.heap.size, 0, none⟩) (by simp) (.bool rr.num.neg)).set (a := ⟨w.heap.size, 1, none⟩) (by simp) (.slice rr.num.A rr.num.k rr.num.c)).set (a := ⟨w.heap.size, 2, none⟩) (by simp) (.bool rr.den.neg)).set (a := ⟨w.heap.size, 3, none⟩) (by simp) (.slice rr.den.A rr.den.k rr.den.c))
  replace Hrr := Lib.hid (((((Hrr.out).set (a := ⟨w.heap.size, 0, none⟩) (by simp) (.bool rr.num.neg)).set (a := ⟨w.heap.size, 1, none⟩) (by simp) (.slice rr.num.A rr.num.k rr.num.c)).set (a := ⟨w.heap.size, 2, none⟩) (by simp) (.bool rr.den.neg)).set (a := ⟨w.heap.size, 3, none⟩) (by simp) (.slice rr.den.A rr.den.k rr.den.c))
  replace Hbel := Lib.hid (((((Hbel.out).setCell (p := ⟨w.heap.size, 0, none⟩) (by simp) (.bool rr.num.neg)).setCell (p := ⟨w.heap.size, 1, none⟩) (by simp) (.slice rr.num.A rr.num.k rr.num.c)).setCell (p := ⟨w.heap.size, 2, none⟩) (by simp) (.bool rr.den.neg)).setCell (p := ⟨w.heap.size, 3, none⟩) (by simp) (.slice rr.den.A rr.den.k rr.den.c))
  have vHBa0 : World.cell? _ ⟨w.heap.size, 0, none⟩ = some (.bool rr.num.neg) := HBa.out.cell 0
  have vHBa1 : World.cell? _ ⟨w.heap.size, 1, none⟩ = some (.slice rr.num.A rr.num.k rr.num.c) := HBa.out.cell 1
  have vHBa2 : World.cell? _ ⟨w.heap.size, 2, none⟩ = some (.bool rr.den.neg) := HBa.out.cell 2
  have vHBa3 : World.cell? _ ⟨w.heap.size, 3, none⟩ = some (.slice rr.den.A rr.den.k rr.den.c) := HBa.out.cell 3
  refine (Htx1.out _ rr.num (RatN.num (by first | exact Hrr.out.now | exact Hrr.out.drew.now)) (by first | exact Ht.out.now | exact Ht.out.drew.now)).mono ?_
  rintro e w2 ⟨rfl, hb2⟩
  replace HBa := Lib.hid (Blk.below (by exact HBa.out) hb2 (by exact HBa.out.lt))
  obtain ⟨sw2HBa0, sw2HBa1, sw2HBa2, sw2HBa3⟩ := Blk.c4 HBa.out
  obtain ⟨fw2HBa0, fw2HBa1, fw2HBa2, fw2HBa3⟩ := Blk.f4 HBa.out
  replace Ht := Lib.hid (Rests.below (φ := Tab) (by first | exact Ht.out | exact Ht.out.drew) hb2)
  replace Hrr := Lib.hid (Rests.below (φ := RatN rr q) (by first | exact Hrr.out | exact Hrr.out.drew) hb2)
  replace Hbel := Lib.hid (Below.after (by first | exact Hbel.out | exact Below.drew Hbel.out) hb2)
  clear hb2
  go_wp2_with fail
  go_ret
  exact ⟨by rw [HF.out]; rfl, Hbel.out⟩

set_option maxRecDepth 100000 in
set_option maxHeartbeats 4000000 in
theorem rtext_more (w : World) (r : RV) (q : Rat) (n : Nat) (hn : n ≤ 1048576) (h1n : 1 ≤ n) (h : RatD r q n w) (hT : Tz w) (ht : Tab w) (hd : q.den ≠ 1) :
    Calls Tryz.prog 48 #[.agg #[.bool r.num.neg, .slice r.num.A r.num.k r.num.c, .bool r.den.neg, .slice r.den.A r.den.k r.den.c]] w fun e w' => e = .returned (strV (ratText q)) ∧ Below w.heap.size w w' := by
  have hsz := h.sz h1n
  have HLn := Lib.hid hsz.1
  have HLd := Lib.hid (show (dn q).natAbs < B64 ^ n from by unfold dn; split <;> first | exact Nat.pow_pos B64_pos | exact hsz.2)
  obtain ⟨T1, hT1⟩ : ∃ T1 : ByteArray, T1 = ⟨(intText (decide (q.num < 0)) q.num.natAbs).toArray⟩ := ⟨_, rfl⟩
  have hs1 : T1.size ≤ 20 * n + 1 := by rw [hT1, size_str]; exact txt_len hsz.1 h1n
  obtain ⟨T2, hT2⟩ : ∃ T2 : ByteArray, T2 = ⟨(intText false q.den).toArray⟩ := ⟨_, rfl⟩
  have hs2 : T2.size ≤ 20 * n + 1 := by rw [hT2, size_str]; exact txt_len hsz.2 h1n
  have hdn : dn q = (q.den : Int) := by unfold dn; rw [if_neg hd]
  have HF := Lib.hid (show strV (ratText q) = .string (T1 ++ (⟨#[47]⟩ ++ T2)) from by
    unfold ratText; rw [if_neg hd, hT1, hT2]
    show Value.string _ = Value.string _
    congr 1)
  have Htx2 := Lib.hid (fun (W : World) (i : IV) (h1 : IntN i (dn q) W) (h2 : Tab W) => (show Calls Tryz.prog 92 #[.agg #[.bool i.neg, .slice i.A i.k i.c]] W fun e w' => e = .returned (.string T2) ∧ Below W.heap.size W w' from by
    have h3 := text_i (h1.ofLt HLd.out) (by omega) h2
    rw [hdn, decide_eq_false (by omega)] at h3
    rw [hT2]; exact h3))
  have hc1 := fun (W : World) => run_string_add_sum (P := Tryz.prog) W ⟨#[47]⟩ T2 (by rw [show (⟨#[47]⟩ : ByteArray).size = 1 from rfl]; omega)
  have hc2 := fun (W : World) => run_string_add_sum (P := Tryz.prog) W T1 (⟨#[47]⟩ ++ T2) (by rw [ByteArray.size_append, show (⟨#[47]⟩ : ByteArray).size = 1 from rfl]; omega)
  have ha2 : ((⟨#[47]⟩ : ByteArray) ++ T2).size = 1 + T2.size := by rw [ByteArray.size_append]; rfl
  have Htx1 := Lib.hid (fun (W : World) (i : IV) (h1 : IntN i q.num W) (h2 : Tab W) => (show Calls Tryz.prog 92 #[.agg #[.bool i.neg, .slice i.A i.k i.c]] W fun e w' => e = .returned (.string T1) ∧ Below W.heap.size W w' from by
    have h3 := text_i (h1.ofLt HLn.out) (by omega) h2
    rw [hT1]; exact h3))
  obtain ⟨W0, hW0⟩ : ∃ W0, W0 = (w.alloc (.cells #[.bool r.num.neg, .slice r.num.A r.num.k r.num.c, .bool r.den.neg, .slice r.den.A r.den.k r.den.c] 31)) := ⟨_, rfl⟩
  obtain ⟨p0, pb⟩ := lay1 hW0
  have HBa := Lib.hid p0
  have Hbel := Lib.hid pb
  have Hx := Lib.hid (Rests.al1 (h.old) hW0)
  have HT := Lib.hid (Rests.al1 (hT.old) hW0)
  have Ht := Lib.hid (Rests.al1 (ht.old) hW0)
  clear p0 pb
  subst hW0
  clear h hT ht hT1 hT2 hdn hsz
  have Hd := Lib.hid hd
  clear hd
  go_enter Tryz.func48, Tryz.ntmps48
  go_wp2_with fail
  refine (rnorm_any _ r q n (by omega) h1n (by first | exact Hx.out.now | exact Hx.out.drew.now) (by first | exact HT.out.now | exact HT.out.drew.now)).mono ?_
  rintro e w1 ⟨rr, rfl, hrr, hb1⟩
  have hgl := HBa.out.lt
  replace HBa := Lib.hid (Blk.below (by exact HBa.out) hb1 (by exact HBa.out.lt))
  obtain ⟨sw1HBa0, sw1HBa1, sw1HBa2, sw1HBa3⟩ := Blk.c4 HBa.out
  obtain ⟨fw1HBa0, fw1HBa1, fw1HBa2, fw1HBa3⟩ := Blk.f4 HBa.out
  replace Ht := Lib.hid (Rests.below (φ := Tab) (by first | exact Ht.out | exact Ht.out.drew) hb1)
  replace Hbel := Lib.hid (Below.after (by first | exact Hbel.out | exact Below.drew Hbel.out) hb1)
  have Hrr := Lib.hid (hrr.mono (G := (w.heap.size + 1 ≤ ·)) (fun b hb => Nat.le_trans hgl hb))
  clear hrr hgl
  clear hb1
  have hk := (dn_k Hrr.out.now)
  have hk0 : (0 : Int) < (rr.den.k : Int) := by have hk1 := Hd.out; omega
  clear hk
  go_wp2_with fail
  replace HBa := Lib.hid (((((HBa.out).set_ 0 (.bool rr.num.neg)).set_ 1 (.slice rr.num.A rr.num.k rr.num.c)).set_ 2 (.bool rr.den.neg)).set_ 3 (.slice rr.den.A rr.den.k rr.den.c))
  replace Ht := Lib.hid (((((Ht.out).set (a := ⟨w.heap.size, 0, none⟩) (by simp) (.bool rr.num.neg)).set (a := ⟨w.heap.size, 1, none⟩) (by simp) (.slice rr.num.A rr.num.k rr.num.c)).set (a := ⟨w.heap.size, 2, none⟩) (by simp) (.bool rr.den.neg)).set (a := ⟨w.heap.size, 3, none⟩) (by simp) (.slice rr.den.A rr.den.k rr.den.c))
  replace Hrr := Lib.hid (((((Hrr.out).set (a := ⟨w.heap.size, 0, none⟩) (by simp) (.bool rr.num.neg)).set (a := ⟨w.heap.size, 1, none⟩) (by simp) (.slice rr.num.A rr.num.k rr.num.c)).set (a := ⟨w.heap.size, 2, none⟩) (by simp) (.bool rr.den.neg)).set (a := ⟨w.heap.size, 3, none⟩) (by simp) (.slice rr.den.A rr.den.k rr.den.c))
  replace Hbel := Lib.hid (((((Hbel.out).setCell (p := ⟨w.heap.size, 0, none⟩) (by simp) (.bool rr.num.neg)).setCell (p := ⟨w.heap.size, 1, none⟩) (by simp) (.slice rr.num.A rr.num.k rr.num.c)).setCell (p := ⟨w.heap.size, 2, none⟩) (by simp) (.bool rr.den.neg)).setCell (p := ⟨w.heap.size, 3, none⟩) (by simp) (.slice rr.den.A rr.den.k rr.den.c))
  have vHBa0 : World.cell? _ ⟨w.heap.size, 0, none⟩ = some (.bool rr.num.neg) := HBa.out.cell 0
  have vHBa1 : World.cell? _ ⟨w.heap.size, 1, none⟩ = some (.slice rr.num.A rr.num.k rr.num.c) := HBa.out.cell 1
  have vHBa2 : World.cell? _ ⟨w.heap.size, 2, none⟩ = some (.bool rr.den.neg) := HBa.out.cell 2
  have vHBa3 : World.cell? _ ⟨w.heap.size, 3, none⟩ = some (.slice rr.den.A rr.den.k rr.den.c) := HBa.out.cell 3
  refine (Htx1.out _ rr.num (RatN.num (by first | exact Hrr.out.now | exact Hrr.out.drew.now)) (by first | exact Ht.out.now | exact Ht.out.drew.now)).mono ?_
  rintro e w2 ⟨rfl, hb2⟩
  replace HBa := Lib.hid (Blk.below (by exact HBa.out) hb2 (by exact HBa.out.lt))
  obtain ⟨sw2HBa0, sw2HBa1, sw2HBa2, sw2HBa3⟩ := Blk.c4 HBa.out
  obtain ⟨fw2HBa0, fw2HBa1, fw2HBa2, fw2HBa3⟩ := Blk.f4 HBa.out
  replace Ht := Lib.hid (Rests.below (φ := Tab) (by first | exact Ht.out | exact Ht.out.drew) hb2)
  replace Hrr := Lib.hid (Rests.below (φ := RatN rr q) (by first | exact Hrr.out | exact Hrr.out.drew) hb2)
  replace Hbel := Lib.hid (Below.after (by first | exact Hbel.out | exact Below.drew Hbel.out) hb2)
  clear hb2
  go_wp2_with fail
  refine (Htx2.out _ rr.den (RatN.den (by first | exact Hrr.out.now | exact Hrr.out.drew.now)) (by first | exact Ht.out.now | exact Ht.out.drew.now)).mono ?_
  rintro e w3 ⟨rfl, hb3⟩
  replace Hbel := Lib.hid (Below.after (by first | exact Hbel.out | exact Below.drew Hbel.out) hb3)
  clear hb3
  go_wp2_with fail
  go_ret
  exact ⟨by rw [HF.out]; rfl, Hbel.out⟩

theorem rtext_any (w : World) (r : RV) (q : Rat) (n : Nat) (hn : n ≤ 1048576) (h1n : 1 ≤ n) (h : RatD r q n w) (hT : Tz w) (ht : Tab w) :
    Calls Tryz.prog 48 #[.agg #[.bool r.num.neg, .slice r.num.A r.num.k r.num.c, .bool r.den.neg, .slice r.den.A r.den.k r.den.c]] w fun e w' => e = .returned (strV (ratText q)) ∧ Below w.heap.size w w' := by
  by_cases hd : q.den = 1
  · exact rtext_one w r q n hn h1n h hT ht hd
  · exact rtext_more w r q n hn h1n h hT ht hd
end Go.Proofs.YtcinoicpibleoaaGreatDoor
namespace Go.Proofs.YtcinoicpibleoaaGreatDoor
open Go.RowKit

theorem index_one (l : List UInt8) (c : UInt8) : Lib.index l [c] = Lib.indexByte l c := by
  induction l with
  | nil => rfl
  | cons b l ih =>
    simp only [Lib.index, Lib.indexByte, ih, List.isPrefixOf, Bool.and_true]
    by_cases h : b = c
    · simp [h]
    · rw [beq_false_of_ne h, beq_false_of_ne (fun e => h e.symm)]
set_option maxRecDepth 100000 in
set_option maxHeartbeats 1000000 in
theorem slcut_any (s : ByteArray) (w : World) (hs : s.size ≤ 1048576) :
    Calls Tryz.prog 136 #[.string s, .string ⟨#[47]⟩] w fun e w' => e = .returned (.tuple #[.string ⟨(Lib.cut s.data.toList [47]).1.toArray⟩, .string ⟨(Lib.cut s.data.toList [47]).2.1.toArray⟩, .bool (Lib.cut s.data.toList [47]).2.2]) ∧ Below w.heap.size w w' := by
  have h1 := Tryz.stringslite_Index_one s 47
  rw [← index_one] at h1
  rcases Lib.indexB_cases s ⟨#[47]⟩ with hix | ⟨i, hix, hroom⟩
  · obtain ⟨e1, e2, e3⟩ := Lib.cutB_miss s ⟨#[47]⟩ hix
    have hix' : Lib.index s.data.toList [47] = -1 := hix
    rw [show (⟨#[47]⟩ : ByteArray).data.toList = [47] from rfl] at e1 e2 e3
    rw [e1, e2, e3]
    rw [hix'] at h1
    have H1 := Lib.hid h1
    clear h1 e1 e2 e3 hix hix'
    go_enter Tryz.func136, Tryz.ntmps136
    go_wp2_with fail
    refine (H1.out _).mono ?_
    rintro e w' ⟨rfl, hw⟩
    have hw2 := hw.symm; subst hw2
    go_wp2_with fail
    go_ret3
    exact ⟨rfl, Below.refl _ _⟩
  · obtain ⟨e1, e2, e3⟩ := Lib.cutB_hit s ⟨#[47]⟩ i hix
    have hix' : Lib.index s.data.toList [47] = (i : Int) := hix
    rw [show (⟨#[47]⟩ : ByteArray).data.toList = [47] from rfl] at e1 e2 e3
    rw [show (⟨#[47]⟩ : ByteArray).size = 1 from rfl] at e2 hroom
    rw [e1, e2, e3]
    rw [hix'] at h1
    have H1 := Lib.hid h1
    have c1 : (0 : Int) ≤ (i : Int) := by omega
    have c2 : (i : Int) ≤ (s.size : Int) := by omega
    have c3 : (0 : Int) ≤ (i : Int) + 1 := by omega
    have c4 : (i : Int) + 1 ≤ (s.size : Int) := by omega
    have c5 : IntKind.i64.wrap ((i : Int) + 1) = (i : Int) + 1 := IntWalk.i64_in _ (by omega)
    clear h1 e1 e2 e3 hix hix'
    go_enter Tryz.func136, Tryz.ntmps136
    go_wp2_with fail
    refine (H1.out _).mono ?_
    rintro e w' ⟨rfl, hw⟩
    have hw2 := hw.symm; subst hw2
    go_wp2_with fail
    go_region
    all_goals
      go_wp2_with fail
      go_ret3
      exact ⟨rfl, Below.drew (Below.refl _ _)⟩
set_option maxRecDepth 100000 in
set_option maxHeartbeats 1000000 in
theorem cut_any (s : ByteArray) (w : World) (hs : s.size ≤ 1048576) :
    Calls Tryz.prog 94 #[.string s, .string ⟨#[47]⟩] w fun e w' => e = .returned (.tuple #[.string ⟨(Lib.cut s.data.toList [47]).1.toArray⟩, .string ⟨(Lib.cut s.data.toList [47]).2.1.toArray⟩, .bool (Lib.cut s.data.toList [47]).2.2]) ∧ Below w.heap.size w w' := by
  have H1 := Lib.hid (slcut_any s w hs)
  generalize (Lib.cut s.data.toList [47]).1.toArray = x at *
  generalize (Lib.cut s.data.toList [47]).2.1.toArray = y at *
  generalize (Lib.cut s.data.toList [47]).2.2 = z at *
  go_enter Tryz.func94, Tryz.ntmps94
  go_wp2_with fail
  refine H1.out.mono ?_
  rintro e w' ⟨rfl, hb⟩
  have Hb := Lib.hid hb; clear hb
  go_wp2_with fail
  go_ret3
  exact ⟨rfl, Hb.out⟩

theorem lenK {v k : Nat} (h : v < 10 ^ k) (hk : k ≤ 600) : v < B64 ^ 100 := Nat.lt_trans h (ten_pow 100 (by decide) (by omega))
theorem parse_small (s : List UInt8) : (parseN s).2.2 < B64 ^ 100 := by
  unfold parseN
  by_cases h1 : numB (Lib.trimPrefix s [45]) (Lib.hasPrefix s [45]) = false
  · simp only [if_pos h1]; exact Nat.pow_pos B64_pos
  · simp only [if_neg h1]
    by_cases h2 : 600 < (Lib.trimPrefix s [45]).length
    · simp only [if_pos h2]; exact Nat.pow_pos B64_pos
    · simp only [if_neg h2]
      have h3 : numB (Lib.trimPrefix s [45]) (Lib.hasPrefix s [45]) = true := by simpa using h1
      unfold numB at h3
      simp only [Bool.and_eq_true, List.all_eq_true] at h3
      exact lenK (decVal_lt _ h3.1.2) (Nat.not_lt.1 h2)
theorem parse_code (s : List UInt8) : (parseN s).1 = 0 ∨ (parseN s).1 = 3 ∨ (parseN s).1 = 11 := by
  unfold parseN
  simp only
  split
  · simp
  · split <;> simp
/-- what a numeral's reading says -/
def pz (p : Nat × Bool × Nat) : Int := iv p.2.1 p.2.2
/-- a whole number told, with an error's number -/
def RetPI (k : Nat) (z : Int) (w : World) (e : Ending) (w' : World) : Prop :=
  ∃ i : IV, e = .returned (.tuple #[.agg #[.bool i.neg, .slice i.A i.k i.c], .int .i64 (k : Nat)]) ∧ IntD i z 100 w' ∧ Below w.heap.size w w'
theorem parse_pi (s : ByteArray) (W : World) (hs : s.size ≤ 1048576) : Calls Tryz.prog 95 #[.string s] W (RetPI (parseN s.data.toList).1 (pz (parseN s.data.toList)) W) := by
  refine (parse_any s W hs).mono ?_
  rintro e w' ⟨A, c, rfl, hc, hr, hb⟩
  exact ⟨⟨(parseN s.data.toList).2.1, A, (digs B64 (parseN s.data.toList).2.2).length, c⟩, rfl, ⟨⟨_, rfl, hr, digs_lt (by decide) _, by rw [val_digs (by decide)]; rfl⟩, hc, dlen_le (parse_small _)⟩, hb⟩
/-- what ratio.Parse tells: an error's number, a fraction -/
def parseR (s : List UInt8) : Nat × Rat :=
  let c := Lib.cut s [47]
  let bot := if c.2.2 then c.2.1 else [49]
  let p := parseN c.1
  let d := parseN bot
  if p.1 = 11 ∨ d.1 = 11 ∨ Lib.hasPrefix bot [45] = true then (11, 0) else if p.1 ≠ 0 then (p.1, 0) else if d.1 ≠ 0 then (d.1, 0) else if pz d = 0 then (10, 0) else (0, Rat.divInt (pz p) (pz d))
end Go.Proofs.YtcinoicpibleoaaGreatDoor
namespace Go.Proofs.YtcinoicpibleoaaGreatDoor
open Go.RowKit

/-- what two numerals' readings make of a fraction's text -/
def fin5 (p d : Nat) (x y : Int) (px : Bool) : Nat × Rat := if p = 11 ∨ d = 11 ∨ px = true then (11, 0) else if p ≠ 0 then (p, 0) else if d ≠ 0 then (d, 0) else if y = 0 then (10, 0) else (0, Rat.divInt x y)
theorem size_str' (l : List UInt8) : (⟨l.toArray⟩ : ByteArray).size = l.length := by simp [ByteArray.size]
set_option maxRecDepth 100000 in
set_option maxHeartbeats 2000000 in
theorem rparse_w (w : World) (s top bt bot : ByteArray) (dv : Bool) (p d : Nat) (x y : Int) (px : Bool) (hT : Tz w)
    (hc : ∀ W, Calls Tryz.prog 94 #[.string s, .string ⟨#[47]⟩] W fun e w' => e = .returned (.tuple #[.string top, .string bt, .bool dv]) ∧ Below W.heap.size W w')
    (h1 : ∀ W, Calls Tryz.prog 95 #[.string top] W (RetPI p x W)) (h2 : ∀ W, Calls Tryz.prog 95 #[.string bot] W (RetPI d y W))
    (h3 : ∀ W, Calls Tryz.prog 96 #[.string bot, .string ⟨#[45]⟩] W fun e w' => e = .returned (.bool px) ∧ w' = W) (hb : bot = if dv = true then bt else ⟨#[49]⟩) :
    Calls Tryz.prog 50 #[.string s] w (RetRE (fin5 p d x y px).2 (fin5 p d x y px).1 w) := by
  have Hc := Lib.hid hc; have H1 := Lib.hid h1; have H2 := Lib.hid h2; have H3 := Lib.hid h3; have Hb := Lib.hid hb
  obtain ⟨W0, hW0⟩ : ∃ W0, W0 = (w.alloc (.cells #[.bool false, .slice none 0 0, .bool false, .slice none 0 0] 31)) := ⟨_, rfl⟩
  have HE := Lib.hid (Env.lay1 (Env.start (hT.old)) hW0)
  subst hW0
  have c := Env.c1 HE.out
  clear hc h1 h2 h3 hb hT
  go_enter Tryz.func50, Tryz.ntmps50
  go_wp2_with fail
  refine (Hc.out _).mono ?_
  rintro e w1 ⟨rfl, hb⟩
  replace HE := Lib.hid (Env.call (by first | exact HE.out | exact HE.out.drew) hb)
  replace c := Env.c1 HE.out
  clear hb
  go_upto_if 18 with fail
  go_cut [5] (fun v wx => v = .string bot ∧ Hid (Env w [⟨w.heap.size, 31, #[.bool false, .slice none 0 0, .bool false, .slice none 0 0]⟩] Tz (fun _ => True) wx))
  case first =>
    cases dv
    · have hb := Hb.out
      simp only [Bool.false_eq_true, if_false] at hb
      subst hb
      go_wp2_with fail
      go_meet
      exact ⟨rfl, HE⟩
    · have hb := Hb.out
      simp only [if_true] at hb
      subst hb
      go_wp2_with fail
      go_meet
      exact ⟨rfl, HE⟩
  case rest =>
    clear HE c Hb Hc
    obtain ⟨rfl, HE⟩ := hcut
    have c := Env.c1 HE.out
    go_wp2_with fail
    refine (H1.out _).mono ?_
    rintro e w3 ⟨i, rfl, hi, hb⟩
    replace HE := Lib.hid ((HE.out.call hb).addD hi (by simp))
    clear hb hi c
    go_upto_region 5 with fail
    obtain ⟨W4, g4, hW4, hg4, HE⟩ := Env.al HE.out 29 #[.bool i.neg, .slice i.A i.k i.c]
    rw [hW4, hg4]
    clear hW4 hg4
    go_wp2_with fail
    refine (H2.out _).mono ?_
    rintro e w5 ⟨j, rfl, hj, hb⟩
    replace HE := Lib.hid ((HE.out.call hb).addD hj (by simp))
    clear hb hj
    go_upto_region 6 with fail
    obtain ⟨W6, g6, hW6, hg6, HE⟩ := Env.al HE.out 29 #[.bool j.neg, .slice j.A j.k j.c]
    rw [hW6, hg6]
    clear hW6 hg6
    have c := Env.c3 HE.out
    have dd := Env.d3 HE.out
    clear H1 H2
    by_cases hp11 : p = 11
    · have HQ := Lib.hid (show fin5 p d x y px = (11, 0) from by unfold fin5; rw [if_pos (.inl hp11)])
      have qp : (((p : Nat) : Int) == 11) = true := by simp [hp11]
      clear hp11
      go_wp2_with fail
      obtain ⟨W5, hW5, HE⟩ := Env.st4_2 (by first | exact HE.out | exact HE.out.drew) (.bool false) (.slice none 0 0) (.bool false) (.slice none 0 0)
      rw [hW5]
      clear hW5
      have hE := HE.out
      replace c := Env.c3 hE
      exact bodyPost_ret (v := .tuple #[.agg #[.bool false, .slice none 0 0, .bool false, .slice none 0 0], .int .i64 11]) (by simp [results, Tryz.results50, go_sem, c]) rfl ((by rw [HQ.out]; exact hE.retRE (r := zeroR) fun V _ => ratN_zero V))
    · have qp : (((p : Nat) : Int) == 11) = false := by simp; omega
      by_cases hd11 : d = 11
      · have HQ := Lib.hid (show fin5 p d x y px = (11, 0) from by unfold fin5; rw [if_pos (.inr (.inl hd11))])
        have qd : (((d : Nat) : Int) == 11) = true := by simp [hd11]
        clear hp11 hd11
        go_wp2_with fail
        obtain ⟨W5, hW5, HE⟩ := Env.st4_2 (by first | exact HE.out | exact HE.out.drew) (.bool false) (.slice none 0 0) (.bool false) (.slice none 0 0)
        rw [hW5]
        clear hW5
        have hE := HE.out
        replace c := Env.c3 hE
        exact bodyPost_ret (v := .tuple #[.agg #[.bool false, .slice none 0 0, .bool false, .slice none 0 0], .int .i64 11]) (by simp [results, Tryz.results50, go_sem, c]) rfl ((by rw [HQ.out]; exact hE.retRE (r := zeroR) fun V _ => ratN_zero V))
      · have qd : (((d : Nat) : Int) == 11) = false := by simp; omega
        cases px
        · have hF : fin5 p d x y false = if p ≠ 0 then (p, 0) else if d ≠ 0 then (d, 0) else if y = 0 then (10, 0) else (0, Rat.divInt x y) := by unfold fin5; rw [if_neg (by simp; omega)]
          clear hp11 hd11
          by_cases hp0 : p = 0
          · rw [if_neg (by simpa using hp0)] at hF
            have qp0 : (((p : Nat) : Int) != 0) = false := by simp [hp0]
            by_cases hd0 : d = 0
            · rw [if_neg (by simpa using hd0)] at hF
              have qd0 : (((d : Nat) : Int) != 0) = false := by simp [hd0]
              clear hp0 hd0
              by_cases hy : y = 0
              · rw [if_pos hy] at hF
                have HQ := Lib.hid hF
                have qy : (y.sign == 0) = true := by rw [hy]; rfl
                clear hF hy
                go_wp2_with fail
                refine (H3.out _).mono ?_
                rintro e w7 ⟨rfl, rfl⟩
                go_wp2_with fail
                refine (wsign_any _ j y 100 (by decide) (by first | exact HE.out.o.1 | exact HE.out.drew.o.1)).mono ?_
                rintro e w8 ⟨rfl, hb⟩
                replace HE := Lib.hid (Env.call (by first | exact HE.out | exact HE.out.drew) hb)
                replace c := Env.c3 HE.out
                clear hb
                go_wp2_with fail
                obtain ⟨W5, hW5, HE⟩ := Env.st4_2 (by first | exact HE.out | exact HE.out.drew) (.bool false) (.slice none 0 0) (.bool false) (.slice none 0 0)
                rw [hW5]
                clear hW5
                have hE := HE.out
                replace c := Env.c3 hE
                exact bodyPost_ret (v := .tuple #[.agg #[.bool false, .slice none 0 0, .bool false, .slice none 0 0], .int .i64 10]) (by simp [results, Tryz.results50, go_sem, c]) rfl ((by rw [HQ.out]; exact hE.retRE (r := zeroR) fun V _ => ratN_zero V))
              · rw [if_neg hy] at hF
                have HQ := Lib.hid hF
                have qy : (y.sign == 0) = false := by simpa using hy
                clear hF hy
                go_wp2_with fail
                refine (H3.out _).mono ?_
                rintro e w7 ⟨rfl, rfl⟩
                go_wp2_with fail
                refine (wsign_any _ j y 100 (by decide) (by first | exact HE.out.o.1 | exact HE.out.drew.o.1)).mono ?_
                rintro e w8 ⟨rfl, hb⟩
                replace HE := Lib.hid (Env.call (by first | exact HE.out | exact HE.out.drew) hb)
                replace c := Env.c3 HE.out
                clear hb
                go_wp2_with fail
                refine (make_any _ i j x y 100 (by decide) (by decide) (by first | exact HE.out.o.2.1 | exact HE.out.drew.o.2.1) (by first | exact HE.out.o.1 | exact HE.out.drew.o.1) (by first | exact HE.out.o.2.2 | exact HE.out.drew.o.2.2)).mono ?_
                rintro e w9 ⟨q, rfl, hk, hb⟩
                replace HE := Lib.hid (Env.ret (by first | exact HE.out | exact HE.out.drew) hk hb)
                replace c := Env.c3 HE.out
                clear hk hb
                go_wp2_with fail
                obtain ⟨W5, hW5, HE⟩ := Env.st4_2 (by first | exact HE.out | exact HE.out.drew) (.bool q.num.neg) (.slice q.num.A q.num.k q.num.c) (.bool q.den.neg) (.slice q.den.A q.den.k q.den.c)
                rw [hW5]
                clear hW5
                have hE := HE.out
                replace c := Env.c3 hE
                exact bodyPost_ret (v := .tuple #[.agg #[.bool q.num.neg, .slice q.num.A q.num.k q.num.c, .bool q.den.neg, .slice q.den.A q.den.k q.den.c], .int .i64 0]) (by simp [results, Tryz.results50, go_sem, c]) rfl ((by rw [HQ.out]; exact hE.retRE fun V h => h.1))
            · rw [if_pos (by simpa using hd0)] at hF
              have HQ := Lib.hid hF
              have qd0 : (((d : Nat) : Int) != 0) = true := by simpa using hd0
              clear hF hp0 hd0
              go_wp2_with fail
              refine (H3.out _).mono ?_
              rintro e w7 ⟨rfl, rfl⟩
              go_wp2_with fail
              obtain ⟨W5, hW5, HE⟩ := Env.st4_2 (by first | exact HE.out | exact HE.out.drew) (.bool false) (.slice none 0 0) (.bool false) (.slice none 0 0)
              rw [hW5]
              clear hW5
              have hE := HE.out
              replace c := Env.c3 hE
              exact bodyPost_ret (v := .tuple #[.agg #[.bool false, .slice none 0 0, .bool false, .slice none 0 0], .int .i64 (d : Nat)]) (by simp [results, Tryz.results50, go_sem, c]) rfl ((by rw [HQ.out]; exact hE.retRE (r := zeroR) fun V _ => ratN_zero V))
          · rw [if_pos (by simpa using hp0)] at hF
            have HQ := Lib.hid hF
            have qp0 : (((p : Nat) : Int) != 0) = true := by simpa using hp0
            clear hF hp0
            go_wp2_with fail
            refine (H3.out _).mono ?_
            rintro e w7 ⟨rfl, rfl⟩
            go_wp2_with fail
            obtain ⟨W5, hW5, HE⟩ := Env.st4_2 (by first | exact HE.out | exact HE.out.drew) (.bool false) (.slice none 0 0) (.bool false) (.slice none 0 0)
            rw [hW5]
            clear hW5
            have hE := HE.out
            replace c := Env.c3 hE
            exact bodyPost_ret (v := .tuple #[.agg #[.bool false, .slice none 0 0, .bool false, .slice none 0 0], .int .i64 (p : Nat)]) (by simp [results, Tryz.results50, go_sem, c]) rfl ((by rw [HQ.out]; exact hE.retRE (r := zeroR) fun V _ => ratN_zero V))
        · have HQ := Lib.hid (show fin5 p d x y true = (11, 0) from by unfold fin5; rw [if_pos (.inr (.inr rfl))])
          clear hp11 hd11
          go_wp2_with fail
          refine (H3.out _).mono ?_
          rintro e w7 ⟨rfl, rfl⟩
          go_wp2_with fail
          obtain ⟨W5, hW5, HE⟩ := Env.st4_2 (by first | exact HE.out | exact HE.out.drew) (.bool false) (.slice none 0 0) (.bool false) (.slice none 0 0)
          rw [hW5]
          clear hW5
          have hE := HE.out
          replace c := Env.c3 hE
          exact bodyPost_ret (v := .tuple #[.agg #[.bool false, .slice none 0 0, .bool false, .slice none 0 0], .int .i64 11]) (by simp [results, Tryz.results50, go_sem, c]) rfl ((by rw [HQ.out]; exact hE.retRE (r := zeroR) fun V _ => ratN_zero V))
theorem rparse_ok (w : World) (s : ByteArray) (hs : s.size ≤ 1048576) (hT : Tz w) : Calls Tryz.prog 50 #[.string s] w (RetRE (parseR s.data.toList).2 (parseR s.data.toList).1 w) := by
  obtain ⟨C, hC⟩ : ∃ C, C = Lib.cut s.data.toList [47] := ⟨_, rfl⟩
  obtain ⟨tp, bt, dv⟩ := C
  have hl : tp.length ≤ s.size ∧ bt.length ≤ s.size := by
    have e : s.size = s.data.toList.length := Lib.size_eq s
    unfold Lib.cut at hC
    split at hC <;> simp only [Prod.mk.injEq] at hC <;> obtain ⟨rfl, rfl, -⟩ := hC <;> simp <;> omega
  have hc := fun W => cut_any s W hs
  rw [← hC] at hc
  have h1 := fun W => parse_pi ⟨tp.toArray⟩ W (by rw [size_str']; omega)
  obtain ⟨bot, hbot⟩ : ∃ bot : List UInt8, bot = if dv = true then bt else [49] := ⟨_, rfl⟩
  have hbl : bot.length ≤ 1048576 := by rw [hbot]; split <;> first | omega | simp
  have h2 := fun W => parse_pi ⟨bot.toArray⟩ W (by rw [size_str']; omega)
  have h3 := fun W => Tryz.strings_HasPrefix ⟨bot.toArray⟩ ⟨#[45]⟩ W
  have e0 : ∀ l : List UInt8, (⟨l.toArray⟩ : ByteArray).data.toList = l := fun l => by simp
  rw [e0] at h1 h2
  simp only at h3
  have hR : parseR s.data.toList = fin5 (parseN tp).1 (parseN bot).1 (pz (parseN tp)) (pz (parseN bot)) (Lib.hasPrefix bot [45]) := by
    unfold parseR fin5
    simp only [← hC, ← hbot]
  rw [hR]
  exact rparse_w w s ⟨tp.toArray⟩ ⟨bt.toArray⟩ ⟨bot.toArray⟩ dv _ _ _ _ _ hT hc h1 h2 h3 (by rw [hbot]; cases dv <;> rfl)
theorem rparse_good (w : World) (s : ByteArray) (hs : s.size ≤ 1048576) (hT : Tz w) (hok : (parseR s.data.toList).1 = 0) : Calls Tryz.prog 50 #[.string s] w (RetRE (parseR s.data.toList).2 0 w) := by
  have h := rparse_ok w s hs hT
  rw [hok] at h
  exact h
end Go.Proofs.YtcinoicpibleoaaGreatDoor
