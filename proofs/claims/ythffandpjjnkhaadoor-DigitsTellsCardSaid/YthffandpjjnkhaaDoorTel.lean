/-
  tripwirelow.CopyWords; tripwirelaw03.DigitsTells: the walk.
-/
import Derived.Test.YthffandpjjnkhaaDoorRefP
import Derived.Test.YthffandpjjnkhaaDoorLow
import Derived.Test.YthffandpjjnkhaaDoorAwk
import Derived.Deep.DeepMust
import Derived.Deep.DeepCutAuto
namespace Go.Proofs.YthffandpjjnkhaaDoor
open Go.RowKit

theorem run_copyWords (w : World) (A : Option Addr) (c : Nat) (l : List Nat) (hl : l.length ≤ 1000000) (hr : Rd w .u64 A l) :
    ∃ v' w', (Builtin.append_ #[23, 23] 23 #[.slice none 0 0, .slice A l.length c]).run Tryd.prog w = .ok v' w' ∧ Own w' w.heap.size 31 .u64 v' l ∧ Below w.heap.size w w' := by
  obtain ⟨i0, hi0, hz0, hz1, hz2⟩ := info_parts info_u64
  cases A with
  | none =>
    have h0 : l = [] := by
      rcases Nat.eq_zero_or_pos l.length with h | h
      · exact List.eq_nil_of_length_eq_zero h
      · obtain ⟨b, o, e⟩ := hr.sl h; cases e
    subst h0
    exact ⟨.slice none 0 0, w, by simp [Builtin.append_, run_underlying Tryd.underlying23, sizeOf, typeInfo, hi0, Builtin.lenOf, Builtin.firstCells], Own.nil_ _ _ _ _, Below.refl _ _⟩
  | some a =>
    have hcells : ∀ j u, (vals .u64 l)[j]? = some u → w.cell? (a.add j) = some u := by
      intro j u hu
      have hj : j < l.length := by
        rcases Nat.lt_or_ge j l.length with h | h
        · exact h
        · simp [vals, h] at hu
      obtain ⟨b, o, e⟩ := hr.sl (by omega)
      cases e
      have h1 := hr.cell j hj
      rw [adr_some] at h1
      rw [add_one_cell, h1, ← hu]
      simp [vals, nth, List.getD, hj]
    obtain ⟨v', w', hrun, h2, h3, -⟩ := run_append_own (P := Tryd.prog) w w.heap.size 23 23 31 i0 (.int .u64 0) 1 8 Tryd.underlying23 hi0 hz0 hz1 hz2 rfl (by decide) (.slice none 0 0) 0 [] (World.ownsRow_nil _ _ _ _) a l.length c (vals .u64 l) (by simp [vals]) hcells (by intro u hu; simp [vals] at hu; obtain ⟨x, -, rfl⟩ := hu; rfl) (by simp only [maxLen]; omega) (by omega) (Nat.le_refl _)
    refine ⟨v', w', hrun, by simpa [Own] using h2, (Below.refl _ _).grown h3 (Nat.le_refl _) (fun b hb => by cases hb)⟩

set_option maxRecDepth 100000 in
set_option maxHeartbeats 1000000 in
theorem copyWords_any (w : World) (A : Option Addr) (c : Nat) (l : List Nat) (hl : l.length ≤ 1000000) (hr : Rd w .u64 A l) :
    Calls Tryd.prog 13 #[.slice A l.length c] w (RetL .u64 l w) := by
  obtain ⟨v', w', hrun, ho, hb⟩ := run_copyWords w A c l hl hr
  have Hrun := Lib.hid hrun; have Ho := Lib.hid ho; have Hb := Lib.hid hb
  clear hrun ho hb hr
  generalize hn : l.length = n at *
  have Hn := Lib.hid hn; clear hn
  go_enter Tryd.func13, Tryd.ntmps13
  go_wp2_with (at_builtin; refine wpList_append_eq rfl (.tmp 4) (.tmp 5) 23 _ _ _ rfl rfl rfl Hrun.out ?_)
  go_ret
  obtain ⟨A1, c1, rfl, hc1, -, hr1, hf1⟩ := Ho.out.form
  exact ⟨A1, c1, rfl, hc1, hr1, Hb.out, hf1⟩

/-- what is known of memory in the law -/
structure DtM (W : World) (A A1 A2 Ax : Option Addr) (l d : List Nat) : Prop where
  ra : Rd W .u64 A l
  rb : Rd W .u64 A1 d
  rc : Rd W .u64 A2 d
  rx : Rd W .u64 Ax l
  tab : Tab W
/-- three numbers in boxes -/
structure DtSt (w W : World) (gb gc : Nat) (neg nb : Bool) (A A1 A2 Ax : Option Addr) (n c m c1 c2 : Nat) (l d : List Nat) : Prop where
  ba : Blk W w.heap.size 25 #[.bool neg, .slice A n c]
  bb : Blk W gb 25 #[.bool nb, .slice A1 m c1]
  bc : Blk W gc 25 #[.bool nb, .slice A2 m c2]
  m : DtM W A A1 A2 Ax l d
  bel : Below w.heap.size w W
section
variable {w W W' : World} {gb gc : Nat} {neg nb : Bool} {A A1 A2 Ax : Option Addr} {n c m c1 c2 : Nat} {l d : List Nat}
theorem DtM.below (h : DtM W A A1 A2 Ax l d) (hb : Below W.heap.size W W') : DtM W' A A1 A2 Ax l d :=
  ⟨h.ra.below hb (Nat.le_refl _), h.rb.below hb (Nat.le_refl _), h.rc.below hb (Nat.le_refl _), h.rx.below hb (Nat.le_refl _), h.tab.below hb (Nat.le_refl _)⟩
theorem DtM.drew (h : DtM W A A1 A2 Ax l d) : DtM W.drew A A1 A2 Ax l d := ⟨h.ra.drew, h.rb.drew, h.rc.drew, h.rx.drew, h.tab.drewN 1⟩
theorem DtSt.below (h : DtSt w W gb gc neg nb A A1 A2 Ax n c m c1 c2 l d) (hb : Below W.heap.size W W') : DtSt w W' gb gc neg nb A A1 A2 Ax n c m c1 c2 l d :=
  ⟨h.ba.below hb h.ba.lt, h.bb.below hb h.bb.lt, h.bc.below hb h.bc.lt, h.m.below hb, h.bel.trans (hb.mono h.bel.size)⟩
theorem DtSt.drew (h : DtSt w W gb gc neg nb A A1 A2 Ax n c m c1 c2 l d) : DtSt w W.drew gb gc neg nb A A1 A2 Ax n c m c1 c2 l d :=
  ⟨h.ba, h.bb, h.bc, h.m.drew, h.bel.drew⟩
theorem DtSt.cells (h : DtSt w W gb gc neg nb A A1 A2 Ax n c m c1 c2 l d) :
    W.cell? ⟨w.heap.size, 0, none⟩ = some (.bool neg) ∧ W.cell? ⟨w.heap.size, 1, none⟩ = some (.slice A n c) ∧ W.cell? ⟨gb, 0, none⟩ = some (.bool nb) ∧ W.cell? ⟨gb, 1, none⟩ = some (.slice A1 m c1) ∧ W.cell? ⟨gc, 0, none⟩ = some (.bool nb) ∧ W.cell? ⟨gc, 1, none⟩ = some (.slice A2 m c2) :=
  ⟨h.ba.cell 0, h.ba.cell 1, h.bb.cell 0, h.bb.cell 1, h.bc.cell 0, h.bc.cell 1⟩
end

theorem parse_lt (s : List UInt8) (K : Nat) (hK : 600 ≤ K) : (parseN s).2.2 < 10 ^ K := by
  have h0 : 0 < 10 ^ K := Nat.pow_pos (by decide)
  unfold parseN
  by_cases h1 : numB (Lib.trimPrefix s [45]) (Lib.hasPrefix s [45]) = false
  · simp only [if_pos h1]; exact h0
  · simp only [if_neg h1]
    by_cases h2 : 600 < (Lib.trimPrefix s [45]).length
    · simp only [if_pos h2]; exact h0
    · simp only [if_neg h2]
      have h3 : numB (Lib.trimPrefix s [45]) (Lib.hasPrefix s [45]) = true := by simpa using h1
      unfold numB at h3
      simp only [Bool.and_eq_true, List.all_eq_true] at h3
      exact Nat.lt_of_lt_of_le (decVal_lt _ h3.1.2) (Nat.pow_le_pow_right (by decide) (by omega))
theorem parse_len (s : List UInt8) (k : Nat) (hk : 0 < k) (h6 : 600 ≤ 6 * k) : (digs B64 (parseN s).2.2).length ≤ k :=
  digs_length_lt (Nat.lt_trans (parse_lt s (6 * k) h6) (ten_pow k hk (Nat.le_refl _)))

set_option maxRecDepth 100000 in
set_option maxHeartbeats 4000000 in
theorem tells_main (w : World) (neg : Bool) (A : Option Addr) (c : Nat) (l : List Nat) (hl : l.length ≤ 20) (hr : Rd w .u64 A l) (hx : ∀ x ∈ l, x < B64) (s : ByteArray) (hs : s.size ≤ 700) (htab : Tab w) :
    Calls Tryd.prog 4 #[.agg #[.bool neg, .slice A l.length c], .string s] w fun e w' => e = .returned (.bool true) ∧ Below w.heap.size w w' := by
  have Hst : Hid (∀ W, Calls Tryd.prog 12 #[.agg #[.bool neg, .slice A l.length c], .int .i64 20] W fun e w' => e = .returned (.bool true) ∧ Below W.heap.size W w') := fun W => by
    have h1 := shortInt_any W neg A l.length c 20
    rw [decide_eq_true hl] at h1; exact h1
  have hs7 : decide ((700 : Int) < (s.size : Int)) = false := by simp; omega
  have HBa := Lib.hid (Blk.new w 25 #[.bool neg, .slice A l.length c])
  have HRa := Lib.hid (hr.alloc (.cells #[.bool neg, .slice A l.length c] 25))
  have HT := Lib.hid (htab.alloc (.cells #[.bool neg, .slice A l.length c] 25))
  have Hbel := Lib.hid (Below.of_alloc w (.cells #[.bool neg, .slice A l.length c] 25))
  have Hcp := Lib.hid (fun (W : World) (h : Rd W .u64 A l) => copyWords_any W A c l (by omega) h)
  have Hx := Lib.hid hx
  clear hr htab hx
  obtain ⟨n, hn⟩ : ∃ n, n = l.length := ⟨_, rfl⟩
  unfold RetL at Hcp
  rw [← hn] at Hst HBa HRa HT Hbel Hcp hl ⊢
  have Hn := Lib.hid hn
  clear hn
  have Hp1 := Lib.hid (fun W => parse_any s W (by omega)); have Hp2 := Lib.hid (fun W => rparse_any s W (by omega))
  unfold RetInt at Hp1 Hp2
  have Hpl := Lib.hid (parse_len s.data.toList 100 (by decide) (by decide))
  generalize parseN s.data.toList = r at *
  obtain ⟨rn, nb, rv⟩ := r
  dsimp only at Hp1 Hp2 Hpl
  generalize digs B64 rv = d at *
  generalize hm : d.length = m at *
  have Hm := Lib.hid hm; clear hm
  go_enter Tryd.func4, Tryd.ntmps4
  go_wp2_with fail
  refine (Hst.out _).mono ?_
  rintro e w1 ⟨rfl, hb1⟩
  replace HBa := Lib.hid (HBa.out.below hb1 HBa.out.lt); replace HRa := Lib.hid (HRa.out.below hb1 (Nat.le_refl _)); replace HT := Lib.hid (HT.out.below hb1 (Nat.le_refl _)); replace Hbel := Lib.hid (Hbel.out.trans (hb1.mono Hbel.out.size))
  have a0 : w1.cell? ⟨w.heap.size, 0, none⟩ = some (.bool neg) := HBa.out.cell 0
  have a1 : w1.cell? ⟨w.heap.size, 1, none⟩ = some (.slice A n c) := HBa.out.cell 1
  clear hb1
  go_wp2_with fail
  refine (Hcp.out _ HRa.out).mono ?_
  rintro e w2 ⟨Ax, cx, rfl, -, hrx, hb2, -⟩
  replace HBa := Lib.hid (HBa.out.below hb2 HBa.out.lt); replace HRa := Lib.hid (HRa.out.below hb2 (Nat.le_refl _)); replace HT := Lib.hid (HT.out.below hb2 (Nat.le_refl _)); replace Hbel := Lib.hid (Hbel.out.trans (hb2.mono Hbel.out.size))
  have HRx := Lib.hid hrx
  clear hb2 hrx a0 a1
  go_wp2_with fail
  refine (Hp1.out _).mono ?_
  rintro e w3 ⟨A1, c1, rfl, -, hr3, hb3⟩
  replace HBa := Lib.hid (HBa.out.below hb3 HBa.out.lt); replace HRa := Lib.hid (HRa.out.below hb3 (Nat.le_refl _)); replace HT := Lib.hid (HT.out.below hb3 (Nat.le_refl _)); replace Hbel := Lib.hid (Hbel.out.trans (hb3.mono Hbel.out.size)); replace HRx := Lib.hid (HRx.out.below hb3 (Nat.le_refl _))
  have HRb := Lib.hid hr3
  clear hb3 hr3
  have HBb := Lib.hid (Blk.new w3 25 #[.bool nb, .slice A1 m c1])
  replace HBa := Lib.hid (HBa.out.alloc (.cells #[.bool nb, .slice A1 m c1] 25)); replace HRa := Lib.hid (HRa.out.alloc (.cells #[.bool nb, .slice A1 m c1] 25)); replace HT := Lib.hid (HT.out.alloc (.cells #[.bool nb, .slice A1 m c1] 25)); replace Hbel := Lib.hid (Hbel.out.alloc Hbel.out.size (.cells #[.bool nb, .slice A1 m c1] 25)); replace HRx := Lib.hid (HRx.out.alloc (.cells #[.bool nb, .slice A1 m c1] 25)); replace HRb := Lib.hid (HRb.out.alloc (.cells #[.bool nb, .slice A1 m c1] 25))
  go_wp2_with fail
  obtain ⟨gb, hgb⟩ : ∃ gb, gb = w3.heap.size := ⟨_, rfl⟩
  rw [← hgb] at HBb ⊢
  generalize w3.alloc (.cells #[.bool nb, .slice A1 m c1] 25) = w4 at *
  clear hgb
  refine (Hp2.out _).mono ?_
  rintro e w5 ⟨A2, c2, rfl, -, hr5, hb5⟩
  replace HBa := Lib.hid (HBa.out.below hb5 HBa.out.lt); replace HRa := Lib.hid (HRa.out.below hb5 (Nat.le_refl _)); replace HT := Lib.hid (HT.out.below hb5 (Nat.le_refl _)); replace Hbel := Lib.hid (Hbel.out.trans (hb5.mono Hbel.out.size)); replace HRx := Lib.hid (HRx.out.below hb5 (Nat.le_refl _)); replace HRb := Lib.hid (HRb.out.below hb5 (Nat.le_refl _)); replace HBb := Lib.hid (HBb.out.below hb5 HBb.out.lt)
  have HL := Lib.hid (show DtSt w (w5.alloc (.cells #[.bool nb, .slice A2 m c2] 25)) gb w5.heap.size neg nb A A1 A2 Ax n c m c1 c2 l d from
    ⟨HBa.out.alloc _, HBb.out.alloc _, Blk.new w5 _ _, ⟨HRa.out.alloc _, HRb.out.alloc _, hr5.alloc _, HRx.out.alloc _, HT.out.alloc _⟩, Hbel.out.alloc Hbel.out.size _⟩)
  have Htx : Hid (∀ W, DtM W A A1 A2 Ax l d → Calls Tryd.prog 10 #[.agg #[.bool neg, .slice A n c]] W fun e w' => e = .returned (strV (intText neg (val B64 l))) ∧ Below W.heap.size W w') := fun W h => by
    have h2 := text_any W neg A c l (by have := Hn.out; omega) h.ra Hx.out h.tab
    rw [← Hn.out] at h2; exact h2
  have Hrx : Hid (∀ W, DtM W A A1 A2 Ax l d → Calls Tryd.prog 15 #[.agg #[.bool neg, .slice A n c]] W fun e w' => e = .returned (strV (intText neg (val B64 l))) ∧ Below W.heap.size W w') := fun W h => by
    have h2 := rtext_any W neg A c l (by have := Hn.out; omega) h.ra Hx.out
    rw [← Hn.out] at h2; exact h2
  have Hsi : Hid (∀ W, DtM W A A1 A2 Ax l d → Calls Tryd.prog 16 #[.agg #[.bool nb, .slice A1 m c1], .agg #[.bool nb, .slice A2 m c2]] W fun e w' => e = .returned (.bool true) ∧ Below W.heap.size W w') := fun W h => by
    have h2 := sameInt_eq W nb A1 A2 c1 c2 d (by have := Hm.out; have := Hpl.out; omega) h.rb h.rc
    rw [Hm.out] at h2; exact h2
  have Hsw : Hid (∀ W, DtM W A A1 A2 Ax l d → Calls Tryd.prog 17 #[.slice Ax n cx, .slice A n c] W fun e w' => e = .returned (.bool true) ∧ Below W.heap.size W w') := fun W h => by
    have h2 := sameWords_eq W Ax A cx c l (by have := Hn.out; omega) h.rx h.ra
    rw [← Hn.out] at h2
    exact h2.mono (fun e w' ⟨h3, q, h4⟩ => ⟨h3, by rw [h4]; exact Below.drewN (Below.refl _ _) q⟩)
  have Haw : Hid (∀ W, DtM W A A1 A2 Ax l d → Calls Tryd.prog 11 #[] W fun e w' => e = .returned (.bool true) ∧ Below W.heap.size W w') := fun W h => awake_any W h.tab
  clear HBa HRa HT Hbel HRx HRb HBb hb5 hr5 Hcp Hp1 Hp2 Hst
  generalize intText neg (val B64 l) = t at *
  go_wp2_with fail
  obtain ⟨T, hT⟩ : ∃ T : ByteArray, T = ⟨t.toArray⟩ := ⟨_, rfl⟩
  rw [show strV t = .string T from by rw [hT]] at Htx Hrx
  clear hT
  obtain ⟨gc, hgc⟩ : ∃ gc, gc = w5.heap.size := ⟨_, rfl⟩
  rw [← hgc] at HL ⊢
  generalize w5.alloc (.cells #[.bool nb, .slice A2 m c2] 25) = w6 at *
  clear hgc
  obtain ⟨a0, a1, b0, b1, k0, k1⟩ := HL.out.cells
  first
  | (go_region_held3 (fun W => W.cell? ⟨w.heap.size, 0, none⟩ = some (.bool neg) ∧ W.cell? ⟨w.heap.size, 1, none⟩ = some (.slice A n c) ∧ W.cell? ⟨gb, 0, none⟩ = some (.bool nb) ∧ W.cell? ⟨gb, 1, none⟩ = some (.slice A1 m c1) ∧ W.cell? ⟨gc, 0, none⟩ = some (.bool nb) ∧ W.cell? ⟨gc, 1, none⟩ = some (.slice A2 m c2)) (first | exact HL.out.cells | exact HL.out.drew.cells)
      (first
        | (go_at_call 10; go_must (refine (Htx.out _ (by first | exact HL.out.m | exact HL.out.drew.m)).mono ?_; rintro e wz ⟨rfl, hb⟩; replace HL := Lib.hid (DtSt.below (by first | exact HL.out | exact HL.out.drew) hb); clear hb a0 a1 b0 b1 k0 k1; obtain ⟨a0, a1, b0, b1, k0, k1⟩ := HL.out.cells))
        | (go_at_call 15; go_must (refine (Hrx.out _ (by first | exact HL.out.m | exact HL.out.drew.m)).mono ?_; rintro e wz ⟨rfl, hb⟩; replace HL := Lib.hid (DtSt.below (by first | exact HL.out | exact HL.out.drew) hb); clear hb a0 a1 b0 b1 k0 k1; obtain ⟨a0, a1, b0, b1, k0, k1⟩ := HL.out.cells))
        | (go_at_call 16; go_must (refine (Hsi.out _ (by first | exact HL.out.m | exact HL.out.drew.m)).mono ?_; rintro e wz ⟨rfl, hb⟩; replace HL := Lib.hid (DtSt.below (by first | exact HL.out | exact HL.out.drew) hb); clear hb a0 a1 b0 b1 k0 k1; obtain ⟨a0, a1, b0, b1, k0, k1⟩ := HL.out.cells))
        | (go_at_call 17; go_must (refine (Hsw.out _ (by first | exact HL.out.m | exact HL.out.drew.m)).mono ?_; rintro e wz ⟨rfl, hb⟩; replace HL := Lib.hid (DtSt.below (by first | exact HL.out | exact HL.out.drew) hb); clear hb a0 a1 b0 b1 k0 k1; obtain ⟨a0, a1, b0, b1, k0, k1⟩ := HL.out.cells))
        | (go_at_call 11; go_must (refine (Haw.out _ (by first | exact HL.out.m | exact HL.out.drew.m)).mono ?_; rintro e wz ⟨rfl, hb⟩; replace HL := Lib.hid (DtSt.below (by first | exact HL.out | exact HL.out.drew) hb); clear hb a0 a1 b0 b1 k0 k1; obtain ⟨a0, a1, b0, b1, k0, k1⟩ := HL.out.cells))))
  | fail
  all_goals
    go_wp2_with fail
    go_ret
    exact ⟨rfl, by first | exact HL.out.bel | exact HL.out.drew.bel⟩

set_option maxRecDepth 100000 in
set_option maxHeartbeats 1000000 in
theorem tells_long (w : World) (neg : Bool) (A : Option Addr) (n c : Nat) (s : ByteArray) (htab : Tab w) (hk : 20 < n) :
    Calls Tryd.prog 4 #[.agg #[.bool neg, .slice A n c], .string s] w fun e w' => e = .returned (.bool true) ∧ Below w.heap.size w w' := by
  have Hst : Hid (∀ W, Calls Tryd.prog 12 #[.agg #[.bool neg, .slice A n c], .int .i64 20] W fun e w' => e = .returned (.bool false) ∧ Below W.heap.size W w') := fun W => by
    have h1 := shortInt_any W neg A n c 20
    rw [decide_eq_false (by omega)] at h1; exact h1
  have HT := Lib.hid (htab.alloc (.cells #[.bool neg, .slice A n c] 25))
  have Hbel := Lib.hid (Below.of_alloc w (.cells #[.bool neg, .slice A n c] 25))
  clear htab hk
  go_enter Tryd.func4, Tryd.ntmps4
  go_wp2_with fail
  refine (Hst.out _).mono ?_
  rintro e w1 ⟨rfl, hb1⟩
  replace HT := Lib.hid (HT.out.below hb1 (Nat.le_refl _)); replace Hbel := Lib.hid (Hbel.out.trans (hb1.mono Hbel.out.size))
  clear hb1
  go_wp2_with fail
  refine (awake_any _ HT.out).mono ?_
  rintro e w2 ⟨rfl, hb2⟩
  replace Hbel := Lib.hid (Hbel.out.trans (hb2.mono Hbel.out.size))
  clear hb2
  go_wp2_with fail
  go_ret
  exact ⟨rfl, Hbel.out⟩

set_option maxRecDepth 100000 in
set_option maxHeartbeats 1000000 in
theorem tells_text (w : World) (neg : Bool) (A : Option Addr) (n c : Nat) (s : ByteArray) (htab : Tab w) (hk : n ≤ 20) (hs : 700 < s.size) :
    Calls Tryd.prog 4 #[.agg #[.bool neg, .slice A n c], .string s] w fun e w' => e = .returned (.bool true) ∧ Below w.heap.size w w' := by
  have Hst : Hid (∀ W, Calls Tryd.prog 12 #[.agg #[.bool neg, .slice A n c], .int .i64 20] W fun e w' => e = .returned (.bool true) ∧ Below W.heap.size W w') := fun W => by
    have h1 := shortInt_any W neg A n c 20
    rw [decide_eq_true (by omega)] at h1; exact h1
  have hs7 : decide ((700 : Int) < (s.size : Int)) = true := by simp; omega
  have HT := Lib.hid (htab.alloc (.cells #[.bool neg, .slice A n c] 25))
  have Hbel := Lib.hid (Below.of_alloc w (.cells #[.bool neg, .slice A n c] 25))
  clear htab hk
  go_enter Tryd.func4, Tryd.ntmps4
  go_wp2_with fail
  refine (Hst.out _).mono ?_
  rintro e w1 ⟨rfl, hb1⟩
  replace HT := Lib.hid (HT.out.below hb1 (Nat.le_refl _)); replace Hbel := Lib.hid (Hbel.out.trans (hb1.mono Hbel.out.size))
  clear hb1
  go_wp2_with fail
  refine (awake_any _ HT.out).mono ?_
  rintro e w2 ⟨rfl, hb2⟩
  replace Hbel := Lib.hid (Hbel.out.trans (hb2.mono Hbel.out.size))
  clear hb2
  go_wp2_with fail
  go_ret
  exact ⟨rfl, Hbel.out⟩

/-- the law at whatever number and text -/
theorem digitsTells_any (w : World) (neg : Bool) (A : Option Addr) (c : Nat) (l : List Nat) (_ : l.length ≤ c) (_ : c ≤ maxLen) (hr : Rd w .u64 A l) (hx : ∀ x ∈ l, x < B64) (s : ByteArray) (_ : s.size ≤ maxLen) (ht : Tab w) :
    Calls Tryd.prog 4 #[.agg #[.bool neg, .slice A l.length c], .string s] w fun e w' => e = .returned (.bool true) ∧ Below w.heap.size w w' := by
  by_cases hl : 20 < l.length
  · exact tells_long w neg A _ c s ht hl
  by_cases hs : 700 < s.size
  · exact tells_text w neg A _ c s ht (Nat.not_lt.1 hl) hs
  exact tells_main w neg A c l (Nat.not_lt.1 hl) hr hx s (Nat.not_lt.1 hs) ht
end Go.Proofs.YthffandpjjnkhaaDoor
