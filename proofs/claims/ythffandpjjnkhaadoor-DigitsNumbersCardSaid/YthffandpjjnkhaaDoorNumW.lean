/-
  tripwirelaw03.DigitsNumbers: the walk.
-/
import Derived.Test.YthffandpjjnkhaaDoorNumF
namespace Go.Proofs.YthffandpjjnkhaaDoor
open Go.RowKit

theorem size_string (w : World) : (sizeOf (Tryd.prog.elem 22)).run Tryd.prog w = .ok 1 w := by kernel_rfl
def strsA (l : List ByteArray) : Array Value := (l.map Value.string).toArray
theorem strsA_get (l : List ByteArray) (k : Nat) (h : k < l.length) : (strsA l)[k]? = some (.string (l[k])) := by
  simp [strsA, h]

/-- in the middle of the law -/
structure NuInv (w wr : World) (g : Nat) (l : List ByteArray) : Prop where
  blk : Blk wr g 9 (strsA l)
  below : Below w.heap.size w wr
  tab : Tab wr
  lt : g < wr.heap.size
theorem NuInv.next {w wr w' : World} {g B : Nat} {l : List ByteArray} (h : NuInv w wr g l) (hb : Below B wr w') (hB : wr.heap.size ≤ B) : NuInv w w' g l :=
  ⟨h.blk.below hb (by have := h.lt; omega), h.below.trans (hb.mono (by have := h.below.size; omega)), h.tab.below hb hB, Nat.lt_of_lt_of_le h.lt hb.size⟩
theorem NuInv.alloc {w wr : World} {g : Nat} {l : List ByteArray} (h : NuInv w wr g l) (o : Obj) : NuInv w (wr.alloc o) g l :=
  h.next (Below.of_alloc wr o) (Nat.le_refl _)

/-- behind the first loop: a number in block b that is told as s -/
structure NuSt (w wr : World) (b : Nat) (neg : Bool) (A : Option Addr) (n c : Nat) (s : ByteArray) : Prop where
  below : Below w.heap.size w wr
  tab : Tab wr
  blk : Blk wr b 25 #[.bool neg, .slice A n c]
  tells : TellsAs wr neg A n c s
theorem NuSt.next {w wr w' : World} {b n c B : Nat} {neg : Bool} {A : Option Addr} {s : ByteArray} (h : NuSt w wr b neg A n c s) (hb : Below B wr w') (hB : wr.heap.size ≤ B) : NuSt w w' b neg A n c s :=
  ⟨h.below.trans (hb.mono (by have := h.below.size; omega)), h.tab.below hb hB, h.blk.below hb (by have := h.blk.lt; omega), fun W hW hT => h.tells W (fun p hp => (hW p (Nat.lt_of_lt_of_le hp hb.size)).trans (hb.cell (by omega))) hT⟩
theorem NuSt.alloc {w wr : World} {b n c : Nat} {neg : Bool} {A : Option Addr} {s : ByteArray} (h : NuSt w wr b neg A n c s) (o : Obj) : NuSt w (wr.alloc o) b neg A n c s := h.next (Below.of_alloc wr o) (Nat.le_refl _)

set_option maxRecDepth 100000 in
set_option maxHeartbeats 8000000 in
theorem numbers_any (w : World) (htab : Tab w) :
    Calls Tryd.prog 3 #[] w fun e w' => e = .returned (.bool true) ∧ Below w.heap.size w w' := by
  have h1 := size_string
  have Htab := Lib.hid htab
  clear htab
  go_enter Tryd.func3, Tryd.ntmps3
  go_wp2_with fail
  have HI0 := Lib.hid (show NuInv w (w.alloc (.cells (strsA badL) 9)) w.heap.size badL from ⟨Blk.new _ _ _, Below.of_alloc _ _, Htab.out.alloc _, by simp⟩)
  have hsl : Sl (some ⟨w.heap.size, 0, none⟩) 14 := Sl.some_ _ _ _
  go_loopw [18] (fun i wr => ∃ k : Nat, k ≤ 14 ∧ i = .int .i64 k ∧ NuInv w wr w.heap.size badL) (fun i _ => 14 - (intOf i).toNat)
  case atStart => exact ⟨0, by omega, rfl, HI0.out⟩
  case round =>
    obtain ⟨k, hk, rfl, hI⟩ := hrel
    by_cases hlt : k < 14
    · have hcell : wr.cell? (adr (some ⟨w.heap.size, 0, none⟩) k) = some (.string (badL[k]'hlt)) := by rw [adr_some, Nat.zero_add, hI.blk.cell k, strsA_get badL k hlt]
      have HP := Lib.hid (parse_bad (badL[k]'hlt) wr (List.getElem_mem _))
      have HI := Lib.hid hI
      generalize badL[k]'hlt = s at *
      clear hI
      go_wp2_with fail
      refine HP.out.mono ?_
      clear HP
      rintro e w1 ⟨A, c, rfl, hb⟩
      have HN := Lib.hid (fun o => (HI.out.next hb (Nat.le_refl _)).alloc o)
      clear hb hcell
      go_wp2_with fail
      go_roundw
      case rel => exact ⟨k + 1, by omega, by go_num, HN.out _⟩
      case measure => simp [intOf]; omega
    · have hkk : k = 14 := by omega
      subst hkk
      have Hb := Lib.hid hI.below; have Ht := Lib.hid hI.tab
      have HP := Lib.hid (p_ones2 wr)
      clear hI HI0 Htab
      go_wp2_with fail
      refine HP.out.mono ?_
      clear HP
      rintro e w1 ⟨S, hS, rfl, hb⟩
      have Hb1 := Lib.hid (Hb.out.trans (hb.mono Hb.out.size)); have Ht1 := Lib.hid (Ht.out.below hb (Nat.le_refl _))
      have HP1 := Lib.hid (parse_good S w1 hS.good)
      have hz := hS.size
      have HS0 := Lib.hid hS
      clear hb Hb Ht hS
      go_wp2_with fail
      refine HP1.out.mono ?_
      clear HP1
      rintro e w2 ⟨neg, A, n, c, rfl, htl, hb⟩
      have HS := Lib.hid (show NuSt w (w2.alloc (.cells #[.bool neg, .slice A n c] 25)) w2.heap.size neg A n c S from
        ⟨(Hb1.out.trans (hb.mono Hb1.out.size)).alloc (by have := hb.size; have := Hb1.out.size; omega) _, (Ht1.out.below hb (Nat.le_refl _)).alloc _, Blk.new _ _ _,
          fun W hW hT => htl W (fun p hp => (hW p (by simp; omega)).trans (World.cell?_alloc_lt w2 _ p hp)) hT⟩)
      clear htl hb Hb1 Ht1
      go_wp2_with fail
      refine (HS0.out.pl _).mono ?_
      rintro e w3 ⟨ng3, A3, n3, c3, rfl, hb⟩
      have HS3 := Lib.hid ((HS.out.next hb (Nat.le_refl _)).alloc (.cells #[.bool ng3, .slice A3 n3 c3] 25))
      clear hb HS
      go_wp2_with fail
      refine (HS0.out.px _).mono ?_
      rintro e w4 ⟨ng4, A4, n4, c4, rfl, hb⟩
      have HS4 := Lib.hid ((HS3.out.next hb (Nat.le_refl _)).alloc (.cells #[.bool ng4, .slice A4 n4 c4] 25))
      clear hb HS3 HS0
      go_wp2_with fail
      refine (p_r18 _).mono ?_
      rintro e w5 ⟨Ra, hR, hza, rfl, hb⟩
      have HRa := Lib.hid hR
      have HS5 := Lib.hid (HS4.out.next hb (Nat.le_refl _))
      clear hb HS4 hR
      go_wp2_with fail
      refine (p_r17 _).mono ?_
      rintro e w6 ⟨Rb, hR, hzb, rfl, hb⟩
      have HRb := Lib.hid hR
      have HS6 := Lib.hid (HS5.out.next hb (Nat.le_refl _))
      clear hb HS5 hR
      go_wp2_with fail
      refine (p_r36 _).mono ?_
      rintro e w7 ⟨Rc, hR, hzc, rfl, hb⟩
      have HRc := Lib.hid hR
      have HS7 := Lib.hid (HS6.out.next hb (Nat.le_refl _))
      clear hb HS6 hR
      go_wp2_with fail
      refine (p_n17 _).mono ?_
      rintro e w8 ⟨Rd', hR, hzd', rfl, hb⟩
      have HRd' := Lib.hid hR
      have HS8 := Lib.hid (HS7.out.next hb (Nat.le_refl _))
      clear hb HS7 hR
      go_wp2_with fail
      refine (p_r54 _).mono ?_
      rintro e w9 ⟨Re, hR, hze, rfl, hb⟩
      have HRe := Lib.hid hR
      have HS9 := Lib.hid (HS8.out.next hb (Nat.le_refl _))
      clear hb HS8 hR
      go_wp2_with fail
      have hgood : ∀ s ∈ goodL2 Ra Rb Rc Rd' Re, goodB s = true := by
        rw [HRa.out, HRb.out, HRc.out, HRd'.out, HRe.out]
        exact fun s hs => good_at hs
      obtain ⟨g, hg⟩ : ∃ g, g = w9.heap.size := ⟨_, rfl⟩
      have HG := Lib.hid hgood
      have HI0 := Lib.hid (show NuSt w (w9.alloc (.cells (strsA (goodL2 Ra Rb Rc Rd' Re)) 9)) w2.heap.size neg A n c S ∧ Blk (w9.alloc (.cells (strsA (goodL2 Ra Rb Rc Rd' Re)) 9)) g 9 (strsA (goodL2 Ra Rb Rc Rd' Re)) from
        ⟨HS9.out.alloc _, hg ▸ Blk.new _ _ _⟩)
      clear HRa HRb HRc HRd' HRe hza hzb hzc hzd' hze HS9 hgood
      have hs7 : Sl (some ⟨g, 0, none⟩) 7 := Sl.some_ _ _ _
      rw [← hg]
      have Hg := Lib.hid hg
      clear hg
      obtain ⟨ls, hls⟩ : ∃ ls, ls = goodL2 Ra Rb Rc Rd' Re := ⟨_, rfl⟩
      have HL : Hid (ls.length = 7) := by rw [hls]; rfl
      have hW : w9.alloc (.cells #[.string (⟨#[49]⟩ ++ Ra), .string (⟨#[49]⟩ ++ Rb), .string (⟨#[45, 53]⟩ ++ Rc ++ ⟨#[55]⟩), .string (⟨#[57]⟩ ++ Rd'), .string ⟨#[48]⟩, .string ⟨#[45, 49]⟩, .string (⟨#[49]⟩ ++ Re)] 9) = w9.alloc (.cells (strsA ls) 9) := by rw [hls]; rfl
      rw [hW]
      rw [← hls] at HI0 HG
      clear hls hW
      go_loopw [72] (fun i wq => ∃ k : Nat, k ≤ 7 ∧ i = .int .i64 k ∧ NuSt w wq w2.heap.size neg A n c S ∧ Blk wq g 9 (strsA ls)) (fun i _ => 7 - (intOf i).toNat)
      case atStart => exact ⟨0, by omega, rfl, HI0.out⟩
      case round =>
        obtain ⟨k, hk, rfl, hI, hB⟩ := hrel
        clear HI0
        by_cases hlt7 : k < 7
        · have hlk : k < ls.length := by rw [HL.out]; exact hlt7
          have hcell : wr.cell? (adr (some ⟨g, 0, none⟩) k) = some (.string (ls[k]'hlk)) := by rw [adr_some, Nat.zero_add, hB.cell k, strsA_get ls k hlk]
          have HP := Lib.hid (parse_good (ls[k]'hlk) wr (HG.out _ (List.getElem_mem _)))
          have HI := Lib.hid hI; have HB := Lib.hid hB
          generalize ls[k]'hlk = s at *
          clear hI hB
          go_wp2_with fail
          refine HP.out.mono ?_
          clear HP
          rintro e w10 ⟨ng5, A5, n5, c5, rfl, htl, hb⟩
          have HS5 := Lib.hid ((HI.out.next hb (Nat.le_refl _)).alloc (.cells #[.bool ng5, .slice A5 n5 c5] 25))
          have HB5 := Lib.hid ((HB.out.below hb HB.out.lt).alloc (.cells #[.bool ng5, .slice A5 n5 c5] 25))
          have HT5 := Lib.hid (htl (w10.alloc (.cells #[.bool ng5, .slice A5 n5 c5] 25)) (fun p hp => World.cell?_alloc_lt w10 _ p hp) HS5.out.tab)
          clear htl hb HI HB hcell
          go_wp2_with fail
          refine HT5.out.mono ?_
          clear HT5
          rintro e w11 ⟨rfl, hb⟩
          have HS6 := Lib.hid (HS5.out.next hb (Nat.le_refl _))
          have HB6 := Lib.hid (HB5.out.below hb HB5.out.lt)
          clear hb HS5 HB5
          go_wp2_with fail
          go_roundw
          case rel => exact ⟨k + 1, by omega, by go_num, HS6.out, HB6.out⟩
          case measure => simp [intOf]; omega
        · have hkk : k = 7 := by omega
          subst hkk
          have HT := Lib.hid (hI.tells wr (fun _ _ => rfl) hI.tab)
          have p0 : wr.cell? ⟨w2.heap.size, 0, none⟩ = some (.bool neg) := hI.blk.cell 0
          have p1 : wr.cell? ⟨w2.heap.size, 1, none⟩ = some (.slice A n c) := hI.blk.cell 1
          have HI := Lib.hid hI
          clear hI hB HG HL
          go_wp2_with fail
          refine HT.out.mono ?_
          clear HT
          rintro e w12 ⟨rfl, hb⟩
          have Hb7 := Lib.hid (HI.out.below.trans (hb.mono HI.out.below.size))
          have Ht7 := Lib.hid (HI.out.tab.below hb (Nat.le_refl _))
          clear hb HI p0 p1
          go_wp2_with fail
          have HT0 := text_any (w12.alloc (.cells #[.int .u64 0, .int .u64 0] 31)) true (some ⟨w12.heap.size, 0, none⟩) 2 [0, 0] (by simp) (rd_two (x := 0) (y := 0) (Blk.new _ _ _)) (two_lt (by decide) (by decide)) (Ht7.out.alloc _)
          rw [show val B64 [0, 0] = 0 from rfl, it_0] at HT0
          refine HT0.mono ?_
          clear HT0
          rintro e w13 ⟨rfl, hb⟩
          have Hb8 := Lib.hid (show Below w.heap.size w w13 from (Hb7.out.alloc Hb7.out.size _).trans (hb.mono (by simp; have := Hb7.out.size; omega)))
          have Ht8 := Lib.hid ((Ht7.out.alloc (.cells #[.int .u64 0, .int .u64 0] 31)).below hb (Nat.le_refl _))
          clear hb Hb7 Ht7
          go_wp2_with fail
          refine (awake_any w13 Ht8.out).mono ?_
          rintro e w14 ⟨rfl, hb⟩
          have Hb9 := Lib.hid (Hb8.out.trans (hb.mono Hb8.out.size))
          clear hb
          go_wp2_with fail
          go_ret
          exact ⟨rfl, Hb9.out⟩
end Go.Proofs.YthffandpjjnkhaaDoor
