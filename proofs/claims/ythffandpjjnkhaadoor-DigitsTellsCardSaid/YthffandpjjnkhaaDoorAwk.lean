/-
  tripwirelaw03.awake.
-/
import Derived.Test.YthffandpjjnkhaaDoorWho
namespace Go.Proofs.YthffandpjjnkhaaDoor
open Go.RowKit

theorem pn_12 : parseN [45, 49, 50] = (0, true, 12) := by decide +kernel
theorem it_big : intText false (val B64 [0, 1]) = [49, 56, 52, 52, 54, 55, 52, 52, 48, 55, 51, 55, 48, 57, 53, 53, 49, 54, 49, 54] := by decide +kernel
theorem it_5 : intText true 5 = [45, 53] := by decide +kernel
theorem it_0 (neg : Bool) : intText neg 0 = [48] := rfl

theorem rd_two {W : World} {B x y : Nat} {t : TypeId} (h : Blk W B t #[.int .u64 (x : Int), .int .u64 (y : Int)]) : Rd W .u64 (some ⟨B, 0, none⟩) [x, y] := Rd.of_blk (t := t) h
theorem two_lt {x y : Nat} (hx : x < B64) (hy : y < B64) : ∀ z ∈ [x, y], z < B64 := by intro z hz; simp at hz; omega

set_option maxRecDepth 100000 in
set_option maxHeartbeats 4000000 in
theorem awake_any (w : World) (htab : Tab w) :
    Calls Tryd.prog 11 #[] w fun e w' => e = .returned (.bool true) ∧ Below w.heap.size w w' := by
  have HP := Lib.hid (show Calls Tryd.prog 8 #[.string ⟨#[45, 49, 50]⟩] w (fun e w' => ∃ A c, e = .returned (.tuple #[.agg #[.bool true, .slice A 1 c], .int .i64 0]) ∧ Rd w' .u64 A [12] ∧ Below w.heap.size w w') from
    (parse_any ⟨#[45, 49, 50]⟩ w (by decide)).mono (by
      rintro e w' ⟨A, c, rfl, -, hr, hb⟩
      have hd : digs B64 12 = [12] := digs_one (by decide) (by decide) (by decide)
      change Rd w' .u64 A (digs B64 (parseN [45, 49, 50]).2.2) at hr
      refine ⟨A, c, ?_, ?_, hb⟩
      · change Ending.returned (.tuple #[.agg #[.bool (parseN [45, 49, 50]).2.1, .slice A (digs B64 (parseN [45, 49, 50]).2.2).length c], .int .i64 ((parseN [45, 49, 50]).1 : Nat)]) = _
        rw [pn_12, hd]; rfl
      · rw [pn_12, hd] at hr; exact hr))
  have Htab := Lib.hid htab
  clear htab
  go_enter Tryd.func11, Tryd.ntmps11
  go_wp2_with fail
  refine HP.out.mono ?_
  clear HP
  rintro e w1 ⟨A, c, rfl, hr, hb⟩
  have Hb1 := Lib.hid hb; have Hr1 := Lib.hid hr
  have Htab1 := Lib.hid (Htab.out.below hb (Nat.le_refl _))
  clear hb hr Htab
  go_wp2_with fail
  refine (wsmall_neg (w1.alloc (.cells #[.bool true, .slice A 1 c] 25)) A c 12 (by decide) (by decide) (Hr1.out.alloc _)).mono ?_
  rintro e w2 ⟨rfl, hb⟩
  have Hb2 := Lib.hid (show Below w.heap.size w w2 from (Hb1.out.alloc Hb1.out.size _).trans (hb.mono (by simp; have := Hb1.out.size; omega)))
  have Htab2 := Lib.hid ((Htab1.out.alloc (.cells #[.bool true, .slice A 1 c] 25)).below hb (Nat.le_refl _))
  clear hb Hb1 Hr1 Htab1
  go_wp2_with fail
  have HT := text_any (w2.alloc (.cells #[.int .u64 0, .int .u64 1] 31)) false (some ⟨w2.heap.size, 0, none⟩) 2 [0, 1] (by simp) (rd_two (x := 0) (y := 1) (Blk.new _ _ _)) (two_lt (by decide) (by decide)) (Htab2.out.alloc _)
  rw [it_big] at HT
  refine HT.mono ?_
  clear HT
  rintro e w3 ⟨rfl, hb⟩
  have Hb3 := Lib.hid (show Below w.heap.size w w3 from (Hb2.out.alloc Hb2.out.size _).trans (hb.mono (by simp; have := Hb2.out.size; omega)))
  have Htab3 := Lib.hid ((Htab2.out.alloc (.cells #[.int .u64 0, .int .u64 1] 31)).below hb (Nat.le_refl _))
  clear hb Hb2 Htab2
  go_wp2_with fail
  have HO := of_neg w3 5 (by decide) (by decide)
  refine HO.mono ?_
  clear HO
  rintro e w4 ⟨A4, c4, rfl, -, hr, hb, -⟩
  have hd : digs B64 5 = [5] := digs_one (by decide) (by decide) (by decide)
  rw [hd] at hr ⊢
  rw [show [5].length = 1 from rfl]
  have Hb4 := Lib.hid (Hb3.out.trans (hb.mono Hb3.out.size))
  have Htab4 := Lib.hid (Htab3.out.below hb (Nat.le_refl _))
  have HT := Lib.hid (text_any w4 true A4 c4 [5] (by simp) hr (lt_one (by decide)) Htab4.out)
  rw [val_one, it_5, show [5].length = 1 from rfl] at HT
  clear hb hr hd Hb3 Htab3
  go_wp2_with fail
  refine HT.out.mono ?_
  clear HT
  rintro e w5 ⟨rfl, hb⟩
  have Hb5 := Lib.hid (Hb4.out.trans (hb.mono Hb4.out.size))
  have Htab5 := Lib.hid (Htab4.out.below hb (Nat.le_refl _))
  have HT := Lib.hid (text_any w5 false none 0 [] (by simp) (Rd.nil_ _ _) (by simp) Htab5.out)
  rw [show val B64 [] = 0 from rfl, it_0, show ([] : List Nat).length = 0 from rfl] at HT
  clear hb Hb4 Htab4
  go_wp2_with fail
  refine HT.out.mono ?_
  clear HT
  rintro e w6 ⟨rfl, hb⟩
  have Hb6 := Lib.hid (Hb5.out.trans (hb.mono Hb5.out.size))
  clear hb Hb5 Htab5
  go_wp2_with fail
  go_ret
  exact ⟨rfl, Hb6.out⟩
end Go.Proofs.YthffandpjjnkhaaDoor
