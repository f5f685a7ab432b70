/-
  tripwirelaw09.TokensNumbers: the walk. TokensNumbers returns true, whatever the input; no conditions: the row and its card.
-/
import Derived.Test.YtgghdedabpohbaaDoorTW
import Derived.Test.YtgghdedabpohbaaDoorShelf
import Derived.Test.YtgghdedabpohbaaDoorTR
import Derived.ChangeMaps5
namespace Go.Proofs.YtgghdedabpohbaaDoor
open Go.RowKit

def strsT (l : List ByteArray) : Array Value := (l.map Value.string).toArray
theorem strsT_get (l : List ByteArray) (k : Nat) (h : k < l.length) : (strsT l)[k]? = some (.string (l[k])) := by simp [strsT, h]
theorem size_strT (w : World) : (sizeOf (Tryd.prog.elem 40)).run Tryd.prog w = .ok 1 w := by kernel_rfl
def noT : List ByteArray := [⟨#[65]⟩, ⟨#[43, 49]⟩, ⟨#[47]⟩, ⟨#[45]⟩, ⟨#[49, 46, 53]⟩, ⟨#[97, 95, 98]⟩, ⟨#[40]⟩, ⟨#[34]⟩, ⟨#[255]⟩, ⟨#[49, 47, 45, 50]⟩, ⟨#[48, 48, 55]⟩, ⟨#[45, 48]⟩, ⟨#[45, 45, 49]⟩, ⟨#[49, 47, 47, 50]⟩, ⟨#[59]⟩, ⟨#[97, 61, 98]⟩]
def preT : ByteArray := ⟨#[10, 10, 35, 32, 97, 10, 32, 120, 58]⟩
def noTB (s : ByteArray) : Bool := decide (s.size ≤ 700) && decide (tokens parseR s.data.toList = (20, 1, [])) && decide (tokens parseR (preT ++ s).data.toList = (20, 4, []))
theorem noT_all : noT.all noTB = true := by decide +kernel
theorem noT_at {s : ByteArray} (h : s ∈ noT) : s.size ≤ 700 ∧ tokens parseR s.data.toList = (20, 1, []) ∧ tokens parseR (preT ++ s).data.toList = (20, 4, []) := by
  have := List.all_eq_true.1 noT_all s h
  simpa [noTB, and_assoc] using this
/-- what the law asks of the text of six hundred and one sevens -/
structure Sevens (S : ByteArray) : Prop where
  size : S.size = 601
  a : tokens parseR (⟨#[10]⟩ ++ S).data.toList = (3, 2, [])
  b : tokens parseR (⟨#[10, 49, 47]⟩ ++ S).data.toList = (3, 2, [])
def rp7 : ByteArray := ⟨(Lib.repeatL [55] 601).toArray⟩
theorem sevens_size : rp7.size = 601 := by decide +kernel
theorem sevens_a : tokens parseR (⟨#[10]⟩ ++ rp7).data.toList = (3, 2, []) := by decide +kernel
theorem sevens_b : tokens parseR (⟨#[10, 49, 47]⟩ ++ rp7).data.toList = (3, 2, []) := by decide +kernel
theorem p_sevens (w : World) : Calls Tryd.prog 10 #[.string ⟨#[55]⟩, .int .i64 601] w fun e w' => ∃ S, Sevens S ∧ e = .returned (.string S) ∧ Below w.heap.size w w' :=
  ((Tryd.strings_Repeat ⟨#[55]⟩ 601 w (by omega) (by decide) : Calls Tryd.prog 10 #[.string ⟨#[55]⟩, .int .i64 601] w fun e w' => e = .returned (.string rp7) ∧ Below w.heap.size w w')).mono fun _ _ h => ⟨_, ⟨sevens_size, sevens_a, sevens_b⟩, h⟩
theorem p_blanks (n : Nat) (z : Int) (hz : z = (n : Nat)) (hn : n ≤ 1000000) (w : World) : Calls Tryd.prog 10 #[.string ⟨#[32]⟩, .int .i64 z] w fun e w' => ∃ S, (S.data.toList = List.replicate n 32 ∧ S.size = n) ∧ e = .returned (.string S) ∧ Below w.heap.size w w' := by
  subst hz
  refine (Tryd.strings_Repeat ⟨#[32]⟩ n w (by omega) (by show 1 * n ≤ _; omega)).mono ?_
  rintro e w' ⟨he, hb⟩
  have hl : Lib.repeatL [32] n = List.replicate n 32 := by have := Lib.repeatL_replicate 32 1 n; rwa [Nat.mul_one] at this
  exact ⟨_, ⟨hl, by show (Lib.repeatL [32] n).length = n; rw [hl]; simp⟩, he, hb⟩
theorem skip_blanks (n m : Nat) : skipG false (List.replicate n 32) m = ([], m) := by
  induction n with
  | zero => rfl
  | succ n ih =>
    rw [List.replicate_succ]
    unfold skipG
    rw [if_neg (by decide), if_pos (by decide)]
    exact ih
theorem tokens_blanks {l : List UInt8} {n : Nat} (h : l = List.replicate n 32) (hn : n ≤ 262144) : tokens parseR l = (0, 0, [⟨1, [], 0, 1⟩]) := by
  subst h
  unfold tokens
  rw [List.length_replicate, if_neg (by omega)]
  simp only [toks, skip_blanks]
theorem tokens_over {l : List UInt8} (h : 262144 < l.length) : tokens parseR l = (3, 0, []) := by
  unfold tokens
  rw [if_pos h]

set_option maxRecDepth 100000 in
set_option maxHeartbeats 1000000 in
theorem sameTok_len (w : World) (A B : Option Addr) (c d n m : Nat) (h : n ≠ m) :
    Calls Tryd.prog 8 #[.slice A n c, .slice B m d] w fun e w' => e = .returned (.bool false) ∧ Below w.heap.size w w' := by
  have hq : ((n : Int) != (m : Int)) = true := by simp; omega
  clear h
  go_enter Tryd.func8, Tryd.ntmps8
  go_wp2_with fail
  go_ret
  exact ⟨rfl, Below.refl _ _⟩
theorem empty_tok : tokens parseR (⟨#[]⟩ : ByteArray).data.toList = (0, 0, [⟨1, [], 0, 1⟩]) := by decide +kernel
set_option maxRecDepth 100000 in
set_option maxHeartbeats 1000000 in
theorem tis_no (w : World) (hT : Tz w) : Calls Tryd.prog 11 #[.string ⟨#[]⟩, .slice none 0 0] w fun e w' => e = .returned (.bool false) ∧ Below w.heap.size w w' := by
  have HK := Lib.hid (tokens_ok ⟨#[]⟩ w _ (by decide +kernel) hT empty_tok)
  clear hT
  go_enter Tryd.func11, Tryd.ntmps11
  go_wp2_with fail
  refine HK.out.mono ?_
  rintro e w1 ⟨B, d, qs, rfl, hq, -, -, hb⟩
  have HX := Lib.hid (Blk.new w1 26 #[.int .i64 0, .int .i64 0])
  have Hbel := Lib.hid (hb.alloc hb.size (.cells #[.int .i64 0, .int .i64 0] 26))
  have hl : qs.length = 1 := by have := congrArg List.length hq; simpa using this
  rw [hl]
  clear hq hb HK hl
  obtain ⟨x0, x1⟩ := Blk.c2 HX.out
  go_wp2_with fail
  refine (sameTok_len _ B none d 0 1 0 (by decide)).mono ?_
  rintro e w2 ⟨rfl, hb2⟩
  have HZ := Lib.hid (Below.after Hbel.out hb2)
  clear hb2
  go_wp2_with fail
  go_ret
  exact ⟨rfl, HZ.out⟩
/-- in the middle of the law's loop -/
structure MInv (w wr : World) (g : Nat) : Prop where
  blk : Blk wr g 9 (strsT noT)
  below : Below w.heap.size w wr
theorem aw_101 : tokens parseR (⟨#[]⟩ : ByteArray).data.toList = (0, 0, [⟨1, [], 0, 1⟩]) := by decide +kernel
theorem aw_101_f (s0 : RV) : flatC (cellsT [(⟨1, [], 0, 1⟩, s0)]) = (#[.int .u8 1, .string ⟨#[]⟩, .bool s0.num.neg, .slice s0.num.A s0.num.k s0.num.c, .bool s0.den.neg, .slice s0.den.A s0.den.k s0.den.c, .int .i64 1] : Array Value).toList := rfl
theorem aw_102 : tokens parseR (⟨#[35]⟩ : ByteArray).data.toList = (0, 0, [⟨1, [], 0, 1⟩]) := by decide +kernel
theorem aw_102_f (s0 : RV) : flatC (cellsT [(⟨1, [], 0, 1⟩, s0)]) = (#[.int .u8 1, .string ⟨#[]⟩, .bool s0.num.neg, .slice s0.num.A s0.num.k s0.num.c, .bool s0.den.neg, .slice s0.den.A s0.den.k s0.den.c, .int .i64 1] : Array Value).toList := rfl
theorem aw_105 : tokens parseR (⟨#[97, 35, 98, 10, 99]⟩ : ByteArray).data.toList = (0, 0, [⟨2, [97], 0, 1⟩, ⟨2, [99], 0, 2⟩, ⟨1, [], 0, 2⟩]) := by decide +kernel
theorem aw_105_f (s0 s1 s2 : RV) : flatC (cellsT [(⟨2, [97], 0, 1⟩, s0), (⟨2, [99], 0, 2⟩, s1), (⟨1, [], 0, 2⟩, s2)]) = (#[.int .u8 2, .string ⟨#[97]⟩, .bool s0.num.neg, .slice s0.num.A s0.num.k s0.num.c, .bool s0.den.neg, .slice s0.den.A s0.den.k s0.den.c, .int .i64 1, .int .u8 2, .string ⟨#[99]⟩, .bool s1.num.neg, .slice s1.num.A s1.num.k s1.num.c, .bool s1.den.neg, .slice s1.den.A s1.den.k s1.den.c, .int .i64 2, .int .u8 1, .string ⟨#[]⟩, .bool s2.num.neg, .slice s2.num.A s2.num.k s2.num.c, .bool s2.den.neg, .slice s2.den.A s2.den.k s2.den.c, .int .i64 2] : Array Value).toList := rfl
theorem aw_114 : tokens parseR (⟨#[97, 98, 91, 49, 44, 50, 93, 58, 120]⟩ : ByteArray).data.toList = (0, 0, [⟨2, [97, 98], 0, 1⟩, ⟨4, [91], 0, 1⟩, ⟨3, [], Rat.divInt (1) 1, 1⟩, ⟨4, [44], 0, 1⟩, ⟨3, [], Rat.divInt (2) 1, 1⟩, ⟨4, [93], 0, 1⟩, ⟨4, [58], 0, 1⟩, ⟨2, [120], 0, 1⟩, ⟨1, [], 0, 1⟩]) := by decide +kernel
theorem aw_114_f (s0 s1 s2 s3 s4 s5 s6 s7 s8 : RV) : flatC (cellsT [(⟨2, [97, 98], 0, 1⟩, s0), (⟨4, [91], 0, 1⟩, s1), (⟨3, [], Rat.divInt (1) 1, 1⟩, s2), (⟨4, [44], 0, 1⟩, s3), (⟨3, [], Rat.divInt (2) 1, 1⟩, s4), (⟨4, [93], 0, 1⟩, s5), (⟨4, [58], 0, 1⟩, s6), (⟨2, [120], 0, 1⟩, s7), (⟨1, [], 0, 1⟩, s8)]) = (#[.int .u8 2, .string ⟨#[97, 98]⟩, .bool s0.num.neg, .slice s0.num.A s0.num.k s0.num.c, .bool s0.den.neg, .slice s0.den.A s0.den.k s0.den.c, .int .i64 1, .int .u8 4, .string ⟨#[91]⟩, .bool s1.num.neg, .slice s1.num.A s1.num.k s1.num.c, .bool s1.den.neg, .slice s1.den.A s1.den.k s1.den.c, .int .i64 1, .int .u8 3, .string ⟨#[]⟩, .bool s2.num.neg, .slice s2.num.A s2.num.k s2.num.c, .bool s2.den.neg, .slice s2.den.A s2.den.k s2.den.c, .int .i64 1, .int .u8 4, .string ⟨#[44]⟩, .bool s3.num.neg, .slice s3.num.A s3.num.k s3.num.c, .bool s3.den.neg, .slice s3.den.A s3.den.k s3.den.c, .int .i64 1, .int .u8 3, .string ⟨#[]⟩, .bool s4.num.neg, .slice s4.num.A s4.num.k s4.num.c, .bool s4.den.neg, .slice s4.den.A s4.den.k s4.den.c, .int .i64 1, .int .u8 4, .string ⟨#[93]⟩, .bool s5.num.neg, .slice s5.num.A s5.num.k s5.num.c, .bool s5.den.neg, .slice s5.den.A s5.den.k s5.den.c, .int .i64 1, .int .u8 4, .string ⟨#[58]⟩, .bool s6.num.neg, .slice s6.num.A s6.num.k s6.num.c, .bool s6.den.neg, .slice s6.den.A s6.den.k s6.den.c, .int .i64 1, .int .u8 2, .string ⟨#[120]⟩, .bool s7.num.neg, .slice s7.num.A s7.num.k s7.num.c, .bool s7.den.neg, .slice s7.den.A s7.den.k s7.den.c, .int .i64 1, .int .u8 1, .string ⟨#[]⟩, .bool s8.num.neg, .slice s8.num.A s8.num.k s8.num.c, .bool s8.den.neg, .slice s8.den.A s8.den.k s8.den.c, .int .i64 1] : Array Value).toList := rfl
theorem aw_117 : tokens parseR (⟨#[97, 49]⟩ : ByteArray).data.toList = (0, 0, [⟨2, [97], 0, 1⟩, ⟨3, [], Rat.divInt (1) 1, 1⟩, ⟨1, [], 0, 1⟩]) := by decide +kernel
theorem aw_117_f (s0 s1 s2 : RV) : flatC (cellsT [(⟨2, [97], 0, 1⟩, s0), (⟨3, [], Rat.divInt (1) 1, 1⟩, s1), (⟨1, [], 0, 1⟩, s2)]) = (#[.int .u8 2, .string ⟨#[97]⟩, .bool s0.num.neg, .slice s0.num.A s0.num.k s0.num.c, .bool s0.den.neg, .slice s0.den.A s0.den.k s0.den.c, .int .i64 1, .int .u8 3, .string ⟨#[]⟩, .bool s1.num.neg, .slice s1.num.A s1.num.k s1.num.c, .bool s1.den.neg, .slice s1.den.A s1.den.k s1.den.c, .int .i64 1, .int .u8 1, .string ⟨#[]⟩, .bool s2.num.neg, .slice s2.num.A s2.num.k s2.num.c, .bool s2.den.neg, .slice s2.den.A s2.den.k s2.den.c, .int .i64 1] : Array Value).toList := rfl
theorem aw_118 : tokens parseR (⟨#[13, 9, 32, 10]⟩ : ByteArray).data.toList = (0, 0, [⟨1, [], 0, 2⟩]) := by decide +kernel
theorem aw_118_f (s0 : RV) : flatC (cellsT [(⟨1, [], 0, 2⟩, s0)]) = (#[.int .u8 1, .string ⟨#[]⟩, .bool s0.num.neg, .slice s0.num.A s0.num.k s0.num.c, .bool s0.den.neg, .slice s0.den.A s0.den.k s0.den.c, .int .i64 2] : Array Value).toList := rfl

set_option maxRecDepth 1000000 in
set_option maxHeartbeats 16000000 in
theorem tokensNumbers_any (w : World) (hT : Tz w) : Calls Tryd.prog 4 #[] w fun e w' => e = .returned (.bool true) ∧ Below w.heap.size w w' := by
  have HT := Lib.hid hT
  clear hT
  have HI0 := Lib.hid (show MInv w (w.alloc (.cells (strsT noT) 9)) w.heap.size from ⟨Blk.new _ _ _, Below.of_alloc _ _⟩)
  have h1 := size_strT
  go_enter Tryd.func4, Tryd.ntmps4
  go_wp2_with fail
  have hsl : Sl (some ⟨w.heap.size, 0, none⟩) 16 := Sl.some_ _ _ _
  go_loopw [9] (fun i wr => ∃ k : Nat, k ≤ 16 ∧ i = .int .i64 k ∧ Hid (MInv w wr w.heap.size)) (fun i _ => 16 - (intOf i).toNat)
  case atStart => exact ⟨0, by omega, rfl, HI0⟩
  case round =>
    clear HI0
    obtain ⟨k, hk, rfl, HI⟩ := hrel
    by_cases hlt : k < 16
    · have hcell : wr.cell? (adr (some ⟨w.heap.size, 0, none⟩) k) = some (.string (noT[k]'hlt)) := by rw [adr_some, Nat.zero_add, HI.out.blk.cell k, strsT_get noT k hlt]
      have hm := noT_at (List.getElem_mem (l := noT) hlt)
      have hp : (preT ++ noT[k]'hlt).size ≤ 9223372036854775807 := by rw [ByteArray.size_append]; have := hm.1; have : preT.size = 9 := by decide +kernel
                                                                      omega
      have H1 := Lib.hid (fun W hW => twrong_any W (noT[k]'hlt) 20 1 (by have := hm.1; omega) hW hm.2.1 (by decide) 20 1 rfl rfl)
      have H2 := Lib.hid (fun W hW => twrong_any W (preT ++ noT[k]'hlt) 20 4 hp hW hm.2.2 (by decide) 20 4 rfl rfl)
      rw [show preT = ⟨#[10, 10, 35, 32, 97, 10, 32, 120, 58]⟩ from rfl] at H2
      have hs7 := hm.1
      clear hm hp
      generalize noT[k]'hlt = s at *
      go_wp2_with fail
      refine (H1.out _ (tz_after HT.out HI.out.below)).mono ?_
      rintro e w1 ⟨rfl, hb1⟩
      have HI1 := Lib.hid (show MInv w w1 w.heap.size from ⟨HI.out.blk.below hb1 HI.out.blk.lt, Below.after HI.out.below hb1⟩)
      clear hb1 HI hcell H1
      go_wp2_with fail
      refine (H2.out _ (tz_after HT.out HI1.out.below)).mono ?_
      rintro e w2 ⟨rfl, hb2⟩
      have HI2 := Lib.hid (show MInv w w2 w.heap.size from ⟨HI1.out.blk.below hb2 HI1.out.blk.lt, Below.after HI1.out.below hb2⟩)
      clear hb2 HI1 H2
      go_wp2_with fail
      go_roundw
      case rel => exact ⟨k + 1, by omega, by go_num, HI2⟩
      case measure => simp [intOf]; omega
    · have Hbel := Lib.hid HI.out.below
      have hkk : k = 16 := by omega
      subst hkk
      clear HI h1 hsl
      go_wp2_with fail
      refine (p_sevens _).mono ?_
      rintro e u1 ⟨S, hS, rfl, hb⟩
      replace Hbel := Lib.hid (Below.after Hbel.out hb)
      have HA := Lib.hid (fun W hW => twrong_any W (⟨#[10]⟩ ++ S) 3 2 (by rw [ByteArray.size_append, hS.size]; decide +kernel) hW hS.a (by decide) 3 2 rfl rfl)
      have HB := Lib.hid (fun W hW => twrong_any W (⟨#[10, 49, 47]⟩ ++ S) 3 2 (by rw [ByteArray.size_append, hS.size]; decide +kernel) hW hS.b (by decide) 3 2 rfl rfl)
      have hsz := hS.size
      clear hb hS
      go_wp2_with fail
      refine (HA.out _ (tz_after HT.out Hbel.out)).mono ?_
      rintro e u2 ⟨rfl, hb⟩
      replace Hbel := Lib.hid (Below.after Hbel.out hb)
      clear hb
      clear HA
      go_wp2_with fail
      refine (HB.out _ (tz_after HT.out Hbel.out)).mono ?_
      rintro e u3 ⟨rfl, hb⟩
      replace Hbel := Lib.hid (Below.after Hbel.out hb)
      clear hb
      clear HB
      go_wp2_with fail
      refine (tis_no _ (tz_after HT.out Hbel.out)).mono ?_
      rintro e u4 ⟨rfl, hb⟩
      replace Hbel := Lib.hid (Below.after Hbel.out hb)
      clear hb
      go_wp2_with fail
      refine (tend_e 1 1 rfl _).mono ?_
      rintro e w101 ⟨r101, rfl, hr, hb⟩
      have Hr101 := Lib.hid hr
      replace Hbel := Lib.hid (Below.after Hbel.out hb)
      clear hr hb
      go_wp2_with fail
      have HP : Hid (TokR (w101.alloc (.cells #[.int .u8 1, .string ⟨#[]⟩, .bool r101.num.neg, .slice r101.num.A r101.num.k r101.num.c, .bool r101.den.neg, .slice r101.den.A r101.den.k r101.den.c, .int .i64 1] 37)) (some ⟨w101.heap.size, 0, none⟩) [(⟨1, [], 0, 1⟩, r101)]) := Lib.hid ⟨El.of_blk (Blk.new w101 37 #[.int .u8 1, .string ⟨#[]⟩, .bool r101.num.neg, .slice r101.num.A r101.num.k r101.num.c, .bool r101.den.neg, .slice r101.den.A r101.den.k r101.den.c, .int .i64 1]) (cellsT_size _) (aw_101_f r101).symm, by
        intro p hp
        simp only [List.mem_cons, List.not_mem_nil, or_false] at hp
        rcases hp with rfl
        · exact (Hr101.out.alloc (.cells #[.int .u8 1, .string ⟨#[]⟩, .bool r101.num.neg, .slice r101.num.A r101.num.k r101.num.c, .bool r101.den.neg, .slice r101.den.A r101.den.k r101.den.c, .int .i64 1] 37)).now⟩
      replace Hbel := Lib.hid (Hbel.out.alloc Hbel.out.size (.cells #[.int .u8 1, .string ⟨#[]⟩, .bool r101.num.neg, .slice r101.num.A r101.num.k r101.num.c, .bool r101.den.neg, .slice r101.den.A r101.den.k r101.den.c, .int .i64 1] 37))
      clear Hr101
      refine (tis_any _ ⟨#[]⟩ _ _ _ [(⟨1, [], 0, 1⟩, r101)] (by decide +kernel) (tz_after HT.out Hbel.out) HP.out rfl aw_101).mono ?_
      rintro e v101 ⟨rfl, hb⟩
      replace Hbel := Lib.hid (Below.after Hbel.out hb)
      clear hb HP
      go_wp2_with fail
      refine (tend_e 1 1 rfl _).mono ?_
      rintro e w102 ⟨r102, rfl, hr, hb⟩
      have Hr102 := Lib.hid hr
      replace Hbel := Lib.hid (Below.after Hbel.out hb)
      clear hr hb
      go_wp2_with fail
      have HP : Hid (TokR (w102.alloc (.cells #[.int .u8 1, .string ⟨#[]⟩, .bool r102.num.neg, .slice r102.num.A r102.num.k r102.num.c, .bool r102.den.neg, .slice r102.den.A r102.den.k r102.den.c, .int .i64 1] 37)) (some ⟨w102.heap.size, 0, none⟩) [(⟨1, [], 0, 1⟩, r102)]) := Lib.hid ⟨El.of_blk (Blk.new w102 37 #[.int .u8 1, .string ⟨#[]⟩, .bool r102.num.neg, .slice r102.num.A r102.num.k r102.num.c, .bool r102.den.neg, .slice r102.den.A r102.den.k r102.den.c, .int .i64 1]) (cellsT_size _) (aw_102_f r102).symm, by
        intro p hp
        simp only [List.mem_cons, List.not_mem_nil, or_false] at hp
        rcases hp with rfl
        · exact (Hr102.out.alloc (.cells #[.int .u8 1, .string ⟨#[]⟩, .bool r102.num.neg, .slice r102.num.A r102.num.k r102.num.c, .bool r102.den.neg, .slice r102.den.A r102.den.k r102.den.c, .int .i64 1] 37)).now⟩
      replace Hbel := Lib.hid (Hbel.out.alloc Hbel.out.size (.cells #[.int .u8 1, .string ⟨#[]⟩, .bool r102.num.neg, .slice r102.num.A r102.num.k r102.num.c, .bool r102.den.neg, .slice r102.den.A r102.den.k r102.den.c, .int .i64 1] 37))
      clear Hr102
      refine (tis_any _ ⟨#[35]⟩ _ _ _ [(⟨1, [], 0, 1⟩, r102)] (by decide +kernel) (tz_after HT.out Hbel.out) HP.out rfl aw_102).mono ?_
      rintro e v102 ⟨rfl, hb⟩
      replace Hbel := Lib.hid (Below.after Hbel.out hb)
      clear hb HP
      go_wp2_with fail
      refine (tword_e ⟨#[97]⟩ 1 1 rfl _).mono ?_
      rintro e w103 ⟨r103, rfl, hr, hb⟩
      have Hr103 := Lib.hid hr
      replace Hbel := Lib.hid (Below.after Hbel.out hb)
      clear hr hb
      go_wp2_with fail
      refine (tword_e ⟨#[99]⟩ 2 2 rfl _).mono ?_
      rintro e w104 ⟨r104, rfl, hr, hb⟩
      replace Hr103 := Lib.hid (Hr103.out.below hb)
      have Hr104 := Lib.hid hr
      replace Hbel := Lib.hid (Below.after Hbel.out hb)
      clear hr hb
      go_wp2_with fail
      refine (tend_e 2 2 rfl _).mono ?_
      rintro e w105 ⟨r105, rfl, hr, hb⟩
      replace Hr103 := Lib.hid (Hr103.out.below hb)
      replace Hr104 := Lib.hid (Hr104.out.below hb)
      have Hr105 := Lib.hid hr
      replace Hbel := Lib.hid (Below.after Hbel.out hb)
      clear hr hb
      go_wp2_with fail
      have HP : Hid (TokR (w105.alloc (.cells #[.int .u8 2, .string ⟨#[97]⟩, .bool r103.num.neg, .slice r103.num.A r103.num.k r103.num.c, .bool r103.den.neg, .slice r103.den.A r103.den.k r103.den.c, .int .i64 1, .int .u8 2, .string ⟨#[99]⟩, .bool r104.num.neg, .slice r104.num.A r104.num.k r104.num.c, .bool r104.den.neg, .slice r104.den.A r104.den.k r104.den.c, .int .i64 2, .int .u8 1, .string ⟨#[]⟩, .bool r105.num.neg, .slice r105.num.A r105.num.k r105.num.c, .bool r105.den.neg, .slice r105.den.A r105.den.k r105.den.c, .int .i64 2] 37)) (some ⟨w105.heap.size, 0, none⟩) [(⟨2, [97], 0, 1⟩, r103), (⟨2, [99], 0, 2⟩, r104), (⟨1, [], 0, 2⟩, r105)]) := Lib.hid ⟨El.of_blk (Blk.new w105 37 #[.int .u8 2, .string ⟨#[97]⟩, .bool r103.num.neg, .slice r103.num.A r103.num.k r103.num.c, .bool r103.den.neg, .slice r103.den.A r103.den.k r103.den.c, .int .i64 1, .int .u8 2, .string ⟨#[99]⟩, .bool r104.num.neg, .slice r104.num.A r104.num.k r104.num.c, .bool r104.den.neg, .slice r104.den.A r104.den.k r104.den.c, .int .i64 2, .int .u8 1, .string ⟨#[]⟩, .bool r105.num.neg, .slice r105.num.A r105.num.k r105.num.c, .bool r105.den.neg, .slice r105.den.A r105.den.k r105.den.c, .int .i64 2]) (cellsT_size _) (aw_105_f r103 r104 r105).symm, by
        intro p hp
        simp only [List.mem_cons, List.not_mem_nil, or_false] at hp
        rcases hp with rfl | rfl | rfl
        · exact (Hr103.out.alloc (.cells #[.int .u8 2, .string ⟨#[97]⟩, .bool r103.num.neg, .slice r103.num.A r103.num.k r103.num.c, .bool r103.den.neg, .slice r103.den.A r103.den.k r103.den.c, .int .i64 1, .int .u8 2, .string ⟨#[99]⟩, .bool r104.num.neg, .slice r104.num.A r104.num.k r104.num.c, .bool r104.den.neg, .slice r104.den.A r104.den.k r104.den.c, .int .i64 2, .int .u8 1, .string ⟨#[]⟩, .bool r105.num.neg, .slice r105.num.A r105.num.k r105.num.c, .bool r105.den.neg, .slice r105.den.A r105.den.k r105.den.c, .int .i64 2] 37)).now
        · exact (Hr104.out.alloc (.cells #[.int .u8 2, .string ⟨#[97]⟩, .bool r103.num.neg, .slice r103.num.A r103.num.k r103.num.c, .bool r103.den.neg, .slice r103.den.A r103.den.k r103.den.c, .int .i64 1, .int .u8 2, .string ⟨#[99]⟩, .bool r104.num.neg, .slice r104.num.A r104.num.k r104.num.c, .bool r104.den.neg, .slice r104.den.A r104.den.k r104.den.c, .int .i64 2, .int .u8 1, .string ⟨#[]⟩, .bool r105.num.neg, .slice r105.num.A r105.num.k r105.num.c, .bool r105.den.neg, .slice r105.den.A r105.den.k r105.den.c, .int .i64 2] 37)).now
        · exact (Hr105.out.alloc (.cells #[.int .u8 2, .string ⟨#[97]⟩, .bool r103.num.neg, .slice r103.num.A r103.num.k r103.num.c, .bool r103.den.neg, .slice r103.den.A r103.den.k r103.den.c, .int .i64 1, .int .u8 2, .string ⟨#[99]⟩, .bool r104.num.neg, .slice r104.num.A r104.num.k r104.num.c, .bool r104.den.neg, .slice r104.den.A r104.den.k r104.den.c, .int .i64 2, .int .u8 1, .string ⟨#[]⟩, .bool r105.num.neg, .slice r105.num.A r105.num.k r105.num.c, .bool r105.den.neg, .slice r105.den.A r105.den.k r105.den.c, .int .i64 2] 37)).now⟩
      replace Hbel := Lib.hid (Hbel.out.alloc Hbel.out.size (.cells #[.int .u8 2, .string ⟨#[97]⟩, .bool r103.num.neg, .slice r103.num.A r103.num.k r103.num.c, .bool r103.den.neg, .slice r103.den.A r103.den.k r103.den.c, .int .i64 1, .int .u8 2, .string ⟨#[99]⟩, .bool r104.num.neg, .slice r104.num.A r104.num.k r104.num.c, .bool r104.den.neg, .slice r104.den.A r104.den.k r104.den.c, .int .i64 2, .int .u8 1, .string ⟨#[]⟩, .bool r105.num.neg, .slice r105.num.A r105.num.k r105.num.c, .bool r105.den.neg, .slice r105.den.A r105.den.k r105.den.c, .int .i64 2] 37))
      clear Hr103 Hr104 Hr105
      refine (tis_any _ ⟨#[97, 35, 98, 10, 99]⟩ _ _ _ [(⟨2, [97], 0, 1⟩, r103), (⟨2, [99], 0, 2⟩, r104), (⟨1, [], 0, 2⟩, r105)] (by decide +kernel) (tz_after HT.out Hbel.out) HP.out rfl aw_105).mono ?_
      rintro e v105 ⟨rfl, hb⟩
      replace Hbel := Lib.hid (Below.after Hbel.out hb)
      clear hb HP
      go_wp2_with fail
      refine (tword_e ⟨#[97, 98]⟩ 1 1 rfl _).mono ?_
      rintro e w106 ⟨r106, rfl, hr, hb⟩
      have Hr106 := Lib.hid hr
      replace Hbel := Lib.hid (Below.after Hbel.out hb)
      clear hr hb
      go_wp2_with fail
      refine (tsign_e ⟨#[91]⟩ 1 1 rfl _).mono ?_
      rintro e w107 ⟨r107, rfl, hr, hb⟩
      replace Hr106 := Lib.hid (Hr106.out.below hb)
      have Hr107 := Lib.hid hr
      replace Hbel := Lib.hid (Below.after Hbel.out hb)
      clear hr hb
      go_wp2_with fail
      refine (tnum_e (1) 1 1 1 rfl _ (by decide) (by decide) (by decide) (by decide) (tz_after HT.out Hbel.out)).mono ?_
      rintro e w108 ⟨r108, rfl, hr, hb⟩
      replace Hr106 := Lib.hid (Hr106.out.below hb)
      replace Hr107 := Lib.hid (Hr107.out.below hb)
      have Hr108 := Lib.hid hr
      replace Hbel := Lib.hid (Below.after Hbel.out hb)
      clear hr hb
      go_wp2_with fail
      refine (tsign_e ⟨#[44]⟩ 1 1 rfl _).mono ?_
      rintro e w109 ⟨r109, rfl, hr, hb⟩
      replace Hr106 := Lib.hid (Hr106.out.below hb)
      replace Hr107 := Lib.hid (Hr107.out.below hb)
      replace Hr108 := Lib.hid (Hr108.out.below hb)
      have Hr109 := Lib.hid hr
      replace Hbel := Lib.hid (Below.after Hbel.out hb)
      clear hr hb
      go_wp2_with fail
      refine (tnum_e (2) 1 1 1 rfl _ (by decide) (by decide) (by decide) (by decide) (tz_after HT.out Hbel.out)).mono ?_
      rintro e w110 ⟨r110, rfl, hr, hb⟩
      replace Hr106 := Lib.hid (Hr106.out.below hb)
      replace Hr107 := Lib.hid (Hr107.out.below hb)
      replace Hr108 := Lib.hid (Hr108.out.below hb)
      replace Hr109 := Lib.hid (Hr109.out.below hb)
      have Hr110 := Lib.hid hr
      replace Hbel := Lib.hid (Below.after Hbel.out hb)
      clear hr hb
      go_wp2_with fail
      refine (tsign_e ⟨#[93]⟩ 1 1 rfl _).mono ?_
      rintro e w111 ⟨r111, rfl, hr, hb⟩
      replace Hr106 := Lib.hid (Hr106.out.below hb)
      replace Hr107 := Lib.hid (Hr107.out.below hb)
      replace Hr108 := Lib.hid (Hr108.out.below hb)
      replace Hr109 := Lib.hid (Hr109.out.below hb)
      replace Hr110 := Lib.hid (Hr110.out.below hb)
      have Hr111 := Lib.hid hr
      replace Hbel := Lib.hid (Below.after Hbel.out hb)
      clear hr hb
      go_wp2_with fail
      refine (tsign_e ⟨#[58]⟩ 1 1 rfl _).mono ?_
      rintro e w112 ⟨r112, rfl, hr, hb⟩
      replace Hr106 := Lib.hid (Hr106.out.below hb)
      replace Hr107 := Lib.hid (Hr107.out.below hb)
      replace Hr108 := Lib.hid (Hr108.out.below hb)
      replace Hr109 := Lib.hid (Hr109.out.below hb)
      replace Hr110 := Lib.hid (Hr110.out.below hb)
      replace Hr111 := Lib.hid (Hr111.out.below hb)
      have Hr112 := Lib.hid hr
      replace Hbel := Lib.hid (Below.after Hbel.out hb)
      clear hr hb
      go_wp2_with fail
      refine (tword_e ⟨#[120]⟩ 1 1 rfl _).mono ?_
      rintro e w113 ⟨r113, rfl, hr, hb⟩
      replace Hr106 := Lib.hid (Hr106.out.below hb)
      replace Hr107 := Lib.hid (Hr107.out.below hb)
      replace Hr108 := Lib.hid (Hr108.out.below hb)
      replace Hr109 := Lib.hid (Hr109.out.below hb)
      replace Hr110 := Lib.hid (Hr110.out.below hb)
      replace Hr111 := Lib.hid (Hr111.out.below hb)
      replace Hr112 := Lib.hid (Hr112.out.below hb)
      have Hr113 := Lib.hid hr
      replace Hbel := Lib.hid (Below.after Hbel.out hb)
      clear hr hb
      go_wp2_with fail
      refine (tend_e 1 1 rfl _).mono ?_
      rintro e w114 ⟨r114, rfl, hr, hb⟩
      replace Hr106 := Lib.hid (Hr106.out.below hb)
      replace Hr107 := Lib.hid (Hr107.out.below hb)
      replace Hr108 := Lib.hid (Hr108.out.below hb)
      replace Hr109 := Lib.hid (Hr109.out.below hb)
      replace Hr110 := Lib.hid (Hr110.out.below hb)
      replace Hr111 := Lib.hid (Hr111.out.below hb)
      replace Hr112 := Lib.hid (Hr112.out.below hb)
      replace Hr113 := Lib.hid (Hr113.out.below hb)
      have Hr114 := Lib.hid hr
      replace Hbel := Lib.hid (Below.after Hbel.out hb)
      clear hr hb
      go_wp2_with fail
      have HP : Hid (TokR (w114.alloc (.cells #[.int .u8 2, .string ⟨#[97, 98]⟩, .bool r106.num.neg, .slice r106.num.A r106.num.k r106.num.c, .bool r106.den.neg, .slice r106.den.A r106.den.k r106.den.c, .int .i64 1, .int .u8 4, .string ⟨#[91]⟩, .bool r107.num.neg, .slice r107.num.A r107.num.k r107.num.c, .bool r107.den.neg, .slice r107.den.A r107.den.k r107.den.c, .int .i64 1, .int .u8 3, .string ⟨#[]⟩, .bool r108.num.neg, .slice r108.num.A r108.num.k r108.num.c, .bool r108.den.neg, .slice r108.den.A r108.den.k r108.den.c, .int .i64 1, .int .u8 4, .string ⟨#[44]⟩, .bool r109.num.neg, .slice r109.num.A r109.num.k r109.num.c, .bool r109.den.neg, .slice r109.den.A r109.den.k r109.den.c, .int .i64 1, .int .u8 3, .string ⟨#[]⟩, .bool r110.num.neg, .slice r110.num.A r110.num.k r110.num.c, .bool r110.den.neg, .slice r110.den.A r110.den.k r110.den.c, .int .i64 1, .int .u8 4, .string ⟨#[93]⟩, .bool r111.num.neg, .slice r111.num.A r111.num.k r111.num.c, .bool r111.den.neg, .slice r111.den.A r111.den.k r111.den.c, .int .i64 1, .int .u8 4, .string ⟨#[58]⟩, .bool r112.num.neg, .slice r112.num.A r112.num.k r112.num.c, .bool r112.den.neg, .slice r112.den.A r112.den.k r112.den.c, .int .i64 1, .int .u8 2, .string ⟨#[120]⟩, .bool r113.num.neg, .slice r113.num.A r113.num.k r113.num.c, .bool r113.den.neg, .slice r113.den.A r113.den.k r113.den.c, .int .i64 1, .int .u8 1, .string ⟨#[]⟩, .bool r114.num.neg, .slice r114.num.A r114.num.k r114.num.c, .bool r114.den.neg, .slice r114.den.A r114.den.k r114.den.c, .int .i64 1] 37)) (some ⟨w114.heap.size, 0, none⟩) [(⟨2, [97, 98], 0, 1⟩, r106), (⟨4, [91], 0, 1⟩, r107), (⟨3, [], Rat.divInt (1) 1, 1⟩, r108), (⟨4, [44], 0, 1⟩, r109), (⟨3, [], Rat.divInt (2) 1, 1⟩, r110), (⟨4, [93], 0, 1⟩, r111), (⟨4, [58], 0, 1⟩, r112), (⟨2, [120], 0, 1⟩, r113), (⟨1, [], 0, 1⟩, r114)]) := Lib.hid ⟨El.of_blk (Blk.new w114 37 #[.int .u8 2, .string ⟨#[97, 98]⟩, .bool r106.num.neg, .slice r106.num.A r106.num.k r106.num.c, .bool r106.den.neg, .slice r106.den.A r106.den.k r106.den.c, .int .i64 1, .int .u8 4, .string ⟨#[91]⟩, .bool r107.num.neg, .slice r107.num.A r107.num.k r107.num.c, .bool r107.den.neg, .slice r107.den.A r107.den.k r107.den.c, .int .i64 1, .int .u8 3, .string ⟨#[]⟩, .bool r108.num.neg, .slice r108.num.A r108.num.k r108.num.c, .bool r108.den.neg, .slice r108.den.A r108.den.k r108.den.c, .int .i64 1, .int .u8 4, .string ⟨#[44]⟩, .bool r109.num.neg, .slice r109.num.A r109.num.k r109.num.c, .bool r109.den.neg, .slice r109.den.A r109.den.k r109.den.c, .int .i64 1, .int .u8 3, .string ⟨#[]⟩, .bool r110.num.neg, .slice r110.num.A r110.num.k r110.num.c, .bool r110.den.neg, .slice r110.den.A r110.den.k r110.den.c, .int .i64 1, .int .u8 4, .string ⟨#[93]⟩, .bool r111.num.neg, .slice r111.num.A r111.num.k r111.num.c, .bool r111.den.neg, .slice r111.den.A r111.den.k r111.den.c, .int .i64 1, .int .u8 4, .string ⟨#[58]⟩, .bool r112.num.neg, .slice r112.num.A r112.num.k r112.num.c, .bool r112.den.neg, .slice r112.den.A r112.den.k r112.den.c, .int .i64 1, .int .u8 2, .string ⟨#[120]⟩, .bool r113.num.neg, .slice r113.num.A r113.num.k r113.num.c, .bool r113.den.neg, .slice r113.den.A r113.den.k r113.den.c, .int .i64 1, .int .u8 1, .string ⟨#[]⟩, .bool r114.num.neg, .slice r114.num.A r114.num.k r114.num.c, .bool r114.den.neg, .slice r114.den.A r114.den.k r114.den.c, .int .i64 1]) (cellsT_size _) (aw_114_f r106 r107 r108 r109 r110 r111 r112 r113 r114).symm, by
        intro p hp
        simp only [List.mem_cons, List.not_mem_nil, or_false] at hp
        rcases hp with rfl | rfl | rfl | rfl | rfl | rfl | rfl | rfl | rfl
        · exact (Hr106.out.alloc (.cells #[.int .u8 2, .string ⟨#[97, 98]⟩, .bool r106.num.neg, .slice r106.num.A r106.num.k r106.num.c, .bool r106.den.neg, .slice r106.den.A r106.den.k r106.den.c, .int .i64 1, .int .u8 4, .string ⟨#[91]⟩, .bool r107.num.neg, .slice r107.num.A r107.num.k r107.num.c, .bool r107.den.neg, .slice r107.den.A r107.den.k r107.den.c, .int .i64 1, .int .u8 3, .string ⟨#[]⟩, .bool r108.num.neg, .slice r108.num.A r108.num.k r108.num.c, .bool r108.den.neg, .slice r108.den.A r108.den.k r108.den.c, .int .i64 1, .int .u8 4, .string ⟨#[44]⟩, .bool r109.num.neg, .slice r109.num.A r109.num.k r109.num.c, .bool r109.den.neg, .slice r109.den.A r109.den.k r109.den.c, .int .i64 1, .int .u8 3, .string ⟨#[]⟩, .bool r110.num.neg, .slice r110.num.A r110.num.k r110.num.c, .bool r110.den.neg, .slice r110.den.A r110.den.k r110.den.c, .int .i64 1, .int .u8 4, .string ⟨#[93]⟩, .bool r111.num.neg, .slice r111.num.A r111.num.k r111.num.c, .bool r111.den.neg, .slice r111.den.A r111.den.k r111.den.c, .int .i64 1, .int .u8 4, .string ⟨#[58]⟩, .bool r112.num.neg, .slice r112.num.A r112.num.k r112.num.c, .bool r112.den.neg, .slice r112.den.A r112.den.k r112.den.c, .int .i64 1, .int .u8 2, .string ⟨#[120]⟩, .bool r113.num.neg, .slice r113.num.A r113.num.k r113.num.c, .bool r113.den.neg, .slice r113.den.A r113.den.k r113.den.c, .int .i64 1, .int .u8 1, .string ⟨#[]⟩, .bool r114.num.neg, .slice r114.num.A r114.num.k r114.num.c, .bool r114.den.neg, .slice r114.den.A r114.den.k r114.den.c, .int .i64 1] 37)).now
        · exact (Hr107.out.alloc (.cells #[.int .u8 2, .string ⟨#[97, 98]⟩, .bool r106.num.neg, .slice r106.num.A r106.num.k r106.num.c, .bool r106.den.neg, .slice r106.den.A r106.den.k r106.den.c, .int .i64 1, .int .u8 4, .string ⟨#[91]⟩, .bool r107.num.neg, .slice r107.num.A r107.num.k r107.num.c, .bool r107.den.neg, .slice r107.den.A r107.den.k r107.den.c, .int .i64 1, .int .u8 3, .string ⟨#[]⟩, .bool r108.num.neg, .slice r108.num.A r108.num.k r108.num.c, .bool r108.den.neg, .slice r108.den.A r108.den.k r108.den.c, .int .i64 1, .int .u8 4, .string ⟨#[44]⟩, .bool r109.num.neg, .slice r109.num.A r109.num.k r109.num.c, .bool r109.den.neg, .slice r109.den.A r109.den.k r109.den.c, .int .i64 1, .int .u8 3, .string ⟨#[]⟩, .bool r110.num.neg, .slice r110.num.A r110.num.k r110.num.c, .bool r110.den.neg, .slice r110.den.A r110.den.k r110.den.c, .int .i64 1, .int .u8 4, .string ⟨#[93]⟩, .bool r111.num.neg, .slice r111.num.A r111.num.k r111.num.c, .bool r111.den.neg, .slice r111.den.A r111.den.k r111.den.c, .int .i64 1, .int .u8 4, .string ⟨#[58]⟩, .bool r112.num.neg, .slice r112.num.A r112.num.k r112.num.c, .bool r112.den.neg, .slice r112.den.A r112.den.k r112.den.c, .int .i64 1, .int .u8 2, .string ⟨#[120]⟩, .bool r113.num.neg, .slice r113.num.A r113.num.k r113.num.c, .bool r113.den.neg, .slice r113.den.A r113.den.k r113.den.c, .int .i64 1, .int .u8 1, .string ⟨#[]⟩, .bool r114.num.neg, .slice r114.num.A r114.num.k r114.num.c, .bool r114.den.neg, .slice r114.den.A r114.den.k r114.den.c, .int .i64 1] 37)).now
        · exact (Hr108.out.alloc (.cells #[.int .u8 2, .string ⟨#[97, 98]⟩, .bool r106.num.neg, .slice r106.num.A r106.num.k r106.num.c, .bool r106.den.neg, .slice r106.den.A r106.den.k r106.den.c, .int .i64 1, .int .u8 4, .string ⟨#[91]⟩, .bool r107.num.neg, .slice r107.num.A r107.num.k r107.num.c, .bool r107.den.neg, .slice r107.den.A r107.den.k r107.den.c, .int .i64 1, .int .u8 3, .string ⟨#[]⟩, .bool r108.num.neg, .slice r108.num.A r108.num.k r108.num.c, .bool r108.den.neg, .slice r108.den.A r108.den.k r108.den.c, .int .i64 1, .int .u8 4, .string ⟨#[44]⟩, .bool r109.num.neg, .slice r109.num.A r109.num.k r109.num.c, .bool r109.den.neg, .slice r109.den.A r109.den.k r109.den.c, .int .i64 1, .int .u8 3, .string ⟨#[]⟩, .bool r110.num.neg, .slice r110.num.A r110.num.k r110.num.c, .bool r110.den.neg, .slice r110.den.A r110.den.k r110.den.c, .int .i64 1, .int .u8 4, .string ⟨#[93]⟩, .bool r111.num.neg, .slice r111.num.A r111.num.k r111.num.c, .bool r111.den.neg, .slice r111.den.A r111.den.k r111.den.c, .int .i64 1, .int .u8 4, .string ⟨#[58]⟩, .bool r112.num.neg, .slice r112.num.A r112.num.k r112.num.c, .bool r112.den.neg, .slice r112.den.A r112.den.k r112.den.c, .int .i64 1, .int .u8 2, .string ⟨#[120]⟩, .bool r113.num.neg, .slice r113.num.A r113.num.k r113.num.c, .bool r113.den.neg, .slice r113.den.A r113.den.k r113.den.c, .int .i64 1, .int .u8 1, .string ⟨#[]⟩, .bool r114.num.neg, .slice r114.num.A r114.num.k r114.num.c, .bool r114.den.neg, .slice r114.den.A r114.den.k r114.den.c, .int .i64 1] 37)).now
        · exact (Hr109.out.alloc (.cells #[.int .u8 2, .string ⟨#[97, 98]⟩, .bool r106.num.neg, .slice r106.num.A r106.num.k r106.num.c, .bool r106.den.neg, .slice r106.den.A r106.den.k r106.den.c, .int .i64 1, .int .u8 4, .string ⟨#[91]⟩, .bool r107.num.neg, .slice r107.num.A r107.num.k r107.num.c, .bool r107.den.neg, .slice r107.den.A r107.den.k r107.den.c, .int .i64 1, .int .u8 3, .string ⟨#[]⟩, .bool r108.num.neg, .slice r108.num.A r108.num.k r108.num.c, .bool r108.den.neg, .slice r108.den.A r108.den.k r108.den.c, .int .i64 1, .int .u8 4, .string ⟨#[44]⟩, .bool r109.num.neg, .slice r109.num.A r109.num.k r109.num.c, .bool r109.den.neg, .slice r109.den.A r109.den.k r109.den.c, .int .i64 1, .int .u8 3, .string ⟨#[]⟩, .bool r110.num.neg, .slice r110.num.A r110.num.k r110.num.c, .bool r110.den.neg, .slice r110.den.A r110.den.k r110.den.c, .int .i64 1, .int .u8 4, .string ⟨#[93]⟩, .bool r111.num.neg, .slice r111.num.A r111.num.k r111.num.c, .bool r111.den.neg, .slice r111.den.A r111.den.k r111.den.c, .int .i64 1, .int .u8 4, .string ⟨#[58]⟩, .bool r112.num.neg, .slice r112.num.A r112.num.k r112.num.c, .bool r112.den.neg, .slice r112.den.A r112.den.k r112.den.c, .int .i64 1, .int .u8 2, .string ⟨#[120]⟩, .bool r113.num.neg, .slice r113.num.A r113.num.k r113.num.c, .bool r113.den.neg, .slice r113.den.A r113.den.k r113.den.c, .int .i64 1, .int .u8 1, .string ⟨#[]⟩, .bool r114.num.neg, .slice r114.num.A r114.num.k r114.num.c, .bool r114.den.neg, .slice r114.den.A r114.den.k r114.den.c, .int .i64 1] 37)).now
        · exact (Hr110.out.alloc (.cells #[.int .u8 2, .string ⟨#[97, 98]⟩, .bool r106.num.neg, .slice r106.num.A r106.num.k r106.num.c, .bool r106.den.neg, .slice r106.den.A r106.den.k r106.den.c, .int .i64 1, .int .u8 4, .string ⟨#[91]⟩, .bool r107.num.neg, .slice r107.num.A r107.num.k r107.num.c, .bool r107.den.neg, .slice r107.den.A r107.den.k r107.den.c, .int .i64 1, .int .u8 3, .string ⟨#[]⟩, .bool r108.num.neg, .slice r108.num.A r108.num.k r108.num.c, .bool r108.den.neg, .slice r108.den.A r108.den.k r108.den.c, .int .i64 1, .int .u8 4, .string ⟨#[44]⟩, .bool r109.num.neg, .slice r109.num.A r109.num.k r109.num.c, .bool r109.den.neg, .slice r109.den.A r109.den.k r109.den.c, .int .i64 1, .int .u8 3, .string ⟨#[]⟩, .bool r110.num.neg, .slice r110.num.A r110.num.k r110.num.c, .bool r110.den.neg, .slice r110.den.A r110.den.k r110.den.c, .int .i64 1, .int .u8 4, .string ⟨#[93]⟩, .bool r111.num.neg, .slice r111.num.A r111.num.k r111.num.c, .bool r111.den.neg, .slice r111.den.A r111.den.k r111.den.c, .int .i64 1, .int .u8 4, .string ⟨#[58]⟩, .bool r112.num.neg, .slice r112.num.A r112.num.k r112.num.c, .bool r112.den.neg, .slice r112.den.A r112.den.k r112.den.c, .int .i64 1, .int .u8 2, .string ⟨#[120]⟩, .bool r113.num.neg, .slice r113.num.A r113.num.k r113.num.c, .bool r113.den.neg, .slice r113.den.A r113.den.k r113.den.c, .int .i64 1, .int .u8 1, .string ⟨#[]⟩, .bool r114.num.neg, .slice r114.num.A r114.num.k r114.num.c, .bool r114.den.neg, .slice r114.den.A r114.den.k r114.den.c, .int .i64 1] 37)).now
        · exact (Hr111.out.alloc (.cells #[.int .u8 2, .string ⟨#[97, 98]⟩, .bool r106.num.neg, .slice r106.num.A r106.num.k r106.num.c, .bool r106.den.neg, .slice r106.den.A r106.den.k r106.den.c, .int .i64 1, .int .u8 4, .string ⟨#[91]⟩, .bool r107.num.neg, .slice r107.num.A r107.num.k r107.num.c, .bool r107.den.neg, .slice r107.den.A r107.den.k r107.den.c, .int .i64 1, .int .u8 3, .string ⟨#[]⟩, .bool r108.num.neg, .slice r108.num.A r108.num.k r108.num.c, .bool r108.den.neg, .slice r108.den.A r108.den.k r108.den.c, .int .i64 1, .int .u8 4, .string ⟨#[44]⟩, .bool r109.num.neg, .slice r109.num.A r109.num.k r109.num.c, .bool r109.den.neg, .slice r109.den.A r109.den.k r109.den.c, .int .i64 1, .int .u8 3, .string ⟨#[]⟩, .bool r110.num.neg, .slice r110.num.A r110.num.k r110.num.c, .bool r110.den.neg, .slice r110.den.A r110.den.k r110.den.c, .int .i64 1, .int .u8 4, .string ⟨#[93]⟩, .bool r111.num.neg, .slice r111.num.A r111.num.k r111.num.c, .bool r111.den.neg, .slice r111.den.A r111.den.k r111.den.c, .int .i64 1, .int .u8 4, .string ⟨#[58]⟩, .bool r112.num.neg, .slice r112.num.A r112.num.k r112.num.c, .bool r112.den.neg, .slice r112.den.A r112.den.k r112.den.c, .int .i64 1, .int .u8 2, .string ⟨#[120]⟩, .bool r113.num.neg, .slice r113.num.A r113.num.k r113.num.c, .bool r113.den.neg, .slice r113.den.A r113.den.k r113.den.c, .int .i64 1, .int .u8 1, .string ⟨#[]⟩, .bool r114.num.neg, .slice r114.num.A r114.num.k r114.num.c, .bool r114.den.neg, .slice r114.den.A r114.den.k r114.den.c, .int .i64 1] 37)).now
        · exact (Hr112.out.alloc (.cells #[.int .u8 2, .string ⟨#[97, 98]⟩, .bool r106.num.neg, .slice r106.num.A r106.num.k r106.num.c, .bool r106.den.neg, .slice r106.den.A r106.den.k r106.den.c, .int .i64 1, .int .u8 4, .string ⟨#[91]⟩, .bool r107.num.neg, .slice r107.num.A r107.num.k r107.num.c, .bool r107.den.neg, .slice r107.den.A r107.den.k r107.den.c, .int .i64 1, .int .u8 3, .string ⟨#[]⟩, .bool r108.num.neg, .slice r108.num.A r108.num.k r108.num.c, .bool r108.den.neg, .slice r108.den.A r108.den.k r108.den.c, .int .i64 1, .int .u8 4, .string ⟨#[44]⟩, .bool r109.num.neg, .slice r109.num.A r109.num.k r109.num.c, .bool r109.den.neg, .slice r109.den.A r109.den.k r109.den.c, .int .i64 1, .int .u8 3, .string ⟨#[]⟩, .bool r110.num.neg, .slice r110.num.A r110.num.k r110.num.c, .bool r110.den.neg, .slice r110.den.A r110.den.k r110.den.c, .int .i64 1, .int .u8 4, .string ⟨#[93]⟩, .bool r111.num.neg, .slice r111.num.A r111.num.k r111.num.c, .bool r111.den.neg, .slice r111.den.A r111.den.k r111.den.c, .int .i64 1, .int .u8 4, .string ⟨#[58]⟩, .bool r112.num.neg, .slice r112.num.A r112.num.k r112.num.c, .bool r112.den.neg, .slice r112.den.A r112.den.k r112.den.c, .int .i64 1, .int .u8 2, .string ⟨#[120]⟩, .bool r113.num.neg, .slice r113.num.A r113.num.k r113.num.c, .bool r113.den.neg, .slice r113.den.A r113.den.k r113.den.c, .int .i64 1, .int .u8 1, .string ⟨#[]⟩, .bool r114.num.neg, .slice r114.num.A r114.num.k r114.num.c, .bool r114.den.neg, .slice r114.den.A r114.den.k r114.den.c, .int .i64 1] 37)).now
        · exact (Hr113.out.alloc (.cells #[.int .u8 2, .string ⟨#[97, 98]⟩, .bool r106.num.neg, .slice r106.num.A r106.num.k r106.num.c, .bool r106.den.neg, .slice r106.den.A r106.den.k r106.den.c, .int .i64 1, .int .u8 4, .string ⟨#[91]⟩, .bool r107.num.neg, .slice r107.num.A r107.num.k r107.num.c, .bool r107.den.neg, .slice r107.den.A r107.den.k r107.den.c, .int .i64 1, .int .u8 3, .string ⟨#[]⟩, .bool r108.num.neg, .slice r108.num.A r108.num.k r108.num.c, .bool r108.den.neg, .slice r108.den.A r108.den.k r108.den.c, .int .i64 1, .int .u8 4, .string ⟨#[44]⟩, .bool r109.num.neg, .slice r109.num.A r109.num.k r109.num.c, .bool r109.den.neg, .slice r109.den.A r109.den.k r109.den.c, .int .i64 1, .int .u8 3, .string ⟨#[]⟩, .bool r110.num.neg, .slice r110.num.A r110.num.k r110.num.c, .bool r110.den.neg, .slice r110.den.A r110.den.k r110.den.c, .int .i64 1, .int .u8 4, .string ⟨#[93]⟩, .bool r111.num.neg, .slice r111.num.A r111.num.k r111.num.c, .bool r111.den.neg, .slice r111.den.A r111.den.k r111.den.c, .int .i64 1, .int .u8 4, .string ⟨#[58]⟩, .bool r112.num.neg, .slice r112.num.A r112.num.k r112.num.c, .bool r112.den.neg, .slice r112.den.A r112.den.k r112.den.c, .int .i64 1, .int .u8 2, .string ⟨#[120]⟩, .bool r113.num.neg, .slice r113.num.A r113.num.k r113.num.c, .bool r113.den.neg, .slice r113.den.A r113.den.k r113.den.c, .int .i64 1, .int .u8 1, .string ⟨#[]⟩, .bool r114.num.neg, .slice r114.num.A r114.num.k r114.num.c, .bool r114.den.neg, .slice r114.den.A r114.den.k r114.den.c, .int .i64 1] 37)).now
        · exact (Hr114.out.alloc (.cells #[.int .u8 2, .string ⟨#[97, 98]⟩, .bool r106.num.neg, .slice r106.num.A r106.num.k r106.num.c, .bool r106.den.neg, .slice r106.den.A r106.den.k r106.den.c, .int .i64 1, .int .u8 4, .string ⟨#[91]⟩, .bool r107.num.neg, .slice r107.num.A r107.num.k r107.num.c, .bool r107.den.neg, .slice r107.den.A r107.den.k r107.den.c, .int .i64 1, .int .u8 3, .string ⟨#[]⟩, .bool r108.num.neg, .slice r108.num.A r108.num.k r108.num.c, .bool r108.den.neg, .slice r108.den.A r108.den.k r108.den.c, .int .i64 1, .int .u8 4, .string ⟨#[44]⟩, .bool r109.num.neg, .slice r109.num.A r109.num.k r109.num.c, .bool r109.den.neg, .slice r109.den.A r109.den.k r109.den.c, .int .i64 1, .int .u8 3, .string ⟨#[]⟩, .bool r110.num.neg, .slice r110.num.A r110.num.k r110.num.c, .bool r110.den.neg, .slice r110.den.A r110.den.k r110.den.c, .int .i64 1, .int .u8 4, .string ⟨#[93]⟩, .bool r111.num.neg, .slice r111.num.A r111.num.k r111.num.c, .bool r111.den.neg, .slice r111.den.A r111.den.k r111.den.c, .int .i64 1, .int .u8 4, .string ⟨#[58]⟩, .bool r112.num.neg, .slice r112.num.A r112.num.k r112.num.c, .bool r112.den.neg, .slice r112.den.A r112.den.k r112.den.c, .int .i64 1, .int .u8 2, .string ⟨#[120]⟩, .bool r113.num.neg, .slice r113.num.A r113.num.k r113.num.c, .bool r113.den.neg, .slice r113.den.A r113.den.k r113.den.c, .int .i64 1, .int .u8 1, .string ⟨#[]⟩, .bool r114.num.neg, .slice r114.num.A r114.num.k r114.num.c, .bool r114.den.neg, .slice r114.den.A r114.den.k r114.den.c, .int .i64 1] 37)).now⟩
      replace Hbel := Lib.hid (Hbel.out.alloc Hbel.out.size (.cells #[.int .u8 2, .string ⟨#[97, 98]⟩, .bool r106.num.neg, .slice r106.num.A r106.num.k r106.num.c, .bool r106.den.neg, .slice r106.den.A r106.den.k r106.den.c, .int .i64 1, .int .u8 4, .string ⟨#[91]⟩, .bool r107.num.neg, .slice r107.num.A r107.num.k r107.num.c, .bool r107.den.neg, .slice r107.den.A r107.den.k r107.den.c, .int .i64 1, .int .u8 3, .string ⟨#[]⟩, .bool r108.num.neg, .slice r108.num.A r108.num.k r108.num.c, .bool r108.den.neg, .slice r108.den.A r108.den.k r108.den.c, .int .i64 1, .int .u8 4, .string ⟨#[44]⟩, .bool r109.num.neg, .slice r109.num.A r109.num.k r109.num.c, .bool r109.den.neg, .slice r109.den.A r109.den.k r109.den.c, .int .i64 1, .int .u8 3, .string ⟨#[]⟩, .bool r110.num.neg, .slice r110.num.A r110.num.k r110.num.c, .bool r110.den.neg, .slice r110.den.A r110.den.k r110.den.c, .int .i64 1, .int .u8 4, .string ⟨#[93]⟩, .bool r111.num.neg, .slice r111.num.A r111.num.k r111.num.c, .bool r111.den.neg, .slice r111.den.A r111.den.k r111.den.c, .int .i64 1, .int .u8 4, .string ⟨#[58]⟩, .bool r112.num.neg, .slice r112.num.A r112.num.k r112.num.c, .bool r112.den.neg, .slice r112.den.A r112.den.k r112.den.c, .int .i64 1, .int .u8 2, .string ⟨#[120]⟩, .bool r113.num.neg, .slice r113.num.A r113.num.k r113.num.c, .bool r113.den.neg, .slice r113.den.A r113.den.k r113.den.c, .int .i64 1, .int .u8 1, .string ⟨#[]⟩, .bool r114.num.neg, .slice r114.num.A r114.num.k r114.num.c, .bool r114.den.neg, .slice r114.den.A r114.den.k r114.den.c, .int .i64 1] 37))
      clear Hr106 Hr107 Hr108 Hr109 Hr110 Hr111 Hr112 Hr113 Hr114
      refine (tis_any _ ⟨#[97, 98, 91, 49, 44, 50, 93, 58, 120]⟩ _ _ _ [(⟨2, [97, 98], 0, 1⟩, r106), (⟨4, [91], 0, 1⟩, r107), (⟨3, [], Rat.divInt (1) 1, 1⟩, r108), (⟨4, [44], 0, 1⟩, r109), (⟨3, [], Rat.divInt (2) 1, 1⟩, r110), (⟨4, [93], 0, 1⟩, r111), (⟨4, [58], 0, 1⟩, r112), (⟨2, [120], 0, 1⟩, r113), (⟨1, [], 0, 1⟩, r114)] (by decide +kernel) (tz_after HT.out Hbel.out) HP.out rfl aw_114).mono ?_
      rintro e v114 ⟨rfl, hb⟩
      replace Hbel := Lib.hid (Below.after Hbel.out hb)
      clear hb HP
      go_wp2_with fail
      refine (tword_e ⟨#[97]⟩ 1 1 rfl _).mono ?_
      rintro e w115 ⟨r115, rfl, hr, hb⟩
      have Hr115 := Lib.hid hr
      replace Hbel := Lib.hid (Below.after Hbel.out hb)
      clear hr hb
      go_wp2_with fail
      refine (tnum_e (1) 1 1 1 rfl _ (by decide) (by decide) (by decide) (by decide) (tz_after HT.out Hbel.out)).mono ?_
      rintro e w116 ⟨r116, rfl, hr, hb⟩
      replace Hr115 := Lib.hid (Hr115.out.below hb)
      have Hr116 := Lib.hid hr
      replace Hbel := Lib.hid (Below.after Hbel.out hb)
      clear hr hb
      go_wp2_with fail
      refine (tend_e 1 1 rfl _).mono ?_
      rintro e w117 ⟨r117, rfl, hr, hb⟩
      replace Hr115 := Lib.hid (Hr115.out.below hb)
      replace Hr116 := Lib.hid (Hr116.out.below hb)
      have Hr117 := Lib.hid hr
      replace Hbel := Lib.hid (Below.after Hbel.out hb)
      clear hr hb
      go_wp2_with fail
      have HP : Hid (TokR (w117.alloc (.cells #[.int .u8 2, .string ⟨#[97]⟩, .bool r115.num.neg, .slice r115.num.A r115.num.k r115.num.c, .bool r115.den.neg, .slice r115.den.A r115.den.k r115.den.c, .int .i64 1, .int .u8 3, .string ⟨#[]⟩, .bool r116.num.neg, .slice r116.num.A r116.num.k r116.num.c, .bool r116.den.neg, .slice r116.den.A r116.den.k r116.den.c, .int .i64 1, .int .u8 1, .string ⟨#[]⟩, .bool r117.num.neg, .slice r117.num.A r117.num.k r117.num.c, .bool r117.den.neg, .slice r117.den.A r117.den.k r117.den.c, .int .i64 1] 37)) (some ⟨w117.heap.size, 0, none⟩) [(⟨2, [97], 0, 1⟩, r115), (⟨3, [], Rat.divInt (1) 1, 1⟩, r116), (⟨1, [], 0, 1⟩, r117)]) := Lib.hid ⟨El.of_blk (Blk.new w117 37 #[.int .u8 2, .string ⟨#[97]⟩, .bool r115.num.neg, .slice r115.num.A r115.num.k r115.num.c, .bool r115.den.neg, .slice r115.den.A r115.den.k r115.den.c, .int .i64 1, .int .u8 3, .string ⟨#[]⟩, .bool r116.num.neg, .slice r116.num.A r116.num.k r116.num.c, .bool r116.den.neg, .slice r116.den.A r116.den.k r116.den.c, .int .i64 1, .int .u8 1, .string ⟨#[]⟩, .bool r117.num.neg, .slice r117.num.A r117.num.k r117.num.c, .bool r117.den.neg, .slice r117.den.A r117.den.k r117.den.c, .int .i64 1]) (cellsT_size _) (aw_117_f r115 r116 r117).symm, by
        intro p hp
        simp only [List.mem_cons, List.not_mem_nil, or_false] at hp
        rcases hp with rfl | rfl | rfl
        · exact (Hr115.out.alloc (.cells #[.int .u8 2, .string ⟨#[97]⟩, .bool r115.num.neg, .slice r115.num.A r115.num.k r115.num.c, .bool r115.den.neg, .slice r115.den.A r115.den.k r115.den.c, .int .i64 1, .int .u8 3, .string ⟨#[]⟩, .bool r116.num.neg, .slice r116.num.A r116.num.k r116.num.c, .bool r116.den.neg, .slice r116.den.A r116.den.k r116.den.c, .int .i64 1, .int .u8 1, .string ⟨#[]⟩, .bool r117.num.neg, .slice r117.num.A r117.num.k r117.num.c, .bool r117.den.neg, .slice r117.den.A r117.den.k r117.den.c, .int .i64 1] 37)).now
        · exact (Hr116.out.alloc (.cells #[.int .u8 2, .string ⟨#[97]⟩, .bool r115.num.neg, .slice r115.num.A r115.num.k r115.num.c, .bool r115.den.neg, .slice r115.den.A r115.den.k r115.den.c, .int .i64 1, .int .u8 3, .string ⟨#[]⟩, .bool r116.num.neg, .slice r116.num.A r116.num.k r116.num.c, .bool r116.den.neg, .slice r116.den.A r116.den.k r116.den.c, .int .i64 1, .int .u8 1, .string ⟨#[]⟩, .bool r117.num.neg, .slice r117.num.A r117.num.k r117.num.c, .bool r117.den.neg, .slice r117.den.A r117.den.k r117.den.c, .int .i64 1] 37)).now
        · exact (Hr117.out.alloc (.cells #[.int .u8 2, .string ⟨#[97]⟩, .bool r115.num.neg, .slice r115.num.A r115.num.k r115.num.c, .bool r115.den.neg, .slice r115.den.A r115.den.k r115.den.c, .int .i64 1, .int .u8 3, .string ⟨#[]⟩, .bool r116.num.neg, .slice r116.num.A r116.num.k r116.num.c, .bool r116.den.neg, .slice r116.den.A r116.den.k r116.den.c, .int .i64 1, .int .u8 1, .string ⟨#[]⟩, .bool r117.num.neg, .slice r117.num.A r117.num.k r117.num.c, .bool r117.den.neg, .slice r117.den.A r117.den.k r117.den.c, .int .i64 1] 37)).now⟩
      replace Hbel := Lib.hid (Hbel.out.alloc Hbel.out.size (.cells #[.int .u8 2, .string ⟨#[97]⟩, .bool r115.num.neg, .slice r115.num.A r115.num.k r115.num.c, .bool r115.den.neg, .slice r115.den.A r115.den.k r115.den.c, .int .i64 1, .int .u8 3, .string ⟨#[]⟩, .bool r116.num.neg, .slice r116.num.A r116.num.k r116.num.c, .bool r116.den.neg, .slice r116.den.A r116.den.k r116.den.c, .int .i64 1, .int .u8 1, .string ⟨#[]⟩, .bool r117.num.neg, .slice r117.num.A r117.num.k r117.num.c, .bool r117.den.neg, .slice r117.den.A r117.den.k r117.den.c, .int .i64 1] 37))
      clear Hr115 Hr116 Hr117
      refine (tis_any _ ⟨#[97, 49]⟩ _ _ _ [(⟨2, [97], 0, 1⟩, r115), (⟨3, [], Rat.divInt (1) 1, 1⟩, r116), (⟨1, [], 0, 1⟩, r117)] (by decide +kernel) (tz_after HT.out Hbel.out) HP.out rfl aw_117).mono ?_
      rintro e v117 ⟨rfl, hb⟩
      replace Hbel := Lib.hid (Below.after Hbel.out hb)
      clear hb HP
      go_wp2_with fail
      refine (tend_e 2 2 rfl _).mono ?_
      rintro e w118 ⟨r118, rfl, hr, hb⟩
      have Hr118 := Lib.hid hr
      replace Hbel := Lib.hid (Below.after Hbel.out hb)
      clear hr hb
      go_wp2_with fail
      have HP : Hid (TokR (w118.alloc (.cells #[.int .u8 1, .string ⟨#[]⟩, .bool r118.num.neg, .slice r118.num.A r118.num.k r118.num.c, .bool r118.den.neg, .slice r118.den.A r118.den.k r118.den.c, .int .i64 2] 37)) (some ⟨w118.heap.size, 0, none⟩) [(⟨1, [], 0, 2⟩, r118)]) := Lib.hid ⟨El.of_blk (Blk.new w118 37 #[.int .u8 1, .string ⟨#[]⟩, .bool r118.num.neg, .slice r118.num.A r118.num.k r118.num.c, .bool r118.den.neg, .slice r118.den.A r118.den.k r118.den.c, .int .i64 2]) (cellsT_size _) (aw_118_f r118).symm, by
        intro p hp
        simp only [List.mem_cons, List.not_mem_nil, or_false] at hp
        rcases hp with rfl
        · exact (Hr118.out.alloc (.cells #[.int .u8 1, .string ⟨#[]⟩, .bool r118.num.neg, .slice r118.num.A r118.num.k r118.num.c, .bool r118.den.neg, .slice r118.den.A r118.den.k r118.den.c, .int .i64 2] 37)).now⟩
      replace Hbel := Lib.hid (Hbel.out.alloc Hbel.out.size (.cells #[.int .u8 1, .string ⟨#[]⟩, .bool r118.num.neg, .slice r118.num.A r118.num.k r118.num.c, .bool r118.den.neg, .slice r118.den.A r118.den.k r118.den.c, .int .i64 2] 37))
      clear Hr118
      refine (tis_any _ ⟨#[13, 9, 32, 10]⟩ _ _ _ [(⟨1, [], 0, 2⟩, r118)] (by decide +kernel) (tz_after HT.out Hbel.out) HP.out rfl aw_118).mono ?_
      rintro e v118 ⟨rfl, hb⟩
      replace Hbel := Lib.hid (Below.after Hbel.out hb)
      clear hb HP
      go_wp2_with fail
      refine (p_blanks 262144 262144 rfl (by decide +kernel) _).mono ?_
      rintro e u5 ⟨S2, hS, rfl, hb⟩
      replace Hbel := Lib.hid (Below.after Hbel.out hb)
      have HC := Lib.hid (fun W hW => tokens_ok S2 W _ (by rw [hS.2]; decide +kernel) hW (tokens_blanks hS.1 (Nat.le_refl _)))
      clear hb hS
      go_wp2_with fail
      refine (HC.out _ (tz_after HT.out Hbel.out)).mono ?_
      rintro e u6 ⟨A6, c6, ps6, rfl, -, -, -, hb⟩
      replace Hbel := Lib.hid (Below.after Hbel.out hb)
      have HX := Lib.hid (Blk.new u6 26 #[.int .i64 0, .int .i64 0])
      replace Hbel := Lib.hid (Hbel.out.alloc Hbel.out.size (.cells #[.int .i64 0, .int .i64 0] 26))
      obtain ⟨x0, x1⟩ := Blk.c2 HX.out
      clear hb HC
      go_wp2_with fail
      refine (p_blanks 262145 262145 rfl (by decide +kernel) _).mono ?_
      rintro e u7 ⟨S3, hS, rfl, hb⟩
      replace Hbel := Lib.hid (Below.after Hbel.out hb)
      have HD := Lib.hid (fun W hW => twrong_any W S3 3 0 (by rw [hS.2]; decide +kernel) hW (tokens_over (by rw [hS.1, List.length_replicate]; decide +kernel)) (by decide) 3 0 rfl rfl)
      clear hb hS HX x0 x1
      go_wp2_with fail
      refine (HD.out _ (tz_after HT.out Hbel.out)).mono ?_
      rintro e u8 ⟨rfl, hb⟩
      replace Hbel := Lib.hid (Below.after Hbel.out hb)
      clear hb
      clear HD
      go_wp2_with fail
      refine (awake_tok _ (tz_after HT.out Hbel.out)).mono ?_
      rintro e u9 ⟨rfl, hb⟩
      replace Hbel := Lib.hid (Below.after Hbel.out hb)
      clear hb
      go_wp2_with fail
      go_ret
      exact ⟨rfl, Hbel.out⟩
end Go.Proofs.YtgghdedabpohbaaDoor
namespace Go.Proofs.YtgghdedabpohbaaDoor.tokensNumbers
open Go.ChangeShapes Go.WideShapes Go.ChangeAt Go.RowKit Go.ChangeMaps

set_option maxRecDepth 100000 in
theorem contract (H : Type) (enc : TypeId × Value → H) (W : World) (base : Nat) (args : Array Value) (ds gs : List (DataW H)) (before : List MemPlace)
    (_hval : ∀ (j : Nat) t v, Tryd.f4.params[j]? = some t → args[j]? = some v → Value.okWide Tryd.prog W .any base t v)
    (hW : DataW.Whole enc Tryd.prog Tryd.f4.params.toList Rows.tokensNumbersSpec.vars false W args.toList ds gs before) (hL : laidMetH Tryd.prog Rows.tokensNumbersRow.laid W) :
    Calls Tryd.prog 4 args W fun e W' => ∃ v, e = .returned v ∧ Rows.tokensNumbersSpec.post enc Tryd.prog Tryd.f4 false true false false W args v W' := by
  have hW' := hW
  obtain ⟨p, q, hA, hV, rfl, hfz, hnd⟩ := hW
  obtain ⟨rfl, rfl⟩ := trodVars_none hV
  rw [Tryd.params4] at hA
  obtain ⟨hargs, rfl, rfl⟩ := trodAll_nil hA
  obtain rfl : args = #[] := by cases args; simp_all
  refine (tokensNumbers_any W  (tz_of hL)).mono fun e W' ⟨he, hb⟩ => ?_
  subst he
  exact ⟨_, rfl, post_kept hW' rfl rfl rfl hb (by rw [Tryd.params4]; exact trodAll_mk0)⟩

theorem laid_met (os : Os) : laidMet Tryd.prog Rows.tokensNumbersRow.laid ((laidWorld os).forCall (fun _ _ => 0) ⟨#[], #[], []⟩).memory :=
  laidMet_of_run' 8 (by kernel_rfl) (by kernel_rfl)
theorem reads (os : Os) {H : Type} (enc : TypeId × Value → H) : ∃ places, DataW.whole enc Tryd.prog ((laidWorld os).forCall (fun _ _ => 0) ⟨#[], #[], []⟩).memory Tryd.f4.params.toList Rows.tokensNumbersSpec.vars false (#[] : Array Value).toList 8 = some ([], [], places) :=
  ⟨[], by kernel_rfl⟩

set_option maxRecDepth 100000 in
theorem lifted (os : Os) (started : os.Started) (H : Type) (enc : TypeId × Value → H) (F : Stop.Interp) :
    ReturnsInHanded {} Tryd.checked os 4 .any ((OpenSpec.ofChange Rows.tokensNumbersSpec).preRow enc Tryd.prog Tryd.f4 Rows.tokensNumbersRow.domain false Rows.tokensNumbersRow.laid) (((OpenSpec.ofChange Rows.tokensNumbersSpec).at F).post enc Tryd.prog Tryd.f4 false true false false) := by
  obtain ⟨places, hx⟩ := reads os enc
  refine returnsInHanded_of_row (C := Tryd.checked) (s := OpenSpec.ofChange Rows.tokensNumbersSpec) own started (by kernel_rfl) Tryd.func4
    (witness_row_at (enc := enc) (C := Tryd.checked) false (laidWorld os) #[] rfl (by kernel_rfl) (by kernel_rfl) (by kernel_rfl)
      (OpenSpec.preRow_of_cond 8 hx (by kernel_rfl) (fun k hk => by cases hk) (by kernel_rfl) (laid_met os))) ?_
  intro W base args ds gs before hval hW _ _ _ hL _ _
  exact contract H enc W base args ds gs before hval hW hL

theorem said : Rows.TokensNumbersSaid :=
  OpenClaim.holds_of_cond 4 Tryd.f4 rfl rfl rfl rfl rfl rfl rfl ⟨rfl, rfl, rfl, rfl, rfl⟩ rfl rfl rfl rfl rfl (by kernel_rfl) Tryd.func4 (by kernel_rfl)
    (of_decide_eq_true (by kernel_rfl)) (by unfold Func.isWrapper; first | (rw [if_pos (by decide +kernel)]; kernel_rfl) | (rw [if_neg (by decide +kernel)]; exact ⟨rfl, rfl⟩))
    (fun os started H enc _ F => by rw [OpenClaim.pre_eq_preRow]; exact lifted os started H enc F)

theorem plain (f : FuncId) (fn : Func) (hf : Tryd.pinned.checked.prog.funcNamed "tripwire/tripwirelaw09.TokensNumbers" = some f) (hfn : Tryd.pinned.checked.prog.funcs[f]? = some fn) :
    false = Tryd.pinned.checked.prog.looks [] ∧ ∀ (j : Nat) t, fn.params[j]? = some t → Tryd.pinned.checked.prog.wantsStandIn t = false := by
  obtain rfl : f = 4 := Option.some.inj ((show Tryd.prog.funcNamed "tripwire/tripwirelaw09.TokensNumbers" = some 4 by kernel_rfl).symm.trans hf) |>.symm
  obtain rfl : fn = Tryd.f4 := (Option.some.inj (Tryd.func4.symm.trans hfn)).symm
  refine ⟨by kernel_rfl, fun j t ht => ?_⟩
  rw [Tryd.params4] at ht
  simp at ht

theorem card : Rows.TokensNumbersCardSaid :=
  Claim7.holds_tied_plain_at .later [] _ _ _ _ said (fun _ h => by cases h) (by kernel_rfl) (fun _ h => by cases h) tokensNumbers_row_tie rfl ⟨rfl, rfl⟩ (by kernel_rfl) rfl plain (by kernel_rfl)
end Go.Proofs.YtgghdedabpohbaaDoor.tokensNumbers
#print axioms Go.Proofs.YtgghdedabpohbaaDoor.tokensNumbers.card
