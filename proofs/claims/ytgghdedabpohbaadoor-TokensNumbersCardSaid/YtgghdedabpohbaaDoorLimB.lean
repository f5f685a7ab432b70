/-
  limbs: Cmp, Add, Sub.
-/
import Derived.Test.YtgghdedabpohbaaDoorLimA
import Derived.StillTailTactics
import Derived.Shelf.Spec.BitsCarry
namespace Go.Proofs.YtgghdedabpohbaaDoor
open Go.RowKit

set_option maxHeartbeats 400000 in
theorem compare_int (a b : Nat) (w : World) : Calls Tryd.prog 94 #[.int .i64 a, .int .i64 b] w fun e w' => e = .returned (.int .i64 (cmpN a b)) ∧ w = w' := by
  unfold cmpN
  by_cases h1 : a < b
  · rw [if_pos h1]
    have h2 : ¬ b < a := by omega
    go_enter Tryd.func94, Tryd.ntmps94
    go_wp2
    go_ret
    exact ⟨rfl, rfl⟩
  · rw [if_neg h1]
    by_cases h2 : a = b
    · subst h2
      rw [if_pos rfl]
      go_enter Tryd.func94, Tryd.ntmps94
      go_wp2
      go_ret
      exact ⟨rfl, rfl⟩
    · rw [if_neg h2]
      have h3 : b < a := by omega
      go_enter Tryd.func94, Tryd.ntmps94
      go_wp2
      go_ret
      exact ⟨rfl, rfl⟩
set_option maxHeartbeats 400000 in
theorem compare_u64 (a b : Nat) (w : World) : Calls Tryd.prog 95 #[.int .u64 a, .int .u64 b] w fun e w' => e = .returned (.int .i64 (cmpN a b)) ∧ w = w' := by
  unfold cmpN
  by_cases h1 : a < b
  · rw [if_pos h1]
    have h2 : ¬ b < a := by omega
    go_enter Tryd.func95, Tryd.ntmps95
    go_wp2
    go_ret
    exact ⟨rfl, rfl⟩
  · rw [if_neg h1]
    by_cases h2 : a = b
    · subst h2
      rw [if_pos rfl]
      go_enter Tryd.func95, Tryd.ntmps95
      go_wp2
      go_ret
      exact ⟨rfl, rfl⟩
    · rw [if_neg h2]
      have h3 : b < a := by omega
      go_enter Tryd.func95, Tryd.ntmps95
      go_wp2
      go_ret
      exact ⟨rfl, rfl⟩

set_option maxHeartbeats 1000000 in
theorem cmp_any (w : World) (A B : Option Addr) (c d : Nat) (l m : List Nat) (hl : l.length ≤ 17592186044416) (hm : m.length ≤ 17592186044416) (ha : Rd w .u64 A l) (hb : Rd w .u64 B m)
    (hx : ∀ x ∈ l, x < B64) (hy : ∀ x ∈ m, x < B64) :
    Calls Tryd.prog 87 #[.slice A l.length c, .slice B m.length d] w fun e w' => e = .returned (.int .i64 (cmpN (val B64 l) (val B64 m))) ∧ ∃ n, w' = w.drewN n := by
  have hul := used_le l
  have hum := used_le m
  have Ha := Lib.hid ha; have Hb := Lib.hid hb; have Hx := Lib.hid hx; have Hy := Lib.hid hy
  have hsa := ha.sl; have hsb := hb.sl
  have h1 := size_u64
  clear ha hb hx hy
  go_enter Tryd.func87, Tryd.ntmps87
  go_wp2_with fail
  refine (used_any w A c l (by omega) Ha.out).mono ?_
  rintro e w' ⟨rfl, rfl⟩
  go_wp2_with fail
  refine (used_any w B d m (by omega) Hb.out).mono ?_
  rintro e w' ⟨rfl, rfl⟩
  by_cases hne : used l = used m
  · have hq : ((used l : Int) != (used m : Int)) = false := by simp [hne]
    have Hne := Lib.hid hne; clear hne
    have Hvl := Lib.hid (valT_used B64 l (used l) (Nat.le_refl _))
    have Hvm := Lib.hid (valT_used B64 m (used l) (by rw [Hne.out]; exact Nat.le_refl _))
    have hum' : used l ≤ m.length := by rw [Hne.out]; exact hum
    clear hum
    generalize used l = n at *
    generalize used m = n' at *
    go_wp2
    go_loopw [20] (fun i wr => ∃ k : Nat, k ≤ n ∧ i = .int .i64 k ∧ Hid (∀ j, n - k ≤ j → j < n → nth l j = nth m j) ∧ ∃ q, wr = w.drewN q) (fun i _ => n - (intOf i).toNat)
    case atStart => exact ⟨0, Nat.zero_le _, rfl, (show ∀ j, n - 0 ≤ j → j < n → nth l j = nth m j from fun j h1 h2 => by omega), 0, rfl⟩
    case round =>
      obtain ⟨k, hk, rfl, hs, q, rfl⟩ := hrel
      by_cases hlt : k < n
      · have hca := Ha.out.cell (n - 1 - k) (by omega)
        have hcb := Hb.out.cell (n - 1 - k) (by omega)
        have i1 : 0 ≤ (n : Int) - 1 - k := by omega
        have i2 : (n : Int) - 1 - k < l.length := by omega
        have i3 : (n : Int) - 1 - k < m.length := by omega
        have i4 : ((n : Int) - 1 - k).toNat = n - 1 - k := by omega
        by_cases hxy : nth l (n - 1 - k) = nth m (n - 1 - k)
        · have hs' : Hid (∀ j, n - (k + 1) ≤ j → j < n → nth l j = nth m j) := (show ∀ j, n - (k + 1) ≤ j → j < n → nth l j = nth m j from fun j h1 h2 => by
            by_cases e : j = n - 1 - k
            · rw [e]; exact hxy
            · exact hs.out j (by omega) h2)
          rw [← hxy] at hcb
          clear hxy hs
          generalize nth l (n - 1 - k) = x at *
          go_wp2
          go_quiet (fail)
          go_wp2
          go_roundw
          case rel => exact ⟨k + 1, by omega, by go_num, hs', _, rfl⟩
          case measure => simp [intOf]; omega
        · have Hr : Hid (cmpN (nth l (n - 1 - k)) (nth m (n - 1 - k)) = cmpN (val B64 l) (val B64 m)) := by
            rw [← Hvl.out, ← Hvm.out]
            exact cmp_at B64_pos Hx.out Hy.out n (n - 1 - k) (by omega) (fun j h1 h2 => hs.out j (by omega) h2) hxy
          have hq2 : ((nth l (n - 1 - k) : Int) != (nth m (n - 1 - k) : Int)) = true := by rw [bne_iff_ne]; exact fun h => hxy (Int.ofNat.inj h)
          clear hxy
          generalize nth l (n - 1 - k) = x at *
          generalize nth m (n - 1 - k) = y at *
          go_wp2
          go_quiet (fail)
          go_wp2
          go_quiet ((go_at_call 95; exact (compare_u64 _ _ _).mono fun e w' h => ⟨h.1, _, h.2.symm⟩))
          go_wp2
          go_ret
          exact ⟨ret_int (by rw [Hr.out]), quiet_trans (quiet_trans ⟨_, rfl⟩ ⟨_, rfl⟩) ⟨_, rfl⟩⟩
      · obtain rfl : k = n := by omega
        have Hr := Lib.hid (show cmpN (val B64 l) (val B64 m) = 0 by rw [← Hvl.out, ← Hvm.out, valT_congr B64 l m k (fun j hj => hs.out j (by omega) hj), cmpN_self])
        go_wp2
        go_ret
        exact ⟨ret_int Hr.out.symm, _, rfl⟩
  · have hq : ((used l : Int) != (used m : Int)) = true := by simp; omega
    have Hr := Lib.hid (cmp_length (b := B64) (by decide) Hx.out Hy.out hne)
    clear hne
    generalize used l = n at *
    generalize used m = n' at *
    go_wp2_with fail
    refine (compare_int _ _ _).mono ?_
    rintro e w' ⟨rfl, rfl⟩
    go_wp2
    go_ret
    exact ⟨ret_int Hr.out, 0, rfl⟩

theorem run_add64_at (x y c : Nat) (hc : c ≤ 1) (w : World) :
    (callFunc 79 #[.int .u64 x, .int .u64 y, .int .u64 c]).run Tryd.prog w =
      .ok (.value (.tuple #[.int .u64 (((x + y + c) % B64 : Nat) : Int), .int .u64 (((x + y + c) / B64 : Nat) : Int)])) w := by
  rw [run_callFunc_extern Tryd.func79 (by kernel_rfl) (by kernel_rfl) (by kernel_rfl) (e := add64Entry) (by kernel_rfl), run_add64 x y c (by omega) (by omega) (by omega) (by omega)]
  simp only [Result.andThen, B64]
  congr 5 <;> omega

theorem run_sub64_at (x y c : Nat) (hc : c ≤ 1) (w : World) :
    (callFunc 100 #[.int .u64 x, .int .u64 y, .int .u64 c]).run Tryd.prog w =
      .ok (.value (.tuple #[.int .u64 (((x + B64 - y - c) % B64 : Nat) : Int), .int .u64 ((if x < y + c then 1 else 0 : Nat) : Int)])) w := by
  rw [run_callFunc_extern Tryd.func100 (by kernel_rfl) (by kernel_rfl) (by kernel_rfl) (e := sub64Entry) (by kernel_rfl), run_sub64 x y c hc]
  rfl

/-- one place of a sum -/
theorem add_step {k a b s c x y : Nat} (h : s + B64 ^ k * c = a + b) : s + B64 ^ k * ((x + y + c) % B64) + B64 ^ (k + 1) * ((x + y + c) / B64) = (a + B64 ^ k * x) + (b + B64 ^ k * y) := by
  have e : B64 ^ k * ((x + y + c) % B64) + B64 ^ (k + 1) * ((x + y + c) / B64) = B64 ^ k * (x + y + c) := by
    rw [Nat.pow_succ, Nat.mul_assoc, ← Nat.mul_add]
    congr 1
    have := Nat.div_add_mod (x + y + c) B64
    omega
  rw [Nat.add_assoc, e, Nat.mul_add, Nat.mul_add]
  omega

/-- what holds in the middle of a sum: k places are done, cc is carried -/
structure AddInv (w wr : World) (A B : Option Addr) (c d n k cc : Nat) (l m s : List Nat) : Prop where
  len : s.length = n + 1
  lt : ∀ x ∈ s, x < B64
  blk : Blk wr (w.heap.size + 1 + 1) 78 (ints .u64 s)
  ca : wr.cell? ⟨w.heap.size, 0, none⟩ = some (.slice A l.length c)
  cb : wr.cell? ⟨w.heap.size + 1, 0, none⟩ = some (.slice B m.length d)
  below : Below w.heap.size w wr
  sum : valT B64 s k + B64 ^ k * cc = valT B64 l k + valT B64 m k

theorem AddInv.next {w wr : World} {A B : Option Addr} {c d n k cc : Nat} {l m s : List Nat} (h : AddInv w wr A B c d n k cc l m s) (hk : k < n) :
    AddInv w (wr.setCell ⟨w.heap.size + 1 + 1, k, none⟩ (.int .u64 (((nth l k + nth m k + cc) % B64 : Nat) : Int))) A B c d n (k + 1) ((nth l k + nth m k + cc) / B64) l m (s.set k ((nth l k + nth m k + cc) % B64)) := by
  have hz := h.below.size
  refine ⟨by simp [h.len], set_lt h.lt _ _ (Nat.mod_lt _ B64_pos), ?_, ?_, ?_, h.below.setCell (by show _ ≤ w.heap.size + 1 + 1; omega) _, ?_⟩
  · have := h.blk.set_ k (.int .u64 (((nth l k + nth m k + cc) % B64 : Nat) : Int))
    rw [ints_set] at this
    exact this
  · rw [World.cell?_setCell_other _ _ _ _ (by simp)]; exact h.ca
  · rw [World.cell?_setCell_other _ _ _ _ (by simp)]; exact h.cb
  · rw [valT, valT_set _ _ _ _ _ (Nat.le_refl _), getD_set_eq _ _ _ (by rw [h.len]; omega), valT, valT]
    exact add_step h.sum

theorem Below.of_alloc (w : World) (o : Obj) : Below w.heap.size w (w.alloc o) := (Below.refl _ _).alloc (Nat.le_refl _) _

set_option maxRecDepth 100000 in
set_option maxHeartbeats 1000000 in
theorem add_any (w : World) (A B : Option Addr) (c d : Nat) (l m : List Nat) (hl : l.length ≤ 17592186044000) (hm : m.length ≤ 17592186044000) (ha : Rd w .u64 A l) (hb : Rd w .u64 B m)
    (hx : ∀ x ∈ l, x < B64) (hy : ∀ x ∈ m, x < B64) :
    Calls Tryd.prog 66 #[.slice A l.length c, .slice B m.length d] w (RetL .u64 (digs B64 (val B64 l + val B64 m)) w) := by
  have hul := used_le l
  have hum := used_le m
  have Ha := Lib.hid ha; have Hb := Lib.hid hb; have Hx := Lib.hid hx; have Hy := Lib.hid hy
  clear ha hb hx hy
  go_enter Tryd.func66, Tryd.ntmps66
  go_wp2_with fail
  refine (used_any w A c l (by omega) Ha.out).mono ?_
  rintro e w' ⟨rfl, rfl⟩
  go_wp2_with fail
  refine (used_any w B d m (by omega) Hb.out).mono ?_
  rintro e w' ⟨rfl, rfl⟩
  obtain ⟨n, hn⟩ : ∃ n, n = max (used l) (used m) := ⟨_, rfl⟩
  have hmx : ∀ W, (Builtin.max_ #[3, 3] 3 #[.int .i64 (used l : Int), .int .i64 (used m : Int)]).run Tryd.prog W = .ok (.int .i64 (n : Int)) W := fun W => by
    rw [run_max_int2, hn]; congr 2; split <;> omega
  have h1 : used l ≤ n := by omega
  have h2 : used m ≤ n := by omega
  have h3 : n ≤ 17592186044000 := by omega
  have Hvl := Lib.hid (valT_used B64 l n h1)
  have Hvm := Lib.hid (valT_used B64 m n h2)
  clear hn
  go_wp2_with fail
  refine (reader_any w A c l).mono ?_
  rintro e w' ⟨rfl, rfl⟩
  go_wp2_with fail
  refine (reader_any _ B d m).mono ?_
  rintro e w' ⟨rfl, rfl⟩
  have hmk := fun W => run_make_row' (P := Tryd.prog) 31 78 (.int .u64 0) 8 Tryd.underlying31 info_u64 rfl .i64 .i64 (n + 1) (by omega) (by omega) W
  simp only [Int.natCast_add, Int.cast_ofNat_Int] at hmk
  clear hmx h1 h2 hul hum
  generalize used l = ul at *
  generalize used m = um at *
  go_wp2_with fail
  go_loopw [9, 24] (fun cv i wr => ∃ (k cc : Nat) (s : List Nat), k ≤ n ∧ cc ≤ 1 ∧ cv = .int .u64 cc ∧ i = .int .i64 k ∧ AddInv w wr A B c d n k cc l m s) (fun _ i _ => n - (intOf i).toNat)
  case atStart =>
    refine ⟨0, 0, List.replicate (n + 1) 0, Nat.zero_le _, Nat.zero_le _, rfl, rfl, by simp, ?_, ?_, ?_, ?_, ?_, ?_⟩
    · intro x hx; rw [(List.mem_replicate.1 hx).2]; exact B64_pos
    · rw [← ints_made]
      have := Blk.new ((w.alloc (.cells #[.slice A l.length c] 31)).alloc (.cells #[.slice B m.length d] 31)) 78 (madeCells #[.int .u64 0] (n + 1))
      simpa using this
    · have := (((Blk.new w 31 #[.slice A l.length c]).alloc (.cells #[.slice B m.length d] 31)).alloc (.cells (madeCells #[.int .u64 0] (n + 1)) 78)).cell 0
      simpa using this
    · have := ((Blk.new (w.alloc (.cells #[.slice A l.length c] 31)) 31 #[.slice B m.length d]).alloc (.cells (madeCells #[.int .u64 0] (n + 1)) 78)).cell 0
      simpa using this
    · exact (((Below.refl _ _).alloc (Nat.le_refl _) _).alloc (by simp) _).alloc (by simp; omega) _
    · rfl
  case round =>
    obtain ⟨k, cc, s, hk, hcc, rfl, rfl, hI⟩ := hrel
    by_cases hlt : k < n
    · have hcell := hI.blk.cell k
      rw [ints_get .u64 s k (by rw [hI.len]; omega)] at hcell
      have hfz := hI.blk.frozen k
      go_wp2_with fail
      refine (reader1_any wr A c _ l k (by omega) (by omega) hI.ca (Ha.out.below hI.below (Nat.le_refl _))).mono ?_
      rintro e w' ⟨rfl, rfl⟩
      rw [Int.toNat_natCast]
      go_wp2_with fail
      refine (reader1_any _ B d _ m k (by omega) (by omega) hI.cb (Hb.out.below hI.below (Nat.le_refl _))).mono ?_
      rintro e w' ⟨rfl, rfl⟩
      rw [Int.toNat_natCast]
      have hadd := run_add64_at (nth l k) (nth m k) cc hcc
      have hN := Lib.hid (hI.next hlt)
      have hq : (nth l k + nth m k + cc) / B64 ≤ 1 := by
        have e1 := getD_lt B64_pos Hx.out k
        have e2 := getD_lt B64_pos Hy.out k
        rw [Nat.div_le_iff_le_mul_add_pred B64_pos]
        omega
      clear hI
      generalize nth l k = x at *
      generalize nth m k = y at *
      generalize nth s k = z at *
      generalize (x + y + cc) / B64 = q at *
      generalize (x + y + cc) % B64 = r at *
      go_wp2
      go_roundw
      case rel => exact ⟨k + 1, q, s.set k r, by omega, hq, rfl, by go_num, hN.out⟩
      case measure => simp [intOf]; omega
    · obtain rfl : k = n := by omega
      have hcell := hI.blk.cell k
      rw [ints_get .u64 s k (by rw [hI.len]; omega)] at hcell
      have hfz := hI.blk.frozen k
      have hlen : (s.set k cc).length = k + 1 := by simp [hI.len]
      have hlt' : ∀ x ∈ s.set k cc, x < B64 := set_lt hI.lt _ _ (by simp only [B64]; omega)
      have hblk := hI.blk.set_ k (.int .u64 (cc : Int))
      rw [ints_set] at hblk
      have hval : val B64 (s.set k cc) = val B64 l + val B64 m := by
        rw [← valT_all, hlen, valT, valT_set _ _ _ _ _ (Nat.le_refl _), getD_set_eq _ _ _ (by rw [hI.len]; omega), hI.sum, Hvl.out, Hvm.out]
      have hbel : Below w.heap.size w (wr.setCell ⟨w.heap.size + 1 + 1, k, none⟩ (.int .u64 (cc : Int))) := hI.below.setCell (by show _ ≤ w.heap.size + 1 + 1; omega) _
      have Hfin : Hid (trim (s.set k cc) = digs B64 (val B64 l + val B64 m)) := by
        show _ = _
        rw [trim_eq (by decide) hlt', hval]
      have htd := tidy_any (wr.setCell ⟨w.heap.size + 1 + 1, k, none⟩ (.int .u64 (cc : Int))) (some ⟨w.heap.size + 1 + 1, 0, none⟩) (k + 1) (s.set k cc) (by omega) (by omega) (Rd.of_blk hblk)
      have hrt := (Rd.of_blk hblk).take (used (s.set k cc))
      rw [hlen] at htd
      have Htd := Lib.hid htd; have Hrt := Lib.hid hrt; have Hbel := Lib.hid hbel
      clear htd hrt hbel hval hblk hlen hlt' hI hmk
      generalize nth s k = z at *
      go_wp2_with fail
      refine Htd.out.mono ?_
      intro e w' hret
      obtain ⟨A', c', rfl, hc', hr', rfl⟩ := hret.rd Hrt.out
      have HR := Lib.hid hr'; have HC := Lib.hid hc'; clear hr' hc' hret Htd Hrt
      go_wp2
      go_ret
      rw [← Hfin.out]
      exact ⟨A', c', rfl, HC.out, HR.out.1, Hbel.out, HR.out.2 _ (Fr.of_blk (by omega) _)⟩
end Go.Proofs.YtgghdedabpohbaaDoor
