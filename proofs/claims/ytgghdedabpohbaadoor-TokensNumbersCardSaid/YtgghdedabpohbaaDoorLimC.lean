/-
  limbs: lessen, Sub.
-/
import Derived.Test.YtgghdedabpohbaaDoorLimB
namespace Go.Proofs.YtgghdedabpohbaaDoor
open Go.RowKit

/-- only block g may have turned, and there may be new blocks -/
theorem only_alloc {a w : World} {row : Option Nat} (h : a.grownBy w row) (o : Obj) : a.grownBy (w.alloc o) row :=
  ⟨h.os, h.tape, h.output, Nat.le_trans h.size (by simp), fun i hi hne => (Below.heap_alloc w o i (Nat.lt_of_lt_of_le hi h.size)).trans (h.block i hi hne)⟩
theorem only_drew {a w : World} {row : Option Nat} (h : a.grownBy w row) : a.grownBy w.drew row := ⟨h.os, h.tape, h.output, h.size, h.block⟩
theorem only_set {a w : World} {g : Nat} (h : a.grownBy w (some g)) (i : Nat) (u : Value) : a.grownBy (w.setCell ⟨g, i, none⟩ u) (some g) :=
  ⟨h.os, h.tape, h.output, by simpa [World.setCell] using h.size, fun j hj hne => (Below.heap_setCell w _ u j (by rintro rfl; exact hne rfl)).trans (h.block j hj hne)⟩
theorem Rd.only {w w' : World} {k : IntKind} {A : Option Addr} {l : List Nat} {g : Nat} (h : Rd w k A l) (ho : w.grownBy w' (some g)) (hne : ∀ i, i < l.length → (adr A i).block ≠ g) : Rd w' k A l :=
  ⟨h.sl, fun i hi => (World.cell?_of_block (ho.block _ (h.lt i hi) (fun e => hne i hi (by injection e)))).trans (h.cell i hi)⟩

/-- one place of a difference -/
theorem sub_step {x y c : Nat} (hx : x < B64) (hy : y < B64) (hc : c ≤ 1) : (x + B64 - y - c) % B64 + (y + c) = x + B64 * (if x < y + c then 1 else 0) := by
  split
  · rw [Nat.mod_eq_of_lt (by omega)]; omega
  · have e : x + B64 - y - c = (x - y - c) + B64 := by omega
    rw [e, Nat.add_mod_right, Nat.mod_eq_of_lt (by omega)]; omega

/-- what holds in the middle of a difference: k places are done, bw is borrowed -/
structure LesInv (w wr : World) (B : Option Addr) (g d k bw : Nat) (m s0 s : List Nat) : Prop where
  len : s.length = s0.length
  lt : ∀ x ∈ s, x < B64
  rest : ∀ j, k ≤ j → nth s j = nth s0 j
  blk : Blk wr g 78 (ints .u64 s)
  cb : wr.cell? ⟨w.heap.size, 0, none⟩ = some (.slice B m.length d)
  gr : w.grownBy wr (some g)
  sub : valT B64 s k + valT B64 m k = valT B64 s0 k + B64 ^ k * bw

theorem LesInv.drew {w wr : World} {B : Option Addr} {g d k bw : Nat} {m s0 s : List Nat} (h : LesInv w wr B g d k bw m s0 s) : LesInv w wr.drew B g d k bw m s0 s :=
  ⟨h.len, h.lt, h.rest, h.blk, h.cb, only_drew h.gr, h.sub⟩

theorem LesInv.next {w wr : World} {B : Option Addr} {g d k bw : Nat} {m s0 s : List Nat} (h : LesInv w wr B g d k bw m s0 s) (hk : k < s0.length) (hg : g < w.heap.size) (hm : ∀ x ∈ m, x < B64) (hb : bw ≤ 1) :
    LesInv w (wr.setCell ⟨g, k, none⟩ (.int .u64 (((nth s k + B64 - nth m k - bw) % B64 : Nat) : Int))) B g d (k + 1) (if nth s k < nth m k + bw then 1 else 0) m s0 (s.set k ((nth s k + B64 - nth m k - bw) % B64)) := by
  refine ⟨by simp [h.len], set_lt h.lt _ _ (Nat.mod_lt _ B64_pos), ?_, ?_, ?_, only_set h.gr _ _, ?_⟩
  · intro j hj; rw [getD_set_ne _ _ _ _ (by omega)]; exact h.rest j (by omega)
  · have := h.blk.set_ k (.int .u64 (((nth s k + B64 - nth m k - bw) % B64 : Nat) : Int))
    rw [ints_set] at this
    exact this
  · rw [World.cell?_setCell_other _ _ _ _ (fun e => by injection e; omega)]; exact h.cb
  · have e := sub_step (getD_lt B64_pos h.lt k) (getD_lt B64_pos hm k) hb
    have e2 : B64 ^ k * ((nth s k + B64 - nth m k - bw) % B64) + B64 ^ k * (nth m k + bw) = B64 ^ k * nth s k + B64 ^ k * (B64 * (if nth s k < nth m k + bw then 1 else 0)) := by
      rw [← Nat.mul_add, ← Nat.mul_add, e]
    rw [valT, valT_set _ _ _ _ _ (Nat.le_refl _), getD_set_eq _ _ _ (by rw [h.len]; omega), valT, valT, Nat.pow_succ, Nat.mul_assoc, ← h.rest k (Nat.le_refl _)]
    have := h.sub
    rw [Nat.mul_add] at e2
    omega

/-- what lessen leaves: the first n digits of block g are less by so much -/
def RetLess (w : World) (g n c v : Nat) (s0 : List Nat) (e : Ending) (w' : World) : Prop :=
  e = .returned (.slice (some ⟨g, 0, none⟩) n c) ∧ ∃ s, Blk w' g 78 (ints .u64 s) ∧ s.length = s0.length ∧ (∀ x ∈ s, x < B64) ∧ (∀ j, n ≤ j → nth s j = nth s0 j) ∧ valT B64 s n = valT B64 s0 n - v ∧ w.grownBy w' (some g)

set_option maxRecDepth 100000 in
set_option maxHeartbeats 1000000 in
theorem lessen_any (w : World) (g n c d : Nat) (B : Option Addr) (s0 m : List Nat) (hn : n ≤ s0.length) (hl : s0.length ≤ 17592186044416) (hm : m.length ≤ 17592186044000) (hblk : Blk w g 78 (ints .u64 s0)) (hb : Rd w .u64 B m)
    (hne : ∀ i, i < m.length → (adr B i).block ≠ g) (hx : ∀ x ∈ s0, x < B64) (hy : ∀ x ∈ m, x < B64) (hum : used m ≤ n) (hge : val B64 m ≤ valT B64 s0 n) :
    Calls Tryd.prog 90 #[.slice (some ⟨g, 0, none⟩) n c, .slice B m.length d] w (RetLess w g n c (val B64 m) s0) := by
  have Hblk := Lib.hid hblk; have Hb := Lib.hid hb; have Hx := Lib.hid hx; have Hy := Lib.hid hy; have Hne := Lib.hid hne; have Hge := Lib.hid hge
  have Hvm := Lib.hid (valT_used B64 m n hum)
  have hg := hblk.lt
  clear hblk hb hx hy hne hge hum
  go_enter Tryd.func90, Tryd.ntmps90
  go_wp2_with fail
  refine (reader_any w B d m).mono ?_
  rintro e w' ⟨rfl, rfl⟩
  go_wp2_with fail
  go_loopw [6, 12] (fun cv i wr => ∃ (k bw : Nat) (s : List Nat), k ≤ n ∧ bw ≤ 1 ∧ cv = .int .u64 bw ∧ i = .int .i64 k ∧ LesInv w wr B g d k bw m s0 s) (fun _ i _ => n - (intOf i).toNat)
  case atStart =>
    refine ⟨0, 0, s0, Nat.zero_le _, Nat.zero_le _, rfl, rfl, rfl, Hx.out, fun _ _ => rfl, Hblk.out.alloc _, ?_, only_alloc (World.grownBy.refl w _) _, rfl⟩
    exact (Blk.new w 31 #[.slice B m.length d]).cell 0
  case round =>
    obtain ⟨k, bw, s, hk, hbw, rfl, rfl, hI⟩ := hrel
    by_cases hlt : k < n
    · have hcell := hI.blk.cell k
      rw [ints_get .u64 s k (by rw [hI.len]; omega)] at hcell
      have hfz := hI.blk.frozen k
      have hN := Lib.hid (hI.drew.next (by omega) hg Hy.out hbw)
      have hsub := run_sub64_at (nth s k) (nth m k) bw hbw
      have Hrd := Lib.hid (fun (W : World) (hW : ∀ a, W.cell? a = wr.cell? a) => reader1_any W B d w.heap.size m k (by omega) (by omega) ((hW _).trans hI.cb) ((Hb.out.only hI.gr Hne.out).keep fun p _ => hW p))
      have hq : (if nth s k < nth m k + bw then 1 else 0) ≤ 1 := by split <;> omega
      rw [Int.toNat_natCast] at Hrd
      clear hI
      generalize (if nth s k < nth m k + bw then 1 else 0) = q at *
      generalize (nth s k + B64 - nth m k - bw) % B64 = r at *
      generalize nth s k = x at *
      generalize nth m k = y at *
      go_wp2_with fail
      go_region_with (go_at_call 85; refine (Hrd.out _ (by exact fun _ => rfl)).mono ?_; rintro e w' ⟨rfl, rfl⟩)
      all_goals
        go_wp2
        go_roundw
        case rel => exact ⟨k + 1, q, s.set k r, by omega, hq, rfl, by go_num, hN.out⟩
        case measure => simp [intOf]; omega
    · obtain rfl : k = n := by omega
      have Hfin : Hid (RetLess w g k c (val B64 m) s0 (.returned (.slice (some ⟨g, 0, none⟩) k c)) wr) := by
        refine ⟨rfl, s, hI.blk, hI.len, hI.lt, hI.rest, ?_, hI.gr⟩
        have h1 := hI.sub
        have h2 := valT_lt B64_pos hI.lt k
        have h3 := Hge.out
        rw [Hvm.out] at h1
        have : bw = 0 ∨ bw = 1 := by omega
        rcases this with rfl | rfl
        · omega
        · omega
      clear hI
      go_wp2
      go_ret
      exact Hfin.out

theorem Below.drewN {B : Nat} {a w : World} (h : Below B a w) (n : Nat) : Below B a (w.drewN n) := ⟨h.os, h.tape, h.output, h.size, h.block⟩
theorem Below.of_only {w w1 w2 : World} {g : Nat} (h : Below w.heap.size w w1) (ho : w1.grownBy w2 (some g)) (hg : w.heap.size ≤ g) : Below w.heap.size w w2 :=
  h.grown ho h.size (fun k hk => by injection hk with hk; omega)
theorem cmpN_le {a b : Nat} : cmpN a b ≤ 0 ↔ a ≤ b := by
  unfold cmpN; split
  · simp; omega
  · split
    · simp; omega
    · constructor <;> omega

set_option maxRecDepth 100000 in
set_option maxHeartbeats 1000000 in
theorem sub_any (w : World) (A B : Option Addr) (c d : Nat) (l m : List Nat) (hl : l.length ≤ 17592186044000) (hm : m.length ≤ 17592186044000) (ha : Rd w .u64 A l) (hb : Rd w .u64 B m)
    (hx : ∀ x ∈ l, x < B64) (hy : ∀ x ∈ m, x < B64) :
    Calls Tryd.prog 84 #[.slice A l.length c, .slice B m.length d] w (RetL .u64 (digs B64 (val B64 l - val B64 m)) w) := by
  have Ha := Lib.hid ha; have Hb := Lib.hid hb; have Hx := Lib.hid hx; have Hy := Lib.hid hy
  clear ha hb hx hy
  go_enter Tryd.func84, Tryd.ntmps84
  go_wp2_with fail
  refine (cmp_any w A B c d l m (by omega) (by omega) Ha.out Hb.out Hx.out Hy.out).mono ?_
  rintro e w' ⟨rfl, q, rfl⟩
  by_cases hle : val B64 l ≤ val B64 m
  · have hc : cmpN (val B64 l) (val B64 m) ≤ 0 := cmpN_le.2 hle
    have Hz : Hid (digs B64 (val B64 l - val B64 m) = []) := by
      show _ = _
      rw [show val B64 l - val B64 m = 0 by omega]; rfl
    clear hle
    generalize cmpN (val B64 l) (val B64 m) = z at *
    go_wp2
    go_ret
    rw [Hz.out]
    exact ⟨none, 0, rfl, Nat.le_refl _, Rd.nil_ _ _, Below.drewN (Below.refl _ _) _, Fr.none_ _ _⟩
  · have hc : ¬ cmpN (val B64 l) (val B64 m) ≤ 0 := fun h => hle (cmpN_le.1 h)
    have Hlt : Hid (val B64 m < val B64 l) := by show _ < _; omega
    clear hle
    generalize cmpN (val B64 l) (val B64 m) = z at *
    go_wp2_with fail
    refine (trim_new _ A c l (by omega) (Ha.out.drewN q)).mono ?_
    rintro e w1 ⟨A1, c1, rfl, ho, hb1⟩
    have hb1' : Below w.heap.size w w1 := (Below.drewN (Below.refl _ _) q).trans hb1
    rcases ho with ⟨hnil, -, -⟩ | ⟨g, rfl, rfl, hg, hblk⟩
    · exfalso
      have h1 := val_trim B64 l
      rw [hnil] at h1
      have := Hlt.out
      simp [val] at h1
      omega
    · have hul : used m ≤ (trim l).length := by
        rw [length_trim]
        rcases Nat.lt_or_ge (used l) (used m) with h | h
        · have h1 := val_lt_of_length (b := B64) (by decide) (trim_lt Hx.out) (trim_tidy m) (by rw [length_trim, length_trim]; exact h)
          rw [val_trim, val_trim] at h1
          have := Hlt.out
          omega
        · exact h
      have hll := used_le l
      have htl := length_trim l
      have hrb := Hb.out.below hb1' (Nat.le_refl _)
      have Hless := Lib.hid (lessen_any w1 g (trim l).length (trim l).length d B (trim l) m (Nat.le_refl _) (by omega) hm hblk hrb
        (fun i hi => by have := Hb.out.lt i hi; simp only [World.heap_drewN] at hg; omega) (trim_lt Hx.out) Hy.out hul (by rw [valT_all, val_trim]; exact Nat.le_of_lt Hlt.out))
      have Hbel := Lib.hid hb1'
      have hg' : w.heap.size ≤ g := hg
      clear htl hul hll hrb hblk hb1 hb1' hg
      have HV : Hid (valT B64 (trim l) (trim l).length = val B64 l) := by show _ = _; rw [valT_all, val_trim]
      have hlen : (trim l).length ≤ 17592186044000 := by rw [length_trim]; have := used_le l; omega
      generalize trim l = t at *
      go_wp2_with fail
      refine Hless.out.mono ?_
      rintro e w2 ⟨rfl, s, hs, hsl, hslt, -, hv, ho⟩
      have hbel2 := Below.of_only Hbel.out ho hg'
      have htd := tidy_any w2 (some ⟨g, 0, none⟩) t.length s (by omega) (by omega) (Rd.of_blk hs)
      have hrt := (Rd.of_blk hs).take (used s)
      have Hfin : Hid (trim s = digs B64 (val B64 l - val B64 m)) := by
        show _ = _
        rw [trim_eq (b := B64) (by decide) hslt, ← valT_all, hsl, hv, HV.out]
      rw [hsl] at htd
      have Htd := Lib.hid htd; have Hrt := Lib.hid hrt; have Hb2 := Lib.hid hbel2
      clear htd hrt hbel2 hs hslt hv ho hsl
      go_wp2_with fail
      refine Htd.out.mono ?_
      intro e w' hret
      obtain ⟨A', c', rfl, hc', hr', rfl⟩ := hret.rd Hrt.out
      have HR := Lib.hid hr'; have HC := Lib.hid hc'; clear hr' hc' hret Htd Hrt
      go_wp2
      go_ret
      rw [← Hfin.out]
      exact ⟨A', c', rfl, HC.out, HR.out.1, Hb2.out, HR.out.2 _ (Fr.of_blk hg' _)⟩
end Go.Proofs.YtgghdedabpohbaaDoor
