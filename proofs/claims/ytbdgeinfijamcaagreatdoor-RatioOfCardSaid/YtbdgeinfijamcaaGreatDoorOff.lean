/-
  limbs: takeOff, giveBack: what holds in the middle.
-/
import Derived.Test.YtbdgeinfijamcaaGreatDoorLimD
import Derived.Test.YtbdgeinfijamcaaGreatDoorKnu
namespace Go.Proofs.YtbdgeinfijamcaaGreatDoor
open Go.RowKit

theorem valT_drop_set (b : Nat) (s : List Nat) (j k x : Nat) : valT b ((s.set (j + k) x).drop j) k = valT b (s.drop j) k :=
  valT_congr _ _ _ _ fun i hi => by rw [nthDrop, nthDrop, getD_set_ne _ _ _ _ (by omega)]
theorem only_drewN {a w : World} {row : Option Nat} (h : a.grownBy w row) (n : Nat) : a.grownBy (w.drewN n) row := ⟨h.os, h.tape, h.output, h.size, h.block⟩

/-- only the window of n digits from j on of block g has turned: it was of s0, it is of s -/
structure Win (w wr : World) (g j n : Nat) (s0 s : List Nat) : Prop where
  len : s.length = s0.length
  lt : ∀ x ∈ s, x < B64
  far : ∀ i, i < j ∨ j + n ≤ i → nth s i = nth s0 i
  blk : Blk wr g 96 (ints .u64 s)
  gr : w.grownBy wr (some g)
theorem Win.drewN {w wr : World} {g j n : Nat} {s0 s : List Nat} (h : Win w wr g j n s0 s) (q : Nat) : Win w (wr.drewN q) g j n s0 s := ⟨h.len, h.lt, h.far, h.blk, only_drewN h.gr q⟩
theorem Win.set_ {w wr : World} {g j k : Nat} {s0 s : List Nat} (h : Win w wr g j k s0 s) {r : Nat} (hr : r < B64) : Win w (wr.setCell ⟨g, j + k, none⟩ (.int .u64 (r : Int))) g j (k + 1) s0 (s.set (j + k) r) := by
  refine ⟨by simp [h.len], set_lt h.lt _ _ hr, ?_, ?_, only_set h.gr _ _⟩
  · intro i hi; rw [getD_set_ne _ _ _ _ (by omega)]; exact h.far i (by omega)
  · have := h.blk.set_ (j + k) (.int .u64 (r : Int)); rw [ints_set] at this; exact this
theorem Win.refl {w : World} {g j : Nat} {s0 : List Nat} (hb : Blk w g 96 (ints .u64 s0)) (hl : ∀ x ∈ s0, x < B64) (n : Nat) : Win w w g j n s0 s0 := ⟨rfl, hl, fun _ _ => rfl, hb, World.grownBy.refl _ _⟩
theorem Win.trans {w w1 w2 : World} {g j n : Nat} {s0 s1 s2 : List Nat} (h : Win w w1 g j n s0 s1) (k : Win w1 w2 g j n s1 s2) : Win w w2 g j n s0 s2 :=
  ⟨k.len.trans h.len, k.lt, fun i hi => (k.far i hi).trans (h.far i hi), k.blk, ⟨k.gr.os.trans h.gr.os, k.gr.tape.trans h.gr.tape, k.gr.output.trans h.gr.output, Nat.le_trans h.gr.size k.gr.size, fun i hi hn => (k.gr.block i (Nat.lt_of_lt_of_le hi h.gr.size) hn).trans (h.gr.block i hi hn)⟩⟩

theorem mul_add_lt {y t c : Nat} (hy : y < B64) (ht : t < B64) (hc : c < B64) : y * t / B64 + (y * t % B64 + c) / B64 < B64 := by
  have e : y * t / B64 + (y * t % B64 + c) / B64 = (y * t + c) / B64 := by
    have h1 := Nat.div_add_mod (y * t) B64
    have : y * t + c = (y * t % B64 + c) + B64 * (y * t / B64) := by omega
    rw [this, Nat.add_mul_div_left _ _ B64_pos]; omega
  rw [e, Nat.div_lt_iff_lt_mul B64_pos]
  have h2 : y * t ≤ (B64 - 1) * (B64 - 1) := Nat.mul_le_mul (by omega) (by omega)
  have h3 : (B64 - 1) * (B64 - 1) + B64 ≤ B64 * B64 := by decide
  omega

/-- in the middle of taking v, so many times, off a window -/
structure OffInv (w wr : World) (g j k cy bw times : Nat) (v s0 s : List Nat) : Prop where
  win : Win w wr g j k s0 s
  cyl : cy < B64
  bwl : bw ≤ 1
  eq : valT B64 (s.drop j) k + times * valT B64 v k = valT B64 (s0.drop j) k + B64 ^ k * (cy + bw)
theorem OffInv.drewN {w wr : World} {g j k cy bw times : Nat} {v s0 s : List Nat} (h : OffInv w wr g j k cy bw times v s0 s) (q : Nat) : OffInv w (wr.drewN q) g j k cy bw times v s0 s := ⟨h.win.drewN q, h.cyl, h.bwl, h.eq⟩
theorem OffInv.next {w wr : World} {g j k cy bw times y lo r c : Nat} {v s0 s : List Nat} (h : OffInv w wr g j k cy bw times v s0 s) (hk : j + k < s0.length) (hv : ∀ x ∈ v, x < B64) (ht : times < B64)
    (hy : y = nth v k) (hlo : lo = (y * times % B64 + cy) % B64) (hc : c = (y * times % B64 + cy) / B64) (hr : r = (nth s (j + k) + B64 - lo - bw) % B64) :
    OffInv w (wr.setCell ⟨g, j + k, none⟩ (.int .u64 (r : Int))) g j (k + 1) (y * times / B64 + c) (if nth s (j + k) < lo + bw then 1 else 0) times v s0 (s.set (j + k) r) := by
  have hyl : y < B64 := by rw [hy]; exact getD_lt B64_pos hv k
  have hll : lo < B64 := by rw [hlo]; exact Nat.mod_lt _ B64_pos
  have hrl : r < B64 := by rw [hr]; exact Nat.mod_lt _ B64_pos
  have hs := sub_step (getD_lt B64_pos h.win.lt (j + k)) hll h.bwl
  rw [← hr] at hs
  refine ⟨h.win.set_ hrl, by rw [hc]; exact mul_add_lt hyl ht h.cyl, by split <;> omega, ?_⟩
  rw [valT_succ, valT_succ, valT_succ, valT_drop_set, nthDrop, getD_set_eq _ _ _ (by rw [h.win.len]; exact hk), nthDrop, ← hy, Nat.pow_succ]
  rw [h.win.far (j + k) (.inr (Nat.le_refl _))] at hs ⊢
  refine off_step (lo := y * times % B64) (lo' := lo) h.eq ?_ ?_ hs
  · have := Nat.div_add_mod (y * times) B64; rw [Nat.mul_comm]; omega
  · have := Nat.div_add_mod (y * times % B64 + cy) B64; rw [hc, hlo, Nat.mul_comm]; omega
/-- the last digit -/
theorem OffInv.last {w wr : World} {g j k cy bw times r : Nat} {v s0 s : List Nat} (h : OffInv w wr g j k cy bw times v s0 s) (hk : j + k < s0.length) (hr : r = (nth s (j + k) + B64 - cy - bw) % B64) (hn : k = v.length) :
    Win w (wr.setCell ⟨g, j + k, none⟩ (.int .u64 (r : Int))) g j (k + 1) s0 (s.set (j + k) r) ∧
    valT B64 ((s.set (j + k) r).drop j) (k + 1) + times * val B64 v = valT B64 (s0.drop j) (k + 1) + B64 ^ (k + 1) * (if nth s (j + k) < cy + bw then 1 else 0) := by
  have hrl : r < B64 := by rw [hr]; exact Nat.mod_lt _ B64_pos
  have hs := sub_step (getD_lt B64_pos h.win.lt (j + k)) h.cyl h.bwl
  rw [← hr] at hs
  refine ⟨h.win.set_ hrl, ?_⟩
  have he := h.eq
  rw [valT_succ, valT_succ, valT_drop_set, nthDrop, getD_set_eq _ _ _ (by rw [h.win.len]; exact hk), nthDrop, Nat.pow_succ]
  rw [h.win.far (j + k) (.inr (Nat.le_refl _))] at hs ⊢
  rw [hn, valT_all, ← hn] at he
  generalize B64 ^ k = p at *
  generalize (if nth s0 (j + k) < cy + bw then 1 else 0) = b' at *
  have e1 : p * (r + (cy + bw)) = p * (nth s0 (j + k) + B64 * b') := by rw [hs]
  generalize nth s0 (j + k) = x at *
  generalize B64 = b at *
  grind

/-- in the middle of giving v back to a window -/
structure BackInv (w wr : World) (g j k cy : Nat) (v s0 s : List Nat) : Prop where
  win : Win w wr g j k s0 s
  cyl : cy ≤ 1
  eq : valT B64 (s.drop j) k + B64 ^ k * cy = valT B64 (s0.drop j) k + valT B64 v k
theorem BackInv.drewN {w wr : World} {g j k cy : Nat} {v s0 s : List Nat} (h : BackInv w wr g j k cy v s0 s) (q : Nat) : BackInv w (wr.drewN q) g j k cy v s0 s := ⟨h.win.drewN q, h.cyl, h.eq⟩
theorem BackInv.next {w wr : World} {g j k cy y : Nat} {v s0 s : List Nat} (h : BackInv w wr g j k cy v s0 s) (hk : j + k < s0.length) (hyl : y < B64) (v' : List Nat) (hy : valT B64 v' (k + 1) = valT B64 v k + B64 ^ k * y) :
    BackInv w (wr.setCell ⟨g, j + k, none⟩ (.int .u64 (((nth s (j + k) + y + cy) % B64 : Nat) : Int))) g j (k + 1) ((nth s (j + k) + y + cy) / B64) v' s0 (s.set (j + k) ((nth s (j + k) + y + cy) % B64)) := by
  have hx := getD_lt B64_pos h.win.lt (j + k)
  refine ⟨h.win.set_ (Nat.mod_lt _ B64_pos), ?_, ?_⟩
  · have := h.cyl; rw [Nat.div_le_iff_le_mul_add_pred B64_pos]; omega
  · rw [valT_succ, hy, valT_succ, valT_drop_set, nthDrop, getD_set_eq _ _ _ (by rw [h.win.len]; exact hk), nthDrop, ← h.win.far (j + k) (.inr (Nat.le_refl _))]
    exact add_step h.eq
end Go.Proofs.YtbdgeinfijamcaaGreatDoor
