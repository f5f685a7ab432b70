/-
  A fraction's text, read, is the fraction. tripwirelaw04.RatioOrder: the walk.
-/
import Derived.Test.YthffandpjjnkhaaGreatDoorSD
import Derived.Test.YthffandpjjnkhaaGreatDoorSE
import Derived.Test.YthffandpjjnkhaaGreatDoorRQ
import Derived.Deep.DeepMust
import Derived.Deep.DeepCutAuto
namespace Go.Proofs.YthffandpjjnkhaaGreatDoor
open Go.RowKit

theorem index_hit (l r : List UInt8) (c : UInt8) (h : ∀ x ∈ l, x ≠ c) : Lib.indexByte (l ++ c :: r) c = (l.length : Int) := by
  induction l with
  | nil => simp [Lib.indexByte]
  | cons b l ih =>
    have h1 := ih (fun x hx => h x (by simp [hx]))
    have h2 : (b == c) = false := by simpa using h b (by simp)
    simp only [List.cons_append, Lib.indexByte, h1, h2]
    rw [if_neg (by simp), if_neg (by simp <;> omega)]
    simp
theorem index_miss (l : List UInt8) (c : UInt8) (h : ∀ x ∈ l, x ≠ c) : Lib.indexByte l c = -1 := by
  induction l with
  | nil => rfl
  | cons b l ih =>
    have h1 := ih (fun x hx => h x (by simp [hx]))
    have h2 : (b == c) = false := by simpa using h b (by simp)
    simp only [Lib.indexByte, h1, h2]
    simp
theorem text_no (neg : Bool) (v : Nat) : ∀ x ∈ intText neg v, x ≠ 47 := by
  intro x hx
  have hd := (dec_dig v).1
  have key : ∀ y ∈ Lib.decDigits v, y ≠ 47 := fun y hy e => by
    have := hd y hy
    rw [e] at this
    simp [isDig] at this
  unfold intText at hx
  split at hx
  · simp at hx; rw [hx]; decide
  · rcases List.mem_append.1 hx with h | h
    · split at h
      · simp at h; rw [h]; decide
      · simp at h
    · exact key x h
theorem text_pre (v : Nat) : Lib.hasPrefix (intText false v) [45] = false := by
  unfold intText
  split
  · rfl
  · simpa using (cut_dig (dec_dig v).1).1
theorem parseR_of {s tp bt bot : List UInt8} {dv : Bool} {p d : Bool × Nat} (hc : Lib.cut s [47] = (tp, bt, dv)) (hb : bot = if dv = true then bt else [49]) (hp : parseN tp = (0, p)) (hd : parseN bot = (0, d)) (hx : Lib.hasPrefix bot [45] = false) (hne : pz (0, d) ≠ 0) :
    parseR s = (0, Rat.divInt (pz (0, p)) (pz (0, d))) := by
  unfold parseR
  simp only [hc, ← hb, hp, hd, hx]
  rw [if_neg (by simp), if_neg (by simp), if_neg (by simp), if_neg hne]
theorem pz_num (z : Int) : pz (0, (decide (z < 0) && decide (z.natAbs ≠ 0)), z.natAbs) = z := by
  unfold pz
  have e2 : (decide (z < 0) && decide (z.natAbs ≠ 0)) = decide (z < 0) := by by_cases h : z < 0 <;> simp [h] <;> omega
  simp only [e2]
  exact iv_dec _
theorem len_K {n v K : Nat} (h : v < B64 ^ n) (hK : 20 * n ≤ K) : v < 10 ^ K := Nat.lt_of_lt_of_le h (Nat.le_trans (ten_B n) (powLe hK))
theorem parse_ratText {q : Rat} {n : Nat} (hs : Sz q n) (hn : n ≤ 30) : parseR (ratText q) = (0, q) := by
  have h1 := parse_text (decide (q.num < 0)) q.num.natAbs (len_K (K := 600) hs.1 (by omega))
  have hz := pz_num q.num
  unfold ratText
  by_cases hd : q.den = 1
  · rw [if_pos hd, List.append_nil]
    have hi : Lib.index (intText (decide (q.num < 0)) q.num.natAbs) [47] = -1 := by rw [index_one]; exact index_miss _ _ (text_no _ _)
    have hc : Lib.cut (intText (decide (q.num < 0)) q.num.natAbs) [47] = (intText (decide (q.num < 0)) q.num.natAbs, [], false) := by
      unfold Lib.cut; rw [hi, if_neg (by omega)]
    rw [parseR_of hc rfl h1 (show parseN [49] = (0, false, 1) by decide +kernel) (by decide) (by decide), hz, show pz (0, false, 1) = 1 from by decide]
    have e := Rat.num_divInt_den q
    rw [hd] at e
    exact congrArg (Prod.mk 0) e
  · rw [if_neg hd]
    have hi : Lib.index (intText (decide (q.num < 0)) q.num.natAbs ++ 47 :: intText false q.den) [47] = ((intText (decide (q.num < 0)) q.num.natAbs).length : Int) := by rw [index_one]; exact index_hit _ _ _ (text_no _ _)
    have hc : Lib.cut (intText (decide (q.num < 0)) q.num.natAbs ++ 47 :: intText false q.den) [47] = (intText (decide (q.num < 0)) q.num.natAbs, intText false q.den, true) := by
      unfold Lib.cut; rw [hi, if_pos (by omega)]; simp
    have h2 := parse_text false q.den (len_K (K := 600) hs.2 (by omega))
    rw [Bool.false_and] at h2
    have hq : pz (0, false, q.den) = (q.den : Int) := rfl
    have h0 : (q.den : Int) ≠ 0 := by have := q.den_pos; omega
    rw [parseR_of hc rfl h1 h2 (text_pre q.den) (by rw [hq]; exact h0), hz, hq, Rat.num_divInt_den]
end Go.Proofs.YthffandpjjnkhaaGreatDoor
namespace Go.Proofs.YthffandpjjnkhaaGreatDoor
open Go.RowKit

/-- an operation of a drawn region that reads or moves, or is not wanted, taken first; its slot told -/
theorem held_take {P : Program} {md : Region.Mode} {ops : Array Oper} {Q : Exit → Act → World → Prop} {S : World → Prop} {i : Nat} {oi : Oper} {v : Value} {fuel : Nat} {listed : Array Bool} {a : Act} {w : World} (d : Option Nat) (hi : ops[i]? = some oi) (hd : oi.dst = d)
    (hs : Region.noSelect ops = true) (hf : Region.free md ops listed i = true) (hr : (Region.ready md ops listed).contains i = true)
    (hQ : ∀ c a w, Q (.panic c) (a.put d v) w → Q (.panic c) a w) (hy : YieldsIf P ops S oi v a) (hS : S w)
    (h : wpAnyH P md ops Q S fuel (listed.setIfInBounds i true) (a.put d v) w) : wpAnyH P md ops Q S (fuel + 1) listed a w := by
  subst hd; exact wpAnyH_take hi hs hf hr hQ hy hS h
/-- a call that is not wanted -/
theorem held_skip {P : Program} {md : Region.Mode} {ops : Array Oper} {Q : Exit → Act → World → Prop} {S : World → Prop} {i : Nat} {o : Oper} {fuel : Nat} {listed : Array Bool} {a : Act} {w : World} (d : Option Nat) (hi : ops[i]? = some o) (hd : o.dst = d)
    (hr : Region.ready md ops listed = [i]) (hw : Region.wanted o (yielded ops a.tmps) = false) (hS : S w)
    (h : wpAnyH P md ops Q S fuel (listed.setIfInBounds i true) (a.put d undef) w) : wpAnyH P md ops Q S (fuel + 1) listed a w := by
  subst hd
  refine wpAnyH_ready hr (by simp) (AllReadyH.cons hi (fun K hK => ?_) AllReadyH.nil)
  rw [if_neg (by simp [hw])]
  exact hK.out _ _ hS (fun _ => h)
/-- a call that is wanted, the only one that may come up -/
theorem held_call {P : Program} {md : Region.Mode} {ops : Array Oper} {Q : Exit → Act → World → Prop} {S : World → Prop} {i : Nat} {o : Oper} {fuel : Nat} {listed : Array Bool} {a : Act} {w : World} (hi : ops[i]? = some o)
    (hr : Region.ready md ops listed = [i]) (hw : Region.wanted o (yielded ops a.tmps) = true)
    (h : ∀ K : Act → World → Prop, Shut (∀ a w, S w → (S w → wpAnyH P md ops Q S fuel (listed.setIfInBounds i true) a w) → K a w) → Oper.wp P o a w K Q) : wpAnyH P md ops Q S (fuel + 1) listed a w := by
  refine wpAnyH_ready hr (by simp) (AllReadyH.cons hi (fun K hK => ?_) AllReadyH.nil)
  rw [if_pos hw]
  exact h K hK

theorem LSt.alloc {w W : World} {ra rb rc : RV} {a b c : Rat} {n : Nat} (h : LSt w W ra rb rc a b c n) (o : Obj) : LSt w (W.alloc o) ra rb rc a b c n :=
  ⟨h.ba.alloc o, h.bb.alloc o, h.bc.alloc o, (h.da.old.alloc o).now, (h.db.old.alloc o).now, (h.dc.old.alloc o).now, (h.tz.old.alloc o).now, (h.tab.old.alloc o).now, h.bel.alloc h.bel.size o⟩
/-- three fractions, and the two next to the first one, in boxes -/
structure OSt (w W : World) (ra rb rc : RV) (a b c : Rat) (n : Nat) (gf gg : Nat) (rf rg : RV) (f g : Rat) : Prop where
  l : LSt w W ra rb rc a b c n
  bf : Blk W gf 36 #[.bool rf.num.neg, .slice rf.num.A rf.num.k rf.num.c, .bool rf.den.neg, .slice rf.den.A rf.den.k rf.den.c]
  bg : Blk W gg 36 #[.bool rg.num.neg, .slice rg.num.A rg.num.k rg.num.c, .bool rg.den.neg, .slice rg.den.A rg.den.k rg.den.c]
  hf : RatN rf f W
  hg : RatN rg g W
section
variable {w W W' : World} {ra rb rc rf rg : RV} {a b c f g : Rat} {n gf gg : Nat}
theorem OSt.below (h : OSt w W ra rb rc a b c n gf gg rf rg f g) (hb : Below W.heap.size W W') : OSt w W' ra rb rc a b c n gf gg rf rg f g := ⟨h.l.below hb, h.bf.below hb h.bf.lt, h.bg.below hb h.bg.lt, h.hf.below hb, h.hg.below hb⟩
theorem OSt.drew (h : OSt w W ra rb rc a b c n gf gg rf rg f g) : OSt w W.drew ra rb rc a b c n gf gg rf rg f g := ⟨h.l.drew, h.bf, h.bg, h.hf.drew, h.hg.drew⟩
theorem OSt.da (h : OSt w W ra rb rc a b c n gf gg rf rg f g) : RatD ra a n W := h.l.da
theorem OSt.tz (h : OSt w W ra rb rc a b c n gf gg rf rg f g) : Tz W := h.l.tz
theorem OSt.cells (h : OSt w W ra rb rc a b c n gf gg rf rg f g) : W.cell? ⟨w.heap.size, 0, none⟩ = some (.bool ra.num.neg) ∧ W.cell? ⟨w.heap.size, 1, none⟩ = some (.slice ra.num.A ra.num.k ra.num.c) ∧ W.cell? ⟨w.heap.size, 2, none⟩ = some (.bool ra.den.neg) ∧ W.cell? ⟨w.heap.size, 3, none⟩ = some (.slice ra.den.A ra.den.k ra.den.c) ∧ W.cell? ⟨w.heap.size + 1, 0, none⟩ = some (.bool rb.num.neg) ∧ W.cell? ⟨w.heap.size + 1, 1, none⟩ = some (.slice rb.num.A rb.num.k rb.num.c) ∧ W.cell? ⟨w.heap.size + 1, 2, none⟩ = some (.bool rb.den.neg) ∧ W.cell? ⟨w.heap.size + 1, 3, none⟩ = some (.slice rb.den.A rb.den.k rb.den.c) ∧ W.cell? ⟨w.heap.size + 1 + 1, 0, none⟩ = some (.bool rc.num.neg) ∧ W.cell? ⟨w.heap.size + 1 + 1, 1, none⟩ = some (.slice rc.num.A rc.num.k rc.num.c) ∧ W.cell? ⟨w.heap.size + 1 + 1, 2, none⟩ = some (.bool rc.den.neg) ∧ W.cell? ⟨w.heap.size + 1 + 1, 3, none⟩ = some (.slice rc.den.A rc.den.k rc.den.c) ∧ W.cell? ⟨gf, 0, none⟩ = some (.bool rf.num.neg) ∧ W.cell? ⟨gf, 1, none⟩ = some (.slice rf.num.A rf.num.k rf.num.c) ∧ W.cell? ⟨gf, 2, none⟩ = some (.bool rf.den.neg) ∧ W.cell? ⟨gf, 3, none⟩ = some (.slice rf.den.A rf.den.k rf.den.c) ∧ W.cell? ⟨gg, 0, none⟩ = some (.bool rg.num.neg) ∧ W.cell? ⟨gg, 1, none⟩ = some (.slice rg.num.A rg.num.k rg.num.c) ∧ W.cell? ⟨gg, 2, none⟩ = some (.bool rg.den.neg) ∧ W.cell? ⟨gg, 3, none⟩ = some (.slice rg.den.A rg.den.k rg.den.c) :=
  ⟨h.l.ba.cell 0, h.l.ba.cell 1, h.l.ba.cell 2, h.l.ba.cell 3, h.l.bb.cell 0, h.l.bb.cell 1, h.l.bb.cell 2, h.l.bb.cell 3, h.l.bc.cell 0, h.l.bc.cell 1, h.l.bc.cell 2, h.l.bc.cell 3, h.bf.cell 0, h.bf.cell 1, h.bf.cell 2, h.bf.cell 3, h.bg.cell 0, h.bg.cell 1, h.bg.cell 2, h.bg.cell 3⟩
end
/-- three fractions, and one that was read, in boxes -/
structure PSt (w W : World) (ra rb rc : RV) (a b c : Rat) (n : Nat) (gp : Nat) (rp : RV) (p : Rat) : Prop where
  l : LSt w W ra rb rc a b c n
  bp : Blk W gp 36 #[.bool rp.num.neg, .slice rp.num.A rp.num.k rp.num.c, .bool rp.den.neg, .slice rp.den.A rp.den.k rp.den.c]
  hp : RatN rp p W
section
variable {w W W' : World} {ra rb rc rp : RV} {a b c p : Rat} {n gp : Nat}
theorem PSt.below (h : PSt w W ra rb rc a b c n gp rp p) (hb : Below W.heap.size W W') : PSt w W' ra rb rc a b c n gp rp p := ⟨h.l.below hb, h.bp.below hb h.bp.lt, h.hp.below hb⟩
theorem PSt.drew (h : PSt w W ra rb rc a b c n gp rp p) : PSt w W.drew ra rb rc a b c n gp rp p := ⟨h.l.drew, h.bp, h.hp.drew⟩
theorem PSt.da (h : PSt w W ra rb rc a b c n gp rp p) : RatD ra a n W := h.l.da
theorem PSt.tz (h : PSt w W ra rb rc a b c n gp rp p) : Tz W := h.l.tz
theorem PSt.tab (h : PSt w W ra rb rc a b c n gp rp p) : Tab W := h.l.tab
theorem PSt.bel (h : PSt w W ra rb rc a b c n gp rp p) : Below w.heap.size w W := h.l.bel
theorem PSt.cells (h : PSt w W ra rb rc a b c n gp rp p) : W.cell? ⟨w.heap.size, 0, none⟩ = some (.bool ra.num.neg) ∧ W.cell? ⟨w.heap.size, 1, none⟩ = some (.slice ra.num.A ra.num.k ra.num.c) ∧ W.cell? ⟨w.heap.size, 2, none⟩ = some (.bool ra.den.neg) ∧ W.cell? ⟨w.heap.size, 3, none⟩ = some (.slice ra.den.A ra.den.k ra.den.c) ∧ W.cell? ⟨w.heap.size + 1, 0, none⟩ = some (.bool rb.num.neg) ∧ W.cell? ⟨w.heap.size + 1, 1, none⟩ = some (.slice rb.num.A rb.num.k rb.num.c) ∧ W.cell? ⟨w.heap.size + 1, 2, none⟩ = some (.bool rb.den.neg) ∧ W.cell? ⟨w.heap.size + 1, 3, none⟩ = some (.slice rb.den.A rb.den.k rb.den.c) ∧ W.cell? ⟨w.heap.size + 1 + 1, 0, none⟩ = some (.bool rc.num.neg) ∧ W.cell? ⟨w.heap.size + 1 + 1, 1, none⟩ = some (.slice rc.num.A rc.num.k rc.num.c) ∧ W.cell? ⟨w.heap.size + 1 + 1, 2, none⟩ = some (.bool rc.den.neg) ∧ W.cell? ⟨w.heap.size + 1 + 1, 3, none⟩ = some (.slice rc.den.A rc.den.k rc.den.c) ∧ W.cell? ⟨gp, 0, none⟩ = some (.bool rp.num.neg) ∧ W.cell? ⟨gp, 1, none⟩ = some (.slice rp.num.A rp.num.k rp.num.c) ∧ W.cell? ⟨gp, 2, none⟩ = some (.bool rp.den.neg) ∧ W.cell? ⟨gp, 3, none⟩ = some (.slice rp.den.A rp.den.k rp.den.c) :=
  ⟨h.l.ba.cell 0, h.l.ba.cell 1, h.l.ba.cell 2, h.l.ba.cell 3, h.l.bb.cell 0, h.l.bb.cell 1, h.l.bb.cell 2, h.l.bb.cell 3, h.l.bc.cell 0, h.l.bc.cell 1, h.l.bc.cell 2, h.l.bc.cell 3, h.bp.cell 0, h.bp.cell 1, h.bp.cell 2, h.bp.cell 3⟩
end
theorem wrap_neg3 {a b : Rat} : IntKind.i64.wrap (-(cmpQ b a)) = cmpQ a b := by
  rw [cmp_swap a b]; rcases cmpQ3 b a with h | h | h <;> rw [h] <;> decide
theorem wrap_mul3 {a b c : Rat} : IntKind.i64.wrap (cmpQ a b * c.num.sign) = cmpQ (a * c) (b * c) := by
  rw [cmp_mul a b c]; unfold sg
  rcases cmpQ3 a b with h | h | h <;> rcases sgn3 c.num with k | k | k <;> rw [h, k] <;> decide
theorem Sz.max {a b : Rat} {n : Nat} (h : Sz a n) (h' : Sz b n) : Sz (maxQ a b) n := by unfold maxQ; split <;> assumption
theorem Sz.min {a b : Rat} {n : Nat} (h : Sz a n) (h' : Sz b n) : Sz (minQ a b) n := by unfold minQ; split <;> assumption
theorem Sz.abs {a : Rat} {n : Nat} (h : Sz a n) : Sz (rabs a) n := by unfold rabs; split; exact h.neg; exact h
theorem floor_lt {a : Rat} {n : Nat} (h : Sz a n) : a.floor.natAbs < B64 ^ n := by
  rw [Rat.floor_def]; exact Nat.lt_of_le_of_lt (Int.natAbs_ediv_le_natAbs _ _) h.1
theorem ceil_lt {a : Rat} {n : Nat} (h : Sz a n) : (ceilQ a).natAbs < B64 ^ n := by
  unfold ceilQ; rw [Int.natAbs_neg]; exact floor_lt h.neg
theorem sz_whole {z : Int} {n : Nat} (h1 : 1 ≤ n) (h : z.natAbs < B64 ^ n) : Sz (Rat.divInt z 1) n := sz_int h1 h (one_lt_pow h1)
theorem rsame_true (w : World) (r s : RV) (a b : Rat) (n : Nat) (hn : n ≤ 400000000000) (h1n : 1 ≤ n) (h : RatD r a n w) (h' : RatD s b n w) (e : a = b) :
    Calls Tryz.prog 26 #[.agg #[.bool r.num.neg, .slice r.num.A r.num.k r.num.c, .bool r.den.neg, .slice r.den.A r.den.k r.den.c], .agg #[.bool s.num.neg, .slice s.num.A s.num.k s.num.c, .bool s.den.neg, .slice s.den.A s.den.k s.den.c]] w fun e w' => e = .returned (.bool true) ∧ Below w.heap.size w w' := by
  have := rsame_any w r s a b n hn h1n h h'
  rw [decide_eq_true e] at this
  exact this
theorem intText_len {neg : Bool} {v n : Nat} (h1 : 1 ≤ n) (h : v < B64 ^ n) : (intText neg v).length ≤ 20 * n + 1 := by
  have := dec_length (k := 20 * n) (Nat.lt_of_lt_of_le h (ten_B n)) (by omega)
  unfold intText; split
  · simp
  · cases neg <;> simp <;> omega
theorem ratText_len {q : Rat} {n : Nat} (h1 : 1 ≤ n) (h : Sz q n) : (ratText q).length ≤ 40 * n + 3 := by
  have a := intText_len (neg := decide (q.num < 0)) h1 h.1
  have b := intText_len (neg := false) h1 h.2
  unfold ratText; split
  · simp; omega
  · simp; omega

theorem Rests.clip {w : World} {F : Nat → Prop} {φ : World → Prop} (h : Rests w F φ) : Rests w (fun b => F b ∧ b < w.heap.size) φ := ⟨h.now, fun w' hw => h.lift w' fun b hF hb => hw b ⟨hF, hb⟩ hb⟩
theorem rest_c {X W : World} {φ : World → Prop} (h : Rests W (X.heap.size ≤ ·) φ) : ∃ B, B = X.heap.size ∧ Rests W (fun b => B ≤ b ∧ b < W.heap.size) φ := ⟨_, rfl, h.clip⟩
theorem Blk.carry {w w' : World} {g : Nat} {t : TypeId} {cs : Array Value} (h : Blk w g t cs) (hb : Below w.heap.size w w') : Blk w' g t cs := h.below hb h.lt
theorem Blk.newE {W : World} {g : Nat} {t : TypeId} {cs : Array Value} (h : g = W.heap.size) : Blk (W.alloc (.cells cs t)) g t cs := by rw [h]; exact Blk.new _ _ _
theorem Blk.set4 {W : World} {g : Nat} {t : TypeId} {x y z u : Value} (h : Blk W g t #[x, y, z, u]) (a b c d : Value) : Blk ((((W.setCell ⟨g, 0, none⟩ a).setCell ⟨g, 1, none⟩ b).setCell ⟨g, 2, none⟩ c).setCell ⟨g, 3, none⟩ d) g t #[a, b, c, d] := (((h.set_ 0 a).set_ 1 b).set_ 2 c).set_ 3 d

/-- a region's parts under names of their own -/
theorem dag_start {P : Program} {md : Region.Mode} {ops : Array Oper} {Q : Exit → Act → World → Prop} {S : World → Prop} {n : Nat} {l : Array Bool} {a : Act} {w : World} (m : Nat) (hm : n = m) (l' : Array Bool) (hl : l = l')
    (h : ∀ Q', Q' = Q → ∀ ops', ops' = ops → ∀ a', a' = a → wpAnyH P md ops' Q' S m l' a' w) : wpAnyH P md ops Q S n l a w := by
  subst hm; subst hl; exact h _ rfl _ rfl _ rfl
/-- a box of the region's own, still empty -/
structure Bx (v0 W : World) (g : Nat) : Prop where
  blk : Blk W g 36 #[.bool false, .slice none 0 0, .bool false, .slice none 0 0]
  ge : v0.heap.size ≤ g
theorem Bx.alloc {v0 W : World} {g : Nat} (h : Bx v0 W g) (o : Obj) : Bx v0 (W.alloc o) g := ⟨h.blk.alloc o, h.ge⟩
theorem Bx.below {v0 W W' : World} {g : Nat} (h : Bx v0 W g) (hb : Below W.heap.size W W') : Bx v0 W' g := ⟨h.blk.carry hb, h.ge⟩
theorem Bx.new {v0 W : World} (h : Below v0.heap.size v0 W) : Bx v0 (W.alloc (.cells #[.bool false, .slice none 0 0, .bool false, .slice none 0 0] 36)) W.heap.size := ⟨Blk.new _ _ _, h.size⟩
theorem Bx.ne {v0 W : World} {g : Nat} (h : Bx v0 W g) : g ≠ W.heap.size := Nat.ne_of_lt h.blk.lt
/-- what rests on blocks that are there -/
structure Dt (W : World) (F : Nat → Prop) (φ : World → Prop) : Prop where
  r : Rests W F φ
  lt : ∀ b, F b → b < W.heap.size
theorem Dt.alloc {W : World} {F : Nat → Prop} {φ : World → Prop} (h : Dt W F φ) (o : Obj) : Dt (W.alloc o) F φ := ⟨h.r.alloc o, fun b hb => by have := h.lt b hb; simp; omega⟩
theorem Dt.below {W W' : World} {F : Nat → Prop} {φ : World → Prop} (h : Dt W F φ) (hb : Below W.heap.size W W') : Dt W' F φ := ⟨h.r.below hb, fun b hF => Nat.lt_of_lt_of_le (h.lt b hF) hb.size⟩
theorem Dt.no {W : World} {F : Nat → Prop} {φ : World → Prop} (h : Dt W F φ) : ¬ F W.heap.size := fun hF => Nat.lt_irrefl _ (h.lt _ hF)
theorem Dt.made {X W : World} {φ : World → Prop} (h : Rests W (X.heap.size ≤ ·) φ) : Dt W (fun b => X.heap.size ≤ b ∧ b < W.heap.size) φ := ⟨h.clip, fun _ h => h.2⟩
theorem Bx.out {v0 X W : World} {g : Nat} (h : Bx v0 X g) : ¬ (X.heap.size ≤ g ∧ g < W.heap.size) := fun h2 => by have := h.blk.lt; omega
theorem IntN.al {i : IV} {z : Int} {W : World} (h : IntN i z W) (o : Obj) : IntN i z (W.alloc o) := (h.old.alloc o).now
theorem IntN.be {i : IV} {z : Int} {W W' : World} (h : IntN i z W) (hb : Below W.heap.size W W') : IntN i z W' := (h.old.below hb).now

theorem final6 {w v0 W : World} {ra rb rc rf rg : RV} {a b c q q' : Rat} {gf gg : Nat} {F2 F4 : Nat → Prop} (hL : LSt w v0 ra rb rc a b c 12) (hW : Below v0.heap.size v0 W) (bf : Bx v0 W gf) (bg : Bx v0 W gg) (ne : gf ≠ gg)
    (d2 : Dt W F2 (RatN rf q)) (d4 : Dt W F4 (RatN rg q')) (nf2 : ¬ F2 gf) (ng2 : ¬ F2 gg) (nf4 : ¬ F4 gf) (ng4 : ¬ F4 gg) :
    OSt w ((((((((W.setCell ⟨gf, 0, none⟩ (.bool rf.num.neg)).setCell ⟨gf, 1, none⟩ (.slice rf.num.A rf.num.k rf.num.c)).setCell ⟨gf, 2, none⟩ (.bool rf.den.neg)).setCell ⟨gf, 3, none⟩ (.slice rf.den.A rf.den.k rf.den.c)).setCell ⟨gg, 0, none⟩ (.bool rg.num.neg)).setCell ⟨gg, 1, none⟩ (.slice rg.num.A rg.num.k rg.num.c)).setCell ⟨gg, 2, none⟩ (.bool rg.den.neg)).setCell ⟨gg, 3, none⟩ (.slice rg.den.A rg.den.k rg.den.c)) ra rb rc a b c 12 gf gg rf rg q q' := by
  refine ⟨hL.below ((((((((hW.setCell (p := ⟨gf, 0, none⟩) bf.ge _).setCell (p := ⟨gf, 1, none⟩) bf.ge _).setCell (p := ⟨gf, 2, none⟩) bf.ge _).setCell (p := ⟨gf, 3, none⟩) bf.ge _).setCell (p := ⟨gg, 0, none⟩) bg.ge _).setCell (p := ⟨gg, 1, none⟩) bg.ge _).setCell (p := ⟨gg, 2, none⟩) bg.ge _).setCell (p := ⟨gg, 3, none⟩) bg.ge _), ?_, ?_, ?_, ?_⟩
  · exact (((((Blk.set4 bf.blk _ _ _ _).far (p := ⟨gg, 0, none⟩) ne _).far (p := ⟨gg, 1, none⟩) ne _).far (p := ⟨gg, 2, none⟩) ne _).far (p := ⟨gg, 3, none⟩) ne _)
  · exact Blk.set4 ((((bg.blk.far (p := ⟨gf, 0, none⟩) ne.symm _).far (p := ⟨gf, 1, none⟩) ne.symm _).far (p := ⟨gf, 2, none⟩) ne.symm _).far (p := ⟨gf, 3, none⟩) ne.symm _) _ _ _ _
  · exact ((((((((d2.r.set (a := ⟨gf, 0, none⟩) nf2 _).set (a := ⟨gf, 1, none⟩) nf2 _).set (a := ⟨gf, 2, none⟩) nf2 _).set (a := ⟨gf, 3, none⟩) nf2 _).set (a := ⟨gg, 0, none⟩) ng2 _).set (a := ⟨gg, 1, none⟩) ng2 _).set (a := ⟨gg, 2, none⟩) ng2 _).set (a := ⟨gg, 3, none⟩) ng2 _).now
  · exact ((((((((d4.r.set (a := ⟨gf, 0, none⟩) nf4 _).set (a := ⟨gf, 1, none⟩) nf4 _).set (a := ⟨gf, 2, none⟩) nf4 _).set (a := ⟨gf, 3, none⟩) nf4 _).set (a := ⟨gg, 0, none⟩) ng4 _).set (a := ⟨gg, 1, none⟩) ng4 _).set (a := ⟨gg, 2, none⟩) ng4 _).set (a := ⟨gg, 3, none⟩) ng4 _).now

set_option maxRecDepth 1000000 in
set_option maxHeartbeats 16000000 in
theorem order_short (w : World) (ra rb rc : RV) (a b c : Rat) (ha : RatD ra a 12 w) (hb : RatD rb b 12 w) (hc : RatD rc c 12 w) (hz : Tz w) (ht : Tab w) (hsh : (shortR ra 12 && (shortR rb 12 && shortR rc 12)) = true) :
    Calls Tryz.prog 7 #[.agg #[.bool ra.num.neg, .slice ra.num.A ra.num.k ra.num.c, .bool ra.den.neg, .slice ra.den.A ra.den.k ra.den.c], .agg #[.bool rb.num.neg, .slice rb.num.A rb.num.k rb.num.c, .bool rb.den.neg, .slice rb.den.A rb.den.k rb.den.c], .agg #[.bool rc.num.neg, .slice rc.num.A rc.num.k rc.num.c, .bool rc.den.neg, .slice rc.den.A rc.den.k rc.den.c]] w fun e w' => e = .returned (.bool true) ∧ Below w.heap.size w w' := by
  have HSa := Lib.hid (ha.sz (by decide)); have HSb := Lib.hid (hb.sz (by decide)); have HSc := Lib.hid (hc.sz (by decide))
  have HL := Lib.hid (LSt.start ha hb hc hz ht)
  have Hsh := Lib.hid (fun (W : World) => (by have h4 := lshort_any W ra rb rc; rw [hsh] at h4; exact h4 : Calls Tryz.prog 18 #[.agg #[.bool ra.num.neg, .slice ra.num.A ra.num.k ra.num.c, .bool ra.den.neg, .slice ra.den.A ra.den.k ra.den.c], .agg #[.bool rb.num.neg, .slice rb.num.A rb.num.k rb.num.c, .bool rb.den.neg, .slice rb.den.A rb.den.k rb.den.c], .agg #[.bool rc.num.neg, .slice rc.num.A rc.num.k rc.num.c, .bool rc.den.neg, .slice rc.den.A rc.den.k rc.den.c]] W fun e w' => e = .returned (.bool true) ∧ Below W.heap.size W w'))
  clear ha hb hc hz ht hsh
  have Hzf := Lib.hid (sz_whole (by decide) (floor_lt HSa.out)); have Hzg := Lib.hid (sz_whole (by decide) (ceil_lt HSa.out))
  obtain ⟨k, ek⟩ : ∃ k, k = cmpQ (a) (b) := ⟨_, rfl⟩
  have EHk : cmpQ (a) (b) = k := ek.symm
  obtain ⟨k2, ek2⟩ : ∃ k2, k2 = cmpQ (b) (a) := ⟨_, rfl⟩
  have EHk2 : cmpQ (b) (a) = k2 := ek2.symm
  obtain ⟨k3, ek3⟩ : ∃ k3, k3 = cmpQ (b) (c) := ⟨_, rfl⟩
  have EHk3 : cmpQ (b) (c) = k3 := ek3.symm
  obtain ⟨k4, ek4⟩ : ∃ k4, k4 = cmpQ (a) (c) := ⟨_, rfl⟩
  have EHk4 : cmpQ (a) (c) = k4 := ek4.symm
  obtain ⟨m, em⟩ : ∃ m, m = cmpQ (a * c) (b * c) := ⟨_, rfl⟩
  have EHm : cmpQ (a * c) (b * c) = m := em.symm
  have EHka : cmpQ (a + c) (b + c) = k := (cmp_add a b c).trans EHk
  obtain ⟨s, es⟩ : ∃ s, s = c.num.sign := ⟨_, rfl⟩
  have W1 := Lib.hid (show IntKind.i64.wrap (-k2) = k from by rw [ek2, ek]; exact wrap_neg3)
  have W2 := Lib.hid (show IntKind.i64.wrap (k * s) = m from by rw [ek, es, em]; exact wrap_mul3)
  have W3 := Lib.hid (show ¬ 0 < k → ¬ 0 < k3 → k4 ≤ 0 from fun h1 h2 => by rw [ek4]; rw [ek] at h1; rw [ek3] at h2; exact cmp_trans (b := b) (by omega) (by omega))
  have Hk := Lib.hid (fun (W : World) (r s : RV) (h1 : RatD r (a) 12 W) (h2 : RatD s (b) 12 W) => (by have h4 := rcmp_any W r s (a) (b) 12 (by decide) (by decide) h1 h2; rw [EHk] at h4; exact h4 : Calls Tryz.prog 37 #[.agg #[.bool r.num.neg, .slice r.num.A r.num.k r.num.c, .bool r.den.neg, .slice r.den.A r.den.k r.den.c], .agg #[.bool s.num.neg, .slice s.num.A s.num.k s.num.c, .bool s.den.neg, .slice s.den.A s.den.k s.den.c]] W fun e w' => e = .returned (.int .i64 k) ∧ Below W.heap.size W w'))
  have Hk2 := Lib.hid (fun (W : World) (r s : RV) (h1 : RatD r (b) 12 W) (h2 : RatD s (a) 12 W) => (by have h4 := rcmp_any W r s (b) (a) 12 (by decide) (by decide) h1 h2; rw [EHk2] at h4; exact h4 : Calls Tryz.prog 37 #[.agg #[.bool r.num.neg, .slice r.num.A r.num.k r.num.c, .bool r.den.neg, .slice r.den.A r.den.k r.den.c], .agg #[.bool s.num.neg, .slice s.num.A s.num.k s.num.c, .bool s.den.neg, .slice s.den.A s.den.k s.den.c]] W fun e w' => e = .returned (.int .i64 k2) ∧ Below W.heap.size W w'))
  have Hk3 := Lib.hid (fun (W : World) (r s : RV) (h1 : RatD r (b) 12 W) (h2 : RatD s (c) 12 W) => (by have h4 := rcmp_any W r s (b) (c) 12 (by decide) (by decide) h1 h2; rw [EHk3] at h4; exact h4 : Calls Tryz.prog 37 #[.agg #[.bool r.num.neg, .slice r.num.A r.num.k r.num.c, .bool r.den.neg, .slice r.den.A r.den.k r.den.c], .agg #[.bool s.num.neg, .slice s.num.A s.num.k s.num.c, .bool s.den.neg, .slice s.den.A s.den.k s.den.c]] W fun e w' => e = .returned (.int .i64 k3) ∧ Below W.heap.size W w'))
  have Hk4 := Lib.hid (fun (W : World) (r s : RV) (h1 : RatD r (a) 12 W) (h2 : RatD s (c) 12 W) => (by have h4 := rcmp_any W r s (a) (c) 12 (by decide) (by decide) h1 h2; rw [EHk4] at h4; exact h4 : Calls Tryz.prog 37 #[.agg #[.bool r.num.neg, .slice r.num.A r.num.k r.num.c, .bool r.den.neg, .slice r.den.A r.den.k r.den.c], .agg #[.bool s.num.neg, .slice s.num.A s.num.k s.num.c, .bool s.den.neg, .slice s.den.A s.den.k s.den.c]] W fun e w' => e = .returned (.int .i64 k4) ∧ Below W.heap.size W w'))
  have Hm := Lib.hid (fun (W : World) (r s : RV) (h1 : RatD r (a * c) 25 W) (h2 : RatD s (b * c) 25 W) => (by have h4 := rcmp_any W r s (a * c) (b * c) 25 (by decide) (by decide) h1 h2; rw [EHm] at h4; exact h4 : Calls Tryz.prog 37 #[.agg #[.bool r.num.neg, .slice r.num.A r.num.k r.num.c, .bool r.den.neg, .slice r.den.A r.den.k r.den.c], .agg #[.bool s.num.neg, .slice s.num.A s.num.k s.num.c, .bool s.den.neg, .slice s.den.A s.den.k s.den.c]] W fun e w' => e = .returned (.int .i64 m) ∧ Below W.heap.size W w'))
  have Hka := Lib.hid (fun (W : World) (r s : RV) (h1 : RatD r (a + c) 25 W) (h2 : RatD s (b + c) 25 W) => (by have h4 := rcmp_any W r s (a + c) (b + c) 25 (by decide) (by decide) h1 h2; rw [EHka] at h4; exact h4 : Calls Tryz.prog 37 #[.agg #[.bool r.num.neg, .slice r.num.A r.num.k r.num.c, .bool r.den.neg, .slice r.den.A r.den.k r.den.c], .agg #[.bool s.num.neg, .slice s.num.A s.num.k s.num.c, .bool s.den.neg, .slice s.den.A s.den.k s.den.c]] W fun e w' => e = .returned (.int .i64 k) ∧ Below W.heap.size W w'))
  have Hs := Lib.hid (fun (W : World) (h1 : RatD rc c 12 W) => (by have h4 := rsign_any W rc c 12 (by decide) h1; rw [← es] at h4; exact h4 : Calls Tryz.prog 20 #[.agg #[.bool rc.num.neg, .slice rc.num.A rc.num.k rc.num.c, .bool rc.den.neg, .slice rc.den.A rc.den.k rc.den.c]] W fun e w' => e = .returned (.int .i64 s) ∧ Below W.heap.size W w'))
  clear ek ek2 ek3 ek4 em es EHk EHk2 EHk3 EHk4 EHm EHka
  obtain ⟨mm, emm⟩ : ∃ mm, mm = cmpQ (maxQ a b) (minQ a b) := ⟨_, rfl⟩
  have EHmm : cmpQ (maxQ a b) (minQ a b) = mm := emm.symm
  have W5 := Lib.hid (show 0 ≤ mm from by rw [emm]; exact max_ge a b)
  have Hmm := Lib.hid (fun (W : World) (r s : RV) (h1 : RatD r (maxQ a b) 12 W) (h2 : RatD s (minQ a b) 12 W) => (by have h4 := rcmp_any W r s (maxQ a b) (minQ a b) 12 (by decide) (by decide) h1 h2; rw [EHmm] at h4; exact h4 : Calls Tryz.prog 37 #[.agg #[.bool r.num.neg, .slice r.num.A r.num.k r.num.c, .bool r.den.neg, .slice r.den.A r.den.k r.den.c], .agg #[.bool s.num.neg, .slice s.num.A s.num.k s.num.c, .bool s.den.neg, .slice s.den.A s.den.k s.den.c]] W fun e w' => e = .returned (.int .i64 mm) ∧ Below W.heap.size W w'))
  obtain ⟨sa, esa⟩ : ∃ sa, sa = (rabs a).num.sign := ⟨_, rfl⟩
  have W6 := Lib.hid (show 0 ≤ sa from by rw [esa]; exact abs_sign a)
  have Hsa := Lib.hid (fun (W : World) (r : RV) (h1 : RatD r (rabs a) 12 W) => (by have h4 := rsign_any W r (rabs a) 12 (by decide) h1; rw [← esa] at h4; exact h4 : Calls Tryz.prog 20 #[.agg #[.bool r.num.neg, .slice r.num.A r.num.k r.num.c, .bool r.den.neg, .slice r.den.A r.den.k r.den.c]] W fun e w' => e = .returned (.int .i64 sa) ∧ Below W.heap.size W w'))
  clear emm esa EHmm
  obtain ⟨n1, en1⟩ : ∃ n1, n1 = cmpQ (Rat.divInt a.floor 1) (a) := ⟨_, rfl⟩
  have EHn1 : cmpQ (Rat.divInt a.floor 1) (a) = n1 := en1.symm
  have Fn1 := Lib.hid (show n1 ≤ 0 from by rw [en1]; exact floor_le' a)
  have Hn1 := Lib.hid (fun (W : World) (r s : RV) (h1 : RatD r (Rat.divInt a.floor 1) 12 W) (h2 : RatD s (a) 12 W) => (by have h4 := rcmp_any W r s (Rat.divInt a.floor 1) (a) 12 (by decide) (by decide) h1 h2; rw [EHn1] at h4; exact h4 : Calls Tryz.prog 37 #[.agg #[.bool r.num.neg, .slice r.num.A r.num.k r.num.c, .bool r.den.neg, .slice r.den.A r.den.k r.den.c], .agg #[.bool s.num.neg, .slice s.num.A s.num.k s.num.c, .bool s.den.neg, .slice s.den.A s.den.k s.den.c]] W fun e w' => e = .returned (.int .i64 n1) ∧ Below W.heap.size W w'))
  clear en1 EHn1
  obtain ⟨n2, en2⟩ : ∃ n2, n2 = cmpQ (a) (Rat.divInt a.floor 1 + Rat.divInt 1 1) := ⟨_, rfl⟩
  have EHn2 : cmpQ (a) (Rat.divInt a.floor 1 + Rat.divInt 1 1) = n2 := en2.symm
  have Fn2 := Lib.hid (show n2 < 0 from by rw [en2]; exact lt_floor' a)
  have Hn2 := Lib.hid (fun (W : World) (r s : RV) (h1 : RatD r (a) 14 W) (h2 : RatD s (Rat.divInt a.floor 1 + Rat.divInt 1 1) 14 W) => (by have h4 := rcmp_any W r s (a) (Rat.divInt a.floor 1 + Rat.divInt 1 1) 14 (by decide) (by decide) h1 h2; rw [EHn2] at h4; exact h4 : Calls Tryz.prog 37 #[.agg #[.bool r.num.neg, .slice r.num.A r.num.k r.num.c, .bool r.den.neg, .slice r.den.A r.den.k r.den.c], .agg #[.bool s.num.neg, .slice s.num.A s.num.k s.num.c, .bool s.den.neg, .slice s.den.A s.den.k s.den.c]] W fun e w' => e = .returned (.int .i64 n2) ∧ Below W.heap.size W w'))
  clear en2 EHn2
  obtain ⟨n3, en3⟩ : ∃ n3, n3 = cmpQ (Rat.divInt (ceilQ a) 1) (a) := ⟨_, rfl⟩
  have EHn3 : cmpQ (Rat.divInt (ceilQ a) 1) (a) = n3 := en3.symm
  have Fn3 := Lib.hid (show 0 ≤ n3 from by rw [en3]; exact ceil_ge' a)
  have Hn3 := Lib.hid (fun (W : World) (r s : RV) (h1 : RatD r (Rat.divInt (ceilQ a) 1) 12 W) (h2 : RatD s (a) 12 W) => (by have h4 := rcmp_any W r s (Rat.divInt (ceilQ a) 1) (a) 12 (by decide) (by decide) h1 h2; rw [EHn3] at h4; exact h4 : Calls Tryz.prog 37 #[.agg #[.bool r.num.neg, .slice r.num.A r.num.k r.num.c, .bool r.den.neg, .slice r.den.A r.den.k r.den.c], .agg #[.bool s.num.neg, .slice s.num.A s.num.k s.num.c, .bool s.den.neg, .slice s.den.A s.den.k s.den.c]] W fun e w' => e = .returned (.int .i64 n3) ∧ Below W.heap.size W w'))
  clear en3 EHn3
  obtain ⟨n4, en4⟩ : ∃ n4, n4 = cmpQ (Rat.divInt (ceilQ a) 1 - Rat.divInt 1 1) (a) := ⟨_, rfl⟩
  have EHn4 : cmpQ (Rat.divInt (ceilQ a) 1 - Rat.divInt 1 1) (a) = n4 := en4.symm
  have Fn4 := Lib.hid (show n4 < 0 from by rw [en4]; exact ceil_lt' a)
  have Hn4 := Lib.hid (fun (W : World) (r s : RV) (h1 : RatD r (Rat.divInt (ceilQ a) 1 - Rat.divInt 1 1) 14 W) (h2 : RatD s (a) 14 W) => (by have h4 := rcmp_any W r s (Rat.divInt (ceilQ a) 1 - Rat.divInt 1 1) (a) 14 (by decide) (by decide) h1 h2; rw [EHn4] at h4; exact h4 : Calls Tryz.prog 37 #[.agg #[.bool r.num.neg, .slice r.num.A r.num.k r.num.c, .bool r.den.neg, .slice r.den.A r.den.k r.den.c], .agg #[.bool s.num.neg, .slice s.num.A s.num.k s.num.c, .bool s.den.neg, .slice s.den.A s.den.k s.den.c]] W fun e w' => e = .returned (.int .i64 n4) ∧ Below W.heap.size W w'))
  clear en4 EHn4
  obtain ⟨bw, ebw⟩ : ∃ bw, bw = decide (a.den = 1) := ⟨_, rfl⟩
  have Hsw := Lib.hid (fun (W : World) (r s : RV) (h1 : RatD r (Rat.divInt a.floor 1) 12 W) (h2 : RatD s (Rat.divInt (ceilQ a) 1) 12 W) => (by have h4 := rsame_any W r s (Rat.divInt a.floor 1) (Rat.divInt (ceilQ a) 1) 12 (by decide) (by decide) h1 h2; rw [same_whole a, ← ebw] at h4; exact h4 : Calls Tryz.prog 26 #[.agg #[.bool r.num.neg, .slice r.num.A r.num.k r.num.c, .bool r.den.neg, .slice r.den.A r.den.k r.den.c], .agg #[.bool s.num.neg, .slice s.num.A s.num.k s.num.c, .bool s.den.neg, .slice s.den.A s.den.k s.den.c]] W fun e w' => e = .returned (.bool bw) ∧ Below W.heap.size W w'))
  have Hiw := Lib.hid (fun (W : World) (h1 : RatD ra a 12 W) => (by have h4 := rwholeis_any W ra a 12 (by decide) (by decide) h1; rw [← ebw] at h4; exact h4 : Calls Tryz.prog 36 #[.agg #[.bool ra.num.neg, .slice ra.num.A ra.num.k ra.num.c, .bool ra.den.neg, .slice ra.den.A ra.den.k ra.den.c]] W fun e w' => e = .returned (.bool bw) ∧ Below W.heap.size W w'))
  clear ebw
  have Hpp := Lib.hid (fun (W : World) (hz : Tz W) => (by
    have hp := parse_ratText HSa.out (by decide)
    have h4 := rparse_good W ⟨(ratText a).toArray⟩ (by have := ratText_len (by decide) HSa.out; simp [ByteArray.size]; omega) hz (by simp [hp])
    simp only [hp] at h4
    exact h4 : Calls Tryz.prog 39 #[strV (ratText a)] W (RetRE a 0 W)))
  go_enter Tryz.func7, Tryz.ntmps7
  go_wp2_with fail
  refine (Hsh.out _).mono ?_
  rintro e w0 ⟨rfl, hb1⟩
  replace HL := Lib.hid (HL.out.below hb1)
  obtain ⟨c0, c1, c2, c3, c4, c5, c6, c7, c8, c9, c10, c11⟩ := HL.out.cells
  clear hb1
  go_wp2_with fail
  refine (Hk.out _ ra rb (RatD.mono (n := 12) (by first | exact HL.out.da | exact HL.out.da.drew) (by decide)) (RatD.mono (n := 12) (by first | exact HL.out.db | exact HL.out.db.drew) (by decide))).mono ?_
  rintro e w1 ⟨rfl, hb1⟩
  replace HL := Lib.hid (HL.out.below hb1)
  clear c0 c1 c2 c3 c4 c5 c6 c7 c8 c9 c10 c11
  obtain ⟨c0, c1, c2, c3, c4, c5, c6, c7, c8, c9, c10, c11⟩ := HL.out.cells
  clear hb1
  go_upto_region 4 with fail
  go_cut [8] (fun v wx => v = .bool true ∧ LSt w wx ra rb rc a b c 12)
  case first =>
    as_aux_lemma =>
      refine wp_region_noPanic ?_
      refine wp_region_held_drew (S := (fun W => W.cell? ⟨w.heap.size, 0, none⟩ = some (.bool ra.num.neg) ∧ W.cell? ⟨w.heap.size, 1, none⟩ = some (.slice ra.num.A ra.num.k ra.num.c) ∧ W.cell? ⟨w.heap.size, 2, none⟩ = some (.bool ra.den.neg) ∧ W.cell? ⟨w.heap.size, 3, none⟩ = some (.slice ra.den.A ra.den.k ra.den.c) ∧ W.cell? ⟨w.heap.size + 1, 0, none⟩ = some (.bool rb.num.neg) ∧ W.cell? ⟨w.heap.size + 1, 1, none⟩ = some (.slice rb.num.A rb.num.k rb.num.c) ∧ W.cell? ⟨w.heap.size + 1, 2, none⟩ = some (.bool rb.den.neg) ∧ W.cell? ⟨w.heap.size + 1, 3, none⟩ = some (.slice rb.den.A rb.den.k rb.den.c) ∧ W.cell? ⟨w.heap.size + 1 + 1, 0, none⟩ = some (.bool rc.num.neg) ∧ W.cell? ⟨w.heap.size + 1 + 1, 1, none⟩ = some (.slice rc.num.A rc.num.k rc.num.c) ∧ W.cell? ⟨w.heap.size + 1 + 1, 2, none⟩ = some (.bool rc.den.neg) ∧ W.cell? ⟨w.heap.size + 1 + 1, 3, none⟩ = some (.slice rc.den.A rc.den.k rc.den.c))) (by kernel_rfl) (by first | exact HL.out.cells | exact HL.out.drew.cells) (fun hHeld => ?_)
      refine held_take (i := 0) (v := ?_) (some 24) rfl rfl (by kernel_rfl) (by kernel_rfl) (by kernel_rfl) (fun _ _ _ h => h) (Or.inl ⟨by rfl, ?_⟩) hHeld ?_
      rotate_left 1
      · intro w hSw
        (try dsimp only at hSw)
        (first | (go_simp; done) | (go_simp; with_reducible rfl))
      (try simp only [Act.put, List.setIfInBounds_toArray, List.set_cons_zero, List.set_cons_succ])
      refine held_take (i := 1) (v := ?_) (some 25) rfl rfl (by kernel_rfl) (by kernel_rfl) (by kernel_rfl) (fun _ _ _ h => h) (Or.inl ⟨by rfl, ?_⟩) hHeld ?_
      rotate_left 1
      · intro w hSw
        (try dsimp only at hSw)
        (first | (go_simp; done) | (go_simp; with_reducible rfl))
      (try simp only [Act.put, List.setIfInBounds_toArray, List.set_cons_zero, List.set_cons_succ])
      refine held_take (i := 2) (v := ?_) (some 26) rfl rfl (by kernel_rfl) (by kernel_rfl) (by kernel_rfl) (fun _ _ _ h => h) (Or.inl ⟨by rfl, ?_⟩) hHeld ?_
      rotate_left 1
      · intro w hSw
        (try dsimp only at hSw)
        (first | (go_simp; done) | (go_simp; with_reducible rfl))
      (try simp only [Act.put, List.setIfInBounds_toArray, List.set_cons_zero, List.set_cons_succ])
      refine held_call (i := 3) rfl (by kernel_rfl) (by rfl) (fun K hK => ?_)
      clear hHeld
      simp only [List.getElem_toArray, List.getElem_cons_succ, List.getElem_cons_zero]
      go_simp
      refine (Hk2.out _ rb ra (RatD.mono (n := 12) (by first | exact HL.out.db | exact HL.out.db.drew) (by decide)) (RatD.mono (n := 12) (by first | exact HL.out.da | exact HL.out.da.drew) (by decide))).mono ?_
      rintro e wo1 ⟨rfl, bo1⟩
      replace HL := Lib.hid (LSt.below (by first | exact HL.out | exact HL.out.drew) bo1)
      clear c0 c1 c2 c3 c4 c5 c6 c7 c8 c9 c10 c11
      obtain ⟨c0, c1, c2, c3, c4, c5, c6, c7, c8, c9, c10, c11⟩ := HL.out.cells
      clear bo1
      (try (go_wp2_with fail))
      refine hK.out _ _ (by first | exact HL.out.cells | exact HL.out.drew.cells) (fun hHeld => ?_)
      clear hK K
      (try simp only [Act.put, List.setIfInBounds_toArray, List.set_cons_zero, List.set_cons_succ])
      refine held_take (i := 4) (v := .int .i64 k) (some 28) rfl rfl (by kernel_rfl) (by kernel_rfl) (by kernel_rfl) (fun _ _ _ h => h) (Or.inl ⟨by rfl, ?_⟩) hHeld ?_
      · intro w hSw
        clear hSw
        go_simp
        (first | done | (simp only [W1.out]))
      (try simp only [Act.put, List.setIfInBounds_toArray, List.set_cons_zero, List.set_cons_succ])
      refine held_take (i := 5) (v := ?_) (some 29) rfl rfl (by kernel_rfl) (by kernel_rfl) (by kernel_rfl) (fun _ _ _ h => h) (Or.inl ⟨by rfl, ?_⟩) hHeld ?_
      rotate_left 1
      · intro w hSw
        (try dsimp only at hSw)
        (first | (go_simp; done) | (go_simp; with_reducible rfl))
      (try simp only [Act.put, List.setIfInBounds_toArray, List.set_cons_zero, List.set_cons_succ])
      refine held_take (i := 6) (v := ?_) (some 30) rfl rfl (by kernel_rfl) (by kernel_rfl) (by kernel_rfl) (fun _ _ _ h => h) (Or.inl ⟨by rfl, ?_⟩) hHeld ?_
      rotate_left 1
      · intro w hSw
        (try dsimp only at hSw)
        (first | (go_simp; done) | (go_simp; with_reducible rfl))
      (try simp only [Act.put, List.setIfInBounds_toArray, List.set_cons_zero, List.set_cons_succ])
      refine held_take (i := 7) (v := ?_) (some 31) rfl rfl (by kernel_rfl) (by kernel_rfl) (by kernel_rfl) (fun _ _ _ h => h) (Or.inl ⟨by rfl, ?_⟩) hHeld ?_
      rotate_left 1
      · intro w hSw
        (try dsimp only at hSw)
        (first | (go_simp; done) | (go_simp; with_reducible rfl))
      (try simp only [Act.put, List.setIfInBounds_toArray, List.set_cons_zero, List.set_cons_succ])
      refine held_take (i := 8) (v := ?_) (some 32) rfl rfl (by kernel_rfl) (by kernel_rfl) (by kernel_rfl) (fun _ _ _ h => h) (Or.inl ⟨by rfl, ?_⟩) hHeld ?_
      rotate_left 1
      · intro w hSw
        (try dsimp only at hSw)
        (first | (go_simp; done) | (go_simp; with_reducible rfl))
      (try simp only [Act.put, List.setIfInBounds_toArray, List.set_cons_zero, List.set_cons_succ])
      refine held_take (i := 9) (v := ?_) (some 33) rfl rfl (by kernel_rfl) (by kernel_rfl) (by kernel_rfl) (fun _ _ _ h => h) (Or.inl ⟨by rfl, ?_⟩) hHeld ?_
      rotate_left 1
      · intro w hSw
        (try dsimp only at hSw)
        (first | (go_simp; done) | (go_simp; with_reducible rfl))
      (try simp only [Act.put, List.setIfInBounds_toArray, List.set_cons_zero, List.set_cons_succ])
      refine held_take (i := 11) (v := ?_) (some 35) rfl rfl (by kernel_rfl) (by kernel_rfl) (by kernel_rfl) (fun _ _ _ h => h) (Or.inl ⟨by rfl, ?_⟩) hHeld ?_
      rotate_left 1
      · intro w hSw
        (try dsimp only at hSw)
        (first | (go_simp; done) | (go_simp; with_reducible rfl))
      (try simp only [Act.put, List.setIfInBounds_toArray, List.set_cons_zero, List.set_cons_succ])
      refine held_take (i := 12) (v := ?_) (some 36) rfl rfl (by kernel_rfl) (by kernel_rfl) (by kernel_rfl) (fun _ _ _ h => h) (Or.inl ⟨by rfl, ?_⟩) hHeld ?_
      rotate_left 1
      · intro w hSw
        (try dsimp only at hSw)
        (first | (go_simp; done) | (go_simp; with_reducible rfl))
      (try simp only [Act.put, List.setIfInBounds_toArray, List.set_cons_zero, List.set_cons_succ])
      refine held_call (i := 10) rfl (by kernel_rfl) (by rfl) (fun K hK => ?_)
      clear hHeld
      simp only [List.getElem_toArray, List.getElem_cons_succ, List.getElem_cons_zero]
      go_simp
      refine (radd_any _ ra rc a c 12 (by decide) (by decide) (RatD.mono (n := 12) (by first | exact HL.out.da | exact HL.out.da.drew) (by decide)) (RatD.mono (n := 12) (by first | exact HL.out.dc | exact HL.out.dc.drew) (by decide)) (by first | exact HL.out.tz | exact HL.out.drew.tz)).mono ?_
      rintro e wo2 ⟨ro2, rfl, ho2, bo2⟩
      replace HL := Lib.hid (LSt.below (by first | exact HL.out | exact HL.out.drew) bo2)
      clear c0 c1 c2 c3 c4 c5 c6 c7 c8 c9 c10 c11
      obtain ⟨c0, c1, c2, c3, c4, c5, c6, c7, c8, c9, c10, c11⟩ := HL.out.cells
      have Ho2 := Lib.hid ho2.now
      clear ho2
      clear bo2
      (try (go_wp2_with fail))
      refine hK.out _ _ (by first | exact HL.out.cells | exact HL.out.drew.cells) (fun hHeld => ?_)
      clear hK K
      (try simp only [Act.put, List.setIfInBounds_toArray, List.set_cons_zero, List.set_cons_succ])
      refine held_call (i := 13) rfl (by kernel_rfl) (by rfl) (fun K hK => ?_)
      clear hHeld
      simp only [List.getElem_toArray, List.getElem_cons_succ, List.getElem_cons_zero]
      go_simp
      refine (radd_any _ rb rc b c 12 (by decide) (by decide) (RatD.mono (n := 12) (by first | exact HL.out.db | exact HL.out.db.drew) (by decide)) (RatD.mono (n := 12) (by first | exact HL.out.dc | exact HL.out.dc.drew) (by decide)) (by first | exact HL.out.tz | exact HL.out.drew.tz)).mono ?_
      rintro e wo3 ⟨ro3, rfl, ho3, bo3⟩
      replace HL := Lib.hid (LSt.below (by first | exact HL.out | exact HL.out.drew) bo3)
      clear c0 c1 c2 c3 c4 c5 c6 c7 c8 c9 c10 c11
      obtain ⟨c0, c1, c2, c3, c4, c5, c6, c7, c8, c9, c10, c11⟩ := HL.out.cells
      replace Ho2 := Lib.hid (RatN.below (by first | exact Ho2.out | exact Ho2.out.drew) bo3)
      have Ho3 := Lib.hid ho3.now
      clear ho3
      clear bo3
      (try (go_wp2_with fail))
      refine hK.out _ _ (by first | exact HL.out.cells | exact HL.out.drew.cells) (fun hHeld => ?_)
      clear hK K
      (try simp only [Act.put, List.setIfInBounds_toArray, List.set_cons_zero, List.set_cons_succ])
      refine held_call (i := 14) rfl (by kernel_rfl) (by rfl) (fun K hK => ?_)
      clear hHeld
      simp only [List.getElem_toArray, List.getElem_cons_succ, List.getElem_cons_zero]
      go_simp
      refine (Hka.out _ ro2 ro3 (RatN.rat (by first | exact Ho2.out | exact Ho2.out.drew) (Sz.up (Sz.add (n := 12) (m := 12) HSa.out HSc.out) (by decide))) (RatN.rat (by first | exact Ho3.out | exact Ho3.out.drew) (Sz.up (Sz.add (n := 12) (m := 12) HSb.out HSc.out) (by decide)))).mono ?_
      rintro e wo4 ⟨rfl, bo4⟩
      replace HL := Lib.hid (LSt.below (by first | exact HL.out | exact HL.out.drew) bo4)
      clear c0 c1 c2 c3 c4 c5 c6 c7 c8 c9 c10 c11
      obtain ⟨c0, c1, c2, c3, c4, c5, c6, c7, c8, c9, c10, c11⟩ := HL.out.cells
      clear bo4
      (try (go_wp2_with fail))
      refine hK.out _ _ (by first | exact HL.out.cells | exact HL.out.drew.cells) (fun hHeld => ?_)
      clear hK K
      (try simp only [Act.put, List.setIfInBounds_toArray, List.set_cons_zero, List.set_cons_succ])
      refine held_take (i := 15) (v := ?_) (some 39) rfl rfl (by kernel_rfl) (by kernel_rfl) (by kernel_rfl) (fun _ _ _ h => h) (Or.inl ⟨by rfl, ?_⟩) hHeld ?_
      rotate_left 1
      · intro w hSw
        (try dsimp only at hSw)
        (first | (go_simp; done) | (go_simp; with_reducible rfl))
      (try simp only [Act.put, List.setIfInBounds_toArray, List.set_cons_zero, List.set_cons_succ])
      refine held_take (i := 16) (v := ?_) (some 40) rfl rfl (by kernel_rfl) (by kernel_rfl) (by kernel_rfl) (fun _ _ _ h => h) (Or.inl ⟨by rfl, ?_⟩) hHeld ?_
      rotate_left 1
      · intro w hSw
        (try dsimp only at hSw)
        (first | (go_simp; done) | (go_simp; with_reducible rfl))
      (try simp only [Act.put, List.setIfInBounds_toArray, List.set_cons_zero, List.set_cons_succ])
      refine held_take (i := 17) (v := ?_) (some 41) rfl rfl (by kernel_rfl) (by kernel_rfl) (by kernel_rfl) (fun _ _ _ h => h) (Or.inl ⟨by rfl, ?_⟩) hHeld ?_
      rotate_left 1
      · intro w hSw
        (try dsimp only at hSw)
        (first | (go_simp; done) | (go_simp; with_reducible rfl))
      (try simp only [Act.put, List.setIfInBounds_toArray, List.set_cons_zero, List.set_cons_succ])
      refine held_take (i := 18) (v := ?_) (some 42) rfl rfl (by kernel_rfl) (by kernel_rfl) (by kernel_rfl) (fun _ _ _ h => h) (Or.inl ⟨by rfl, ?_⟩) hHeld ?_
      rotate_left 1
      · intro w hSw
        (try dsimp only at hSw)
        (first | (go_simp; done) | (go_simp; with_reducible rfl))
      (try simp only [Act.put, List.setIfInBounds_toArray, List.set_cons_zero, List.set_cons_succ])
      refine held_take (i := 19) (v := ?_) (some 43) rfl rfl (by kernel_rfl) (by kernel_rfl) (by kernel_rfl) (fun _ _ _ h => h) (Or.inl ⟨by rfl, ?_⟩) hHeld ?_
      rotate_left 1
      · intro w hSw
        (try dsimp only at hSw)
        (first | (go_simp; done) | (go_simp; with_reducible rfl))
      (try simp only [Act.put, List.setIfInBounds_toArray, List.set_cons_zero, List.set_cons_succ])
      refine held_take (i := 22) (v := ?_) (some 46) rfl rfl (by kernel_rfl) (by kernel_rfl) (by kernel_rfl) (fun _ _ _ h => h) (Or.inl ⟨by rfl, ?_⟩) hHeld ?_
      rotate_left 1
      · intro w hSw
        (try dsimp only at hSw)
        (first | (go_simp; done) | (go_simp; with_reducible rfl))
      (try simp only [Act.put, List.setIfInBounds_toArray, List.set_cons_zero, List.set_cons_succ])
      refine held_take (i := 23) (v := ?_) (some 47) rfl rfl (by kernel_rfl) (by kernel_rfl) (by kernel_rfl) (fun _ _ _ h => h) (Or.inl ⟨by rfl, ?_⟩) hHeld ?_
      rotate_left 1
      · intro w hSw
        (try dsimp only at hSw)
        (first | (go_simp; done) | (go_simp; with_reducible rfl))
      (try simp only [Act.put, List.setIfInBounds_toArray, List.set_cons_zero, List.set_cons_succ])
      refine held_take (i := 25) (v := ?_) (some 49) rfl rfl (by kernel_rfl) (by kernel_rfl) (by kernel_rfl) (fun _ _ _ h => h) (Or.inl ⟨by rfl, ?_⟩) hHeld ?_
      rotate_left 1
      · intro w hSw
        (try dsimp only at hSw)
        (first | (go_simp; done) | (go_simp; with_reducible rfl))
      (try simp only [Act.put, List.setIfInBounds_toArray, List.set_cons_zero, List.set_cons_succ])
      refine held_take (i := 26) (v := ?_) (some 50) rfl rfl (by kernel_rfl) (by kernel_rfl) (by kernel_rfl) (fun _ _ _ h => h) (Or.inl ⟨by rfl, ?_⟩) hHeld ?_
      rotate_left 1
      · intro w hSw
        (try dsimp only at hSw)
        (first | (go_simp; done) | (go_simp; with_reducible rfl))
      (try simp only [Act.put, List.setIfInBounds_toArray, List.set_cons_zero, List.set_cons_succ])
      refine held_call (i := 20) rfl (by kernel_rfl) (by rfl) (fun K hK => ?_)
      clear hHeld
      simp only [List.getElem_toArray, List.getElem_cons_succ, List.getElem_cons_zero]
      go_simp
      refine (Hs.out _ (RatD.mono (n := 12) (by first | exact HL.out.dc | exact HL.out.dc.drew) (by decide))).mono ?_
      rintro e wo5 ⟨rfl, bo5⟩
      replace HL := Lib.hid (LSt.below (by first | exact HL.out | exact HL.out.drew) bo5)
      clear c0 c1 c2 c3 c4 c5 c6 c7 c8 c9 c10 c11
      obtain ⟨c0, c1, c2, c3, c4, c5, c6, c7, c8, c9, c10, c11⟩ := HL.out.cells
      clear bo5
      (try (go_wp2_with fail))
      refine hK.out _ _ (by first | exact HL.out.cells | exact HL.out.drew.cells) (fun hHeld => ?_)
      clear hK K
      (try simp only [Act.put, List.setIfInBounds_toArray, List.set_cons_zero, List.set_cons_succ])
      refine held_take (i := 21) (v := .int .i64 m) (some 45) rfl rfl (by kernel_rfl) (by kernel_rfl) (by kernel_rfl) (fun _ _ _ h => h) (Or.inl ⟨by rfl, ?_⟩) hHeld ?_
      · intro w hSw
        clear hSw
        go_simp
        (first | done | (simp only [W2.out]))
      (try simp only [Act.put, List.setIfInBounds_toArray, List.set_cons_zero, List.set_cons_succ])
      refine held_call (i := 24) rfl (by kernel_rfl) (by rfl) (fun K hK => ?_)
      clear hHeld
      simp only [List.getElem_toArray, List.getElem_cons_succ, List.getElem_cons_zero]
      go_simp
      refine (rmul_any _ ra rc a c 12 (by decide) (by decide) (RatD.mono (n := 12) (by first | exact HL.out.da | exact HL.out.da.drew) (by decide)) (RatD.mono (n := 12) (by first | exact HL.out.dc | exact HL.out.dc.drew) (by decide)) (by first | exact HL.out.tz | exact HL.out.drew.tz)).mono ?_
      rintro e wo6 ⟨ro6, rfl, ho6, bo6⟩
      replace HL := Lib.hid (LSt.below (by first | exact HL.out | exact HL.out.drew) bo6)
      clear c0 c1 c2 c3 c4 c5 c6 c7 c8 c9 c10 c11
      obtain ⟨c0, c1, c2, c3, c4, c5, c6, c7, c8, c9, c10, c11⟩ := HL.out.cells
      have Ho6 := Lib.hid ho6.now
      clear ho6
      clear bo6
      (try (go_wp2_with fail))
      refine hK.out _ _ (by first | exact HL.out.cells | exact HL.out.drew.cells) (fun hHeld => ?_)
      clear hK K
      (try simp only [Act.put, List.setIfInBounds_toArray, List.set_cons_zero, List.set_cons_succ])
      refine held_call (i := 27) rfl (by kernel_rfl) (by rfl) (fun K hK => ?_)
      clear hHeld
      simp only [List.getElem_toArray, List.getElem_cons_succ, List.getElem_cons_zero]
      go_simp
      refine (rmul_any _ rb rc b c 12 (by decide) (by decide) (RatD.mono (n := 12) (by first | exact HL.out.db | exact HL.out.db.drew) (by decide)) (RatD.mono (n := 12) (by first | exact HL.out.dc | exact HL.out.dc.drew) (by decide)) (by first | exact HL.out.tz | exact HL.out.drew.tz)).mono ?_
      rintro e wo7 ⟨ro7, rfl, ho7, bo7⟩
      replace HL := Lib.hid (LSt.below (by first | exact HL.out | exact HL.out.drew) bo7)
      clear c0 c1 c2 c3 c4 c5 c6 c7 c8 c9 c10 c11
      obtain ⟨c0, c1, c2, c3, c4, c5, c6, c7, c8, c9, c10, c11⟩ := HL.out.cells
      replace Ho6 := Lib.hid (RatN.below (by first | exact Ho6.out | exact Ho6.out.drew) bo7)
      have Ho7 := Lib.hid ho7.now
      clear ho7
      clear bo7
      (try (go_wp2_with fail))
      refine hK.out _ _ (by first | exact HL.out.cells | exact HL.out.drew.cells) (fun hHeld => ?_)
      clear hK K
      (try simp only [Act.put, List.setIfInBounds_toArray, List.set_cons_zero, List.set_cons_succ])
      refine held_call (i := 28) rfl (by kernel_rfl) (by rfl) (fun K hK => ?_)
      clear hHeld
      simp only [List.getElem_toArray, List.getElem_cons_succ, List.getElem_cons_zero]
      go_simp
      refine (Hm.out _ ro6 ro7 (RatN.rat (by first | exact Ho6.out | exact Ho6.out.drew) (Sz.up (Sz.mul (n := 12) (m := 12) HSa.out HSc.out) (by decide))) (RatN.rat (by first | exact Ho7.out | exact Ho7.out.drew) (Sz.up (Sz.mul (n := 12) (m := 12) HSb.out HSc.out) (by decide)))).mono ?_
      rintro e wo8 ⟨rfl, bo8⟩
      replace HL := Lib.hid (LSt.below (by first | exact HL.out | exact HL.out.drew) bo8)
      clear c0 c1 c2 c3 c4 c5 c6 c7 c8 c9 c10 c11
      obtain ⟨c0, c1, c2, c3, c4, c5, c6, c7, c8, c9, c10, c11⟩ := HL.out.cells
      clear bo8
      (try (go_wp2_with fail))
      refine hK.out _ _ (by first | exact HL.out.cells | exact HL.out.drew.cells) (fun hHeld => ?_)
      clear hK K
      (try simp only [Act.put, List.setIfInBounds_toArray, List.set_cons_zero, List.set_cons_succ])
      refine held_take (i := 29) (v := ?_) (some 53) rfl rfl (by kernel_rfl) (by kernel_rfl) (by kernel_rfl) (fun _ _ _ h => h) (Or.inl ⟨by rfl, ?_⟩) hHeld ?_
      rotate_left 1
      · intro w hSw
        (try dsimp only at hSw)
        (first | (go_simp; done) | (go_simp; with_reducible rfl))
      (try simp only [Act.put, List.setIfInBounds_toArray, List.set_cons_zero, List.set_cons_succ])
      refine held_take (i := 30) (v := ?_) (some 54) rfl rfl (by kernel_rfl) (by kernel_rfl) (by kernel_rfl) (fun _ _ _ h => h) (Or.inl ⟨by rfl, ?_⟩) hHeld ?_
      rotate_left 1
      · intro w hSw
        (try dsimp only at hSw)
        (first | (go_simp; done) | (go_simp; with_reducible rfl))
      (try simp only [Act.put, List.setIfInBounds_toArray, List.set_cons_zero, List.set_cons_succ])
      refine held_take (i := 31) (v := ?_) (some 55) rfl rfl (by kernel_rfl) (by kernel_rfl) (by kernel_rfl) (fun _ _ _ h => h) (Or.inl ⟨by rfl, ?_⟩) hHeld ?_
      rotate_left 1
      · intro w hSw
        (try dsimp only at hSw)
        (first | (go_simp; done) | (go_simp; with_reducible rfl))
      (try simp only [Act.put, List.setIfInBounds_toArray, List.set_cons_zero, List.set_cons_succ])
      refine held_take (i := 32) (v := ?_) (some 56) rfl rfl (by kernel_rfl) (by kernel_rfl) (by kernel_rfl) (fun _ _ _ h => h) (Or.inl ⟨by rfl, ?_⟩) hHeld ?_
      rotate_left 1
      · intro w hSw
        (try dsimp only at hSw)
        (first | (go_simp; done) | (go_simp; with_reducible rfl))
      (try simp only [Act.put, List.setIfInBounds_toArray, List.set_cons_zero, List.set_cons_succ])
      by_cases hp : 0 < k
      · have hp' : decide (0 < k) = true := decide_eq_true hp
        refine held_take (i := 33) (v := .bool true) (some 57) rfl rfl (by kernel_rfl) (by kernel_rfl) (by kernel_rfl) (fun _ _ _ h => h) (Or.inl ⟨by rfl, ?_⟩) hHeld ?_
        · intro w hSw
          clear hSw
          go_simp
          (first | done | (simp [hp]))
        (try simp only [Act.put, List.setIfInBounds_toArray, List.set_cons_zero, List.set_cons_succ])
        refine held_take (i := 34) (v := ?_) (some 58) rfl rfl (by kernel_rfl) (by kernel_rfl) (by kernel_rfl) (fun _ _ _ h => h) (Or.inl ⟨by rfl, ?_⟩) hHeld ?_
        rotate_left 1
        · intro w hSw
          (try dsimp only at hSw)
          (first | (go_simp; done) | (go_simp; with_reducible rfl))
        (try simp only [Act.put, List.setIfInBounds_toArray, List.set_cons_zero, List.set_cons_succ])
        refine held_take (i := 35) (v := undef) (some 59) rfl rfl (by kernel_rfl) (by kernel_rfl) (by kernel_rfl) (fun _ _ _ h => h) (Or.inr ⟨by rfl, rfl⟩) hHeld ?_
        (try simp only [Act.put, List.setIfInBounds_toArray, List.set_cons_zero, List.set_cons_succ])
        refine held_take (i := 36) (v := undef) (some 60) rfl rfl (by kernel_rfl) (by kernel_rfl) (by kernel_rfl) (fun _ _ _ h => h) (Or.inr ⟨by rfl, rfl⟩) hHeld ?_
        (try simp only [Act.put, List.setIfInBounds_toArray, List.set_cons_zero, List.set_cons_succ])
        refine held_skip (i := 37) (some 61) rfl rfl (by kernel_rfl) (by rfl) hHeld ?_
        (try simp only [Act.put, List.setIfInBounds_toArray, List.set_cons_zero, List.set_cons_succ])
        refine held_take (i := 38) (v := undef) (some 62) rfl rfl (by kernel_rfl) (by kernel_rfl) (by kernel_rfl) (fun _ _ _ h => h) (Or.inr ⟨by rfl, rfl⟩) hHeld ?_
        (try simp only [Act.put, List.setIfInBounds_toArray, List.set_cons_zero, List.set_cons_succ])
        refine held_take (i := 39) (v := ?_) (some 63) rfl rfl (by kernel_rfl) (by kernel_rfl) (by kernel_rfl) (fun _ _ _ h => h) (Or.inl ⟨by rfl, ?_⟩) hHeld ?_
        rotate_left 1
        · intro w hSw
          (try dsimp only at hSw)
          (first | (go_simp; done) | (go_simp; with_reducible rfl))
        (try simp only [Act.put, List.setIfInBounds_toArray, List.set_cons_zero, List.set_cons_succ])
        refine held_take (i := 40) (v := ?_) (some 64) rfl rfl (by kernel_rfl) (by kernel_rfl) (by kernel_rfl) (fun _ _ _ h => h) (Or.inl ⟨by rfl, ?_⟩) hHeld ?_
        rotate_left 1
        · intro w hSw
          (try dsimp only at hSw)
          (first | (go_simp; done) | (go_simp; with_reducible rfl))
        (try simp only [Act.put, List.setIfInBounds_toArray, List.set_cons_zero, List.set_cons_succ])
        refine held_take (i := 41) (v := undef) (some 65) rfl rfl (by kernel_rfl) (by kernel_rfl) (by kernel_rfl) (fun _ _ _ h => h) (Or.inr ⟨by rfl, rfl⟩) hHeld ?_
        (try simp only [Act.put, List.setIfInBounds_toArray, List.set_cons_zero, List.set_cons_succ])
        refine held_take (i := 42) (v := undef) (some 66) rfl rfl (by kernel_rfl) (by kernel_rfl) (by kernel_rfl) (fun _ _ _ h => h) (Or.inr ⟨by rfl, rfl⟩) hHeld ?_
        (try simp only [Act.put, List.setIfInBounds_toArray, List.set_cons_zero, List.set_cons_succ])
        refine held_skip (i := 43) (some 67) rfl rfl (by kernel_rfl) (by rfl) hHeld ?_
        (try simp only [Act.put, List.setIfInBounds_toArray, List.set_cons_zero, List.set_cons_succ])
        refine held_take (i := 44) (v := undef) (some 68) rfl rfl (by kernel_rfl) (by kernel_rfl) (by kernel_rfl) (fun _ _ _ h => h) (Or.inr ⟨by rfl, rfl⟩) hHeld ?_
        (try simp only [Act.put, List.setIfInBounds_toArray, List.set_cons_zero, List.set_cons_succ])
        refine held_take (i := 45) (v := ?_) (some 69) rfl rfl (by kernel_rfl) (by kernel_rfl) (by kernel_rfl) (fun _ _ _ h => h) (Or.inl ⟨by rfl, ?_⟩) hHeld ?_
        rotate_left 1
        · intro w hSw
          (try dsimp only at hSw)
          (first | (go_simp; done) | (go_simp; with_reducible rfl))
        (try simp only [Act.put, List.setIfInBounds_toArray, List.set_cons_zero, List.set_cons_succ])
        refine held_take (i := 46) (v := ?_) (some 70) rfl rfl (by kernel_rfl) (by kernel_rfl) (by kernel_rfl) (fun _ _ _ h => h) (Or.inl ⟨by rfl, ?_⟩) hHeld ?_
        rotate_left 1
        · intro w hSw
          (try dsimp only at hSw)
          (first | (go_simp; done) | (go_simp; with_reducible rfl))
        (try simp only [Act.put, List.setIfInBounds_toArray, List.set_cons_zero, List.set_cons_succ])
        refine held_take (i := 47) (v := ?_) (some 8) rfl rfl (by kernel_rfl) (by kernel_rfl) (by kernel_rfl) (fun _ _ _ h => h) (Or.inl ⟨by rfl, ?_⟩) hHeld ?_
        rotate_left 1
        · intro w hSw
          (try dsimp only at hSw)
          (first | (go_simp; done) | (go_simp; with_reducible rfl))
        (try simp only [Act.put, List.setIfInBounds_toArray, List.set_cons_zero, List.set_cons_succ])
        refine wpAnyH_done (by kernel_rfl) ?_ _
        refine NoPanic.normal ?_
        all_goals
          go_wp2_with fail
          go_meet
          exact ⟨rfl, by first | exact HL.out | exact HL.out.drew⟩
      · by_cases hq : 0 < k3
        · skip
          refine held_take (i := 33) (v := .bool false) (some 57) rfl rfl (by kernel_rfl) (by kernel_rfl) (by kernel_rfl) (fun _ _ _ h => h) (Or.inl ⟨by rfl, ?_⟩) hHeld ?_
          · intro w hSw
            clear hSw
            go_simp
            (first | done | (simp; omega))
          (try simp only [Act.put, List.setIfInBounds_toArray, List.set_cons_zero, List.set_cons_succ])
          refine held_take (i := 34) (v := ?_) (some 58) rfl rfl (by kernel_rfl) (by kernel_rfl) (by kernel_rfl) (fun _ _ _ h => h) (Or.inl ⟨by rfl, ?_⟩) hHeld ?_
          rotate_left 1
          · intro w hSw
            (try dsimp only at hSw)
            (first | (go_simp; done) | (go_simp; with_reducible rfl))
          (try simp only [Act.put, List.setIfInBounds_toArray, List.set_cons_zero, List.set_cons_succ])
          refine held_take (i := 35) (v := ?_) (some 59) rfl rfl (by kernel_rfl) (by kernel_rfl) (by kernel_rfl) (fun _ _ _ h => h) (Or.inl ⟨by rfl, ?_⟩) hHeld ?_
          rotate_left 1
          · intro w hSw
            (try dsimp only at hSw)
            (first | (go_simp; done) | (go_simp; with_reducible rfl))
          (try simp only [Act.put, List.setIfInBounds_toArray, List.set_cons_zero, List.set_cons_succ])
          refine held_take (i := 36) (v := ?_) (some 60) rfl rfl (by kernel_rfl) (by kernel_rfl) (by kernel_rfl) (fun _ _ _ h => h) (Or.inl ⟨by rfl, ?_⟩) hHeld ?_
          rotate_left 1
          · intro w hSw
            (try dsimp only at hSw)
            (first | (go_simp; done) | (go_simp; with_reducible rfl))
          (try simp only [Act.put, List.setIfInBounds_toArray, List.set_cons_zero, List.set_cons_succ])
          refine held_call (i := 37) rfl (by kernel_rfl) (by rfl) (fun K hK => ?_)
          clear hHeld
          simp only [List.getElem_toArray, List.getElem_cons_succ, List.getElem_cons_zero]
          go_simp
          refine (Hk3.out _ rb rc (RatD.mono (n := 12) (by first | exact HL.out.db | exact HL.out.db.drew) (by decide)) (RatD.mono (n := 12) (by first | exact HL.out.dc | exact HL.out.dc.drew) (by decide))).mono ?_
          rintro e wo9 ⟨rfl, bo9⟩
          replace HL := Lib.hid (LSt.below (by first | exact HL.out | exact HL.out.drew) bo9)
          clear c0 c1 c2 c3 c4 c5 c6 c7 c8 c9 c10 c11
          obtain ⟨c0, c1, c2, c3, c4, c5, c6, c7, c8, c9, c10, c11⟩ := HL.out.cells
          clear bo9
          (try (go_wp2_with fail))
          refine hK.out _ _ (by first | exact HL.out.cells | exact HL.out.drew.cells) (fun hHeld => ?_)
          clear hK K
          (try simp only [Act.put, List.setIfInBounds_toArray, List.set_cons_zero, List.set_cons_succ])
          refine held_take (i := 38) (v := .bool true) (some 62) rfl rfl (by kernel_rfl) (by kernel_rfl) (by kernel_rfl) (fun _ _ _ h => h) (Or.inl ⟨by rfl, ?_⟩) hHeld ?_
          · intro w hSw
            clear hSw
            go_simp
            (first | done | (simp [hq]))
          (try simp only [Act.put, List.setIfInBounds_toArray, List.set_cons_zero, List.set_cons_succ])
          refine held_take (i := 39) (v := ?_) (some 63) rfl rfl (by kernel_rfl) (by kernel_rfl) (by kernel_rfl) (fun _ _ _ h => h) (Or.inl ⟨by rfl, ?_⟩) hHeld ?_
          rotate_left 1
          · intro w hSw
            (try dsimp only at hSw)
            (first | (go_simp; done) | (go_simp; with_reducible rfl))
          (try simp only [Act.put, List.setIfInBounds_toArray, List.set_cons_zero, List.set_cons_succ])
          refine held_take (i := 40) (v := ?_) (some 64) rfl rfl (by kernel_rfl) (by kernel_rfl) (by kernel_rfl) (fun _ _ _ h => h) (Or.inl ⟨by rfl, ?_⟩) hHeld ?_
          rotate_left 1
          · intro w hSw
            (try dsimp only at hSw)
            (first | (go_simp; done) | (go_simp; with_reducible rfl))
          (try simp only [Act.put, List.setIfInBounds_toArray, List.set_cons_zero, List.set_cons_succ])
          refine held_take (i := 41) (v := undef) (some 65) rfl rfl (by kernel_rfl) (by kernel_rfl) (by kernel_rfl) (fun _ _ _ h => h) (Or.inr ⟨by rfl, rfl⟩) hHeld ?_
          (try simp only [Act.put, List.setIfInBounds_toArray, List.set_cons_zero, List.set_cons_succ])
          refine held_take (i := 42) (v := undef) (some 66) rfl rfl (by kernel_rfl) (by kernel_rfl) (by kernel_rfl) (fun _ _ _ h => h) (Or.inr ⟨by rfl, rfl⟩) hHeld ?_
          (try simp only [Act.put, List.setIfInBounds_toArray, List.set_cons_zero, List.set_cons_succ])
          refine held_skip (i := 43) (some 67) rfl rfl (by kernel_rfl) (by rfl) hHeld ?_
          (try simp only [Act.put, List.setIfInBounds_toArray, List.set_cons_zero, List.set_cons_succ])
          refine held_take (i := 44) (v := undef) (some 68) rfl rfl (by kernel_rfl) (by kernel_rfl) (by kernel_rfl) (fun _ _ _ h => h) (Or.inr ⟨by rfl, rfl⟩) hHeld ?_
          (try simp only [Act.put, List.setIfInBounds_toArray, List.set_cons_zero, List.set_cons_succ])
          refine held_take (i := 45) (v := ?_) (some 69) rfl rfl (by kernel_rfl) (by kernel_rfl) (by kernel_rfl) (fun _ _ _ h => h) (Or.inl ⟨by rfl, ?_⟩) hHeld ?_
          rotate_left 1
          · intro w hSw
            (try dsimp only at hSw)
            (first | (go_simp; done) | (go_simp; with_reducible rfl))
          (try simp only [Act.put, List.setIfInBounds_toArray, List.set_cons_zero, List.set_cons_succ])
          refine held_take (i := 46) (v := ?_) (some 70) rfl rfl (by kernel_rfl) (by kernel_rfl) (by kernel_rfl) (fun _ _ _ h => h) (Or.inl ⟨by rfl, ?_⟩) hHeld ?_
          rotate_left 1
          · intro w hSw
            (try dsimp only at hSw)
            (first | (go_simp; done) | (go_simp; with_reducible rfl))
          (try simp only [Act.put, List.setIfInBounds_toArray, List.set_cons_zero, List.set_cons_succ])
          refine held_take (i := 47) (v := ?_) (some 8) rfl rfl (by kernel_rfl) (by kernel_rfl) (by kernel_rfl) (fun _ _ _ h => h) (Or.inl ⟨by rfl, ?_⟩) hHeld ?_
          rotate_left 1
          · intro w hSw
            (try dsimp only at hSw)
            (first | (go_simp; done) | (go_simp; with_reducible rfl))
          (try simp only [Act.put, List.setIfInBounds_toArray, List.set_cons_zero, List.set_cons_succ])
          refine wpAnyH_done (by kernel_rfl) ?_ _
          refine NoPanic.normal ?_
          all_goals
            go_wp2_with fail
            go_meet
            exact ⟨rfl, by first | exact HL.out | exact HL.out.drew⟩
        · have hr : k4 ≤ 0 := W3.out (by omega) (by omega)
          refine held_take (i := 33) (v := .bool false) (some 57) rfl rfl (by kernel_rfl) (by kernel_rfl) (by kernel_rfl) (fun _ _ _ h => h) (Or.inl ⟨by rfl, ?_⟩) hHeld ?_
          · intro w hSw
            clear hSw
            go_simp
            (first | done | (simp; omega))
          (try simp only [Act.put, List.setIfInBounds_toArray, List.set_cons_zero, List.set_cons_succ])
          refine held_take (i := 34) (v := ?_) (some 58) rfl rfl (by kernel_rfl) (by kernel_rfl) (by kernel_rfl) (fun _ _ _ h => h) (Or.inl ⟨by rfl, ?_⟩) hHeld ?_
          rotate_left 1
          · intro w hSw
            (try dsimp only at hSw)
            (first | (go_simp; done) | (go_simp; with_reducible rfl))
          (try simp only [Act.put, List.setIfInBounds_toArray, List.set_cons_zero, List.set_cons_succ])
          refine held_take (i := 35) (v := ?_) (some 59) rfl rfl (by kernel_rfl) (by kernel_rfl) (by kernel_rfl) (fun _ _ _ h => h) (Or.inl ⟨by rfl, ?_⟩) hHeld ?_
          rotate_left 1
          · intro w hSw
            (try dsimp only at hSw)
            (first | (go_simp; done) | (go_simp; with_reducible rfl))
          (try simp only [Act.put, List.setIfInBounds_toArray, List.set_cons_zero, List.set_cons_succ])
          refine held_take (i := 36) (v := ?_) (some 60) rfl rfl (by kernel_rfl) (by kernel_rfl) (by kernel_rfl) (fun _ _ _ h => h) (Or.inl ⟨by rfl, ?_⟩) hHeld ?_
          rotate_left 1
          · intro w hSw
            (try dsimp only at hSw)
            (first | (go_simp; done) | (go_simp; with_reducible rfl))
          (try simp only [Act.put, List.setIfInBounds_toArray, List.set_cons_zero, List.set_cons_succ])
          refine held_call (i := 37) rfl (by kernel_rfl) (by rfl) (fun K hK => ?_)
          clear hHeld
          simp only [List.getElem_toArray, List.getElem_cons_succ, List.getElem_cons_zero]
          go_simp
          refine (Hk3.out _ rb rc (RatD.mono (n := 12) (by first | exact HL.out.db | exact HL.out.db.drew) (by decide)) (RatD.mono (n := 12) (by first | exact HL.out.dc | exact HL.out.dc.drew) (by decide))).mono ?_
          rintro e wo9 ⟨rfl, bo9⟩
          replace HL := Lib.hid (LSt.below (by first | exact HL.out | exact HL.out.drew) bo9)
          clear c0 c1 c2 c3 c4 c5 c6 c7 c8 c9 c10 c11
          obtain ⟨c0, c1, c2, c3, c4, c5, c6, c7, c8, c9, c10, c11⟩ := HL.out.cells
          clear bo9
          (try (go_wp2_with fail))
          refine hK.out _ _ (by first | exact HL.out.cells | exact HL.out.drew.cells) (fun hHeld => ?_)
          clear hK K
          (try simp only [Act.put, List.setIfInBounds_toArray, List.set_cons_zero, List.set_cons_succ])
          refine held_take (i := 38) (v := .bool false) (some 62) rfl rfl (by kernel_rfl) (by kernel_rfl) (by kernel_rfl) (fun _ _ _ h => h) (Or.inl ⟨by rfl, ?_⟩) hHeld ?_
          · intro w hSw
            clear hSw
            go_simp
            (first | done | (simp; omega))
          (try simp only [Act.put, List.setIfInBounds_toArray, List.set_cons_zero, List.set_cons_succ])
          refine held_take (i := 39) (v := ?_) (some 63) rfl rfl (by kernel_rfl) (by kernel_rfl) (by kernel_rfl) (fun _ _ _ h => h) (Or.inl ⟨by rfl, ?_⟩) hHeld ?_
          rotate_left 1
          · intro w hSw
            (try dsimp only at hSw)
            (first | (go_simp; done) | (go_simp; with_reducible rfl))
          (try simp only [Act.put, List.setIfInBounds_toArray, List.set_cons_zero, List.set_cons_succ])
          refine held_take (i := 40) (v := ?_) (some 64) rfl rfl (by kernel_rfl) (by kernel_rfl) (by kernel_rfl) (fun _ _ _ h => h) (Or.inl ⟨by rfl, ?_⟩) hHeld ?_
          rotate_left 1
          · intro w hSw
            (try dsimp only at hSw)
            (first | (go_simp; done) | (go_simp; with_reducible rfl))
          (try simp only [Act.put, List.setIfInBounds_toArray, List.set_cons_zero, List.set_cons_succ])
          refine held_take (i := 41) (v := ?_) (some 65) rfl rfl (by kernel_rfl) (by kernel_rfl) (by kernel_rfl) (fun _ _ _ h => h) (Or.inl ⟨by rfl, ?_⟩) hHeld ?_
          rotate_left 1
          · intro w hSw
            (try dsimp only at hSw)
            (first | (go_simp; done) | (go_simp; with_reducible rfl))
          (try simp only [Act.put, List.setIfInBounds_toArray, List.set_cons_zero, List.set_cons_succ])
          refine held_take (i := 42) (v := ?_) (some 66) rfl rfl (by kernel_rfl) (by kernel_rfl) (by kernel_rfl) (fun _ _ _ h => h) (Or.inl ⟨by rfl, ?_⟩) hHeld ?_
          rotate_left 1
          · intro w hSw
            (try dsimp only at hSw)
            (first | (go_simp; done) | (go_simp; with_reducible rfl))
          (try simp only [Act.put, List.setIfInBounds_toArray, List.set_cons_zero, List.set_cons_succ])
          refine held_call (i := 43) rfl (by kernel_rfl) (by rfl) (fun K hK => ?_)
          clear hHeld
          simp only [List.getElem_toArray, List.getElem_cons_succ, List.getElem_cons_zero]
          go_simp
          refine (Hk4.out _ ra rc (RatD.mono (n := 12) (by first | exact HL.out.da | exact HL.out.da.drew) (by decide)) (RatD.mono (n := 12) (by first | exact HL.out.dc | exact HL.out.dc.drew) (by decide))).mono ?_
          rintro e wo10 ⟨rfl, bo10⟩
          replace HL := Lib.hid (LSt.below (by first | exact HL.out | exact HL.out.drew) bo10)
          clear c0 c1 c2 c3 c4 c5 c6 c7 c8 c9 c10 c11
          obtain ⟨c0, c1, c2, c3, c4, c5, c6, c7, c8, c9, c10, c11⟩ := HL.out.cells
          clear bo10
          (try (go_wp2_with fail))
          refine hK.out _ _ (by first | exact HL.out.cells | exact HL.out.drew.cells) (fun hHeld => ?_)
          clear hK K
          (try simp only [Act.put, List.setIfInBounds_toArray, List.set_cons_zero, List.set_cons_succ])
          refine held_take (i := 44) (v := .bool true) (some 68) rfl rfl (by kernel_rfl) (by kernel_rfl) (by kernel_rfl) (fun _ _ _ h => h) (Or.inl ⟨by rfl, ?_⟩) hHeld ?_
          · intro w hSw
            clear hSw
            go_simp
            (first | done | (simp [hr]))
          (try simp only [Act.put, List.setIfInBounds_toArray, List.set_cons_zero, List.set_cons_succ])
          refine held_take (i := 45) (v := ?_) (some 69) rfl rfl (by kernel_rfl) (by kernel_rfl) (by kernel_rfl) (fun _ _ _ h => h) (Or.inl ⟨by rfl, ?_⟩) hHeld ?_
          rotate_left 1
          · intro w hSw
            (try dsimp only at hSw)
            (first | (go_simp; done) | (go_simp; with_reducible rfl))
          (try simp only [Act.put, List.setIfInBounds_toArray, List.set_cons_zero, List.set_cons_succ])
          refine held_take (i := 46) (v := ?_) (some 70) rfl rfl (by kernel_rfl) (by kernel_rfl) (by kernel_rfl) (fun _ _ _ h => h) (Or.inl ⟨by rfl, ?_⟩) hHeld ?_
          rotate_left 1
          · intro w hSw
            (try dsimp only at hSw)
            (first | (go_simp; done) | (go_simp; with_reducible rfl))
          (try simp only [Act.put, List.setIfInBounds_toArray, List.set_cons_zero, List.set_cons_succ])
          refine held_take (i := 47) (v := ?_) (some 8) rfl rfl (by kernel_rfl) (by kernel_rfl) (by kernel_rfl) (fun _ _ _ h => h) (Or.inl ⟨by rfl, ?_⟩) hHeld ?_
          rotate_left 1
          · intro w hSw
            (try dsimp only at hSw)
            (first | (go_simp; done) | (go_simp; with_reducible rfl))
          (try simp only [Act.put, List.setIfInBounds_toArray, List.set_cons_zero, List.set_cons_succ])
          refine wpAnyH_done (by kernel_rfl) ?_ _
          refine NoPanic.normal ?_
          all_goals
            go_wp2_with fail
            go_meet
            exact ⟨rfl, by first | exact HL.out | exact HL.out.drew⟩
  case rest =>
    obtain ⟨rfl, hL⟩ := hcut
    have HL := Lib.hid hL
    obtain ⟨c0, c1, c2, c3, c4, c5, c6, c7, c8, c9, c10, c11⟩ := hL.cells
    clear hL
    go_upto_region 5 with fail
    go_cut [9] (fun v wx => v = .bool true ∧ LSt w wx ra rb rc a b c 12)
    case first =>
      as_aux_lemma =>
        refine wp_region_noPanic ?_
        refine wp_region_held_drew (S := (fun W => W.cell? ⟨w.heap.size, 0, none⟩ = some (.bool ra.num.neg) ∧ W.cell? ⟨w.heap.size, 1, none⟩ = some (.slice ra.num.A ra.num.k ra.num.c) ∧ W.cell? ⟨w.heap.size, 2, none⟩ = some (.bool ra.den.neg) ∧ W.cell? ⟨w.heap.size, 3, none⟩ = some (.slice ra.den.A ra.den.k ra.den.c) ∧ W.cell? ⟨w.heap.size + 1, 0, none⟩ = some (.bool rb.num.neg) ∧ W.cell? ⟨w.heap.size + 1, 1, none⟩ = some (.slice rb.num.A rb.num.k rb.num.c) ∧ W.cell? ⟨w.heap.size + 1, 2, none⟩ = some (.bool rb.den.neg) ∧ W.cell? ⟨w.heap.size + 1, 3, none⟩ = some (.slice rb.den.A rb.den.k rb.den.c) ∧ W.cell? ⟨w.heap.size + 1 + 1, 0, none⟩ = some (.bool rc.num.neg) ∧ W.cell? ⟨w.heap.size + 1 + 1, 1, none⟩ = some (.slice rc.num.A rc.num.k rc.num.c) ∧ W.cell? ⟨w.heap.size + 1 + 1, 2, none⟩ = some (.bool rc.den.neg) ∧ W.cell? ⟨w.heap.size + 1 + 1, 3, none⟩ = some (.slice rc.den.A rc.den.k rc.den.c))) (by kernel_rfl) (by first | exact HL.out.cells | exact HL.out.drew.cells) (fun hHeld => ?_)
        refine held_take (i := 0) (v := ?_) (some 71) rfl rfl (by kernel_rfl) (by kernel_rfl) (by kernel_rfl) (fun _ _ _ h => h) (Or.inl ⟨by rfl, ?_⟩) hHeld ?_
        rotate_left 1
        · intro w hSw
          (try dsimp only at hSw)
          (first | (go_simp; done) | (go_simp; with_reducible rfl))
        (try simp only [Act.put, List.setIfInBounds_toArray, List.set_cons_zero, List.set_cons_succ])
        refine held_take (i := 1) (v := ?_) (some 72) rfl rfl (by kernel_rfl) (by kernel_rfl) (by kernel_rfl) (fun _ _ _ h => h) (Or.inl ⟨by rfl, ?_⟩) hHeld ?_
        rotate_left 1
        · intro w hSw
          (try dsimp only at hSw)
          (first | (go_simp; done) | (go_simp; with_reducible rfl))
        (try simp only [Act.put, List.setIfInBounds_toArray, List.set_cons_zero, List.set_cons_succ])
        refine held_take (i := 3) (v := ?_) (some 74) rfl rfl (by kernel_rfl) (by kernel_rfl) (by kernel_rfl) (fun _ _ _ h => h) (Or.inl ⟨by rfl, ?_⟩) hHeld ?_
        rotate_left 1
        · intro w hSw
          (try dsimp only at hSw)
          (first | (go_simp; done) | (go_simp; with_reducible rfl))
        (try simp only [Act.put, List.setIfInBounds_toArray, List.set_cons_zero, List.set_cons_succ])
        refine held_take (i := 4) (v := ?_) (some 75) rfl rfl (by kernel_rfl) (by kernel_rfl) (by kernel_rfl) (fun _ _ _ h => h) (Or.inl ⟨by rfl, ?_⟩) hHeld ?_
        rotate_left 1
        · intro w hSw
          (try dsimp only at hSw)
          (first | (go_simp; done) | (go_simp; with_reducible rfl))
        (try simp only [Act.put, List.setIfInBounds_toArray, List.set_cons_zero, List.set_cons_succ])
        refine held_take (i := 7) (v := ?_) (some 78) rfl rfl (by kernel_rfl) (by kernel_rfl) (by kernel_rfl) (fun _ _ _ h => h) (Or.inl ⟨by rfl, ?_⟩) hHeld ?_
        rotate_left 1
        · intro w hSw
          (try dsimp only at hSw)
          (first | (go_simp; done) | (go_simp; with_reducible rfl))
        (try simp only [Act.put, List.setIfInBounds_toArray, List.set_cons_zero, List.set_cons_succ])
        refine held_take (i := 8) (v := ?_) (some 79) rfl rfl (by kernel_rfl) (by kernel_rfl) (by kernel_rfl) (fun _ _ _ h => h) (Or.inl ⟨by rfl, ?_⟩) hHeld ?_
        rotate_left 1
        · intro w hSw
          (try dsimp only at hSw)
          (first | (go_simp; done) | (go_simp; with_reducible rfl))
        (try simp only [Act.put, List.setIfInBounds_toArray, List.set_cons_zero, List.set_cons_succ])
        refine held_call (i := 2) rfl (by kernel_rfl) (by rfl) (fun K hK => ?_)
        clear hHeld
        simp only [List.getElem_toArray, List.getElem_cons_succ, List.getElem_cons_zero]
        go_simp
        refine (rmax_any _ ra rb a b 12 (by decide) (by decide) (RatD.mono (n := 12) (by first | exact HL.out.da | exact HL.out.da.drew) (by decide)) (RatD.mono (n := 12) (by first | exact HL.out.db | exact HL.out.db.drew) (by decide)) (by first | exact HL.out.tz | exact HL.out.drew.tz)).mono ?_
        rintro e we1 ⟨re1, rfl, he1, be1⟩
        replace HL := Lib.hid (LSt.below (by first | exact HL.out | exact HL.out.drew) be1)
        clear c0 c1 c2 c3 c4 c5 c6 c7 c8 c9 c10 c11
        obtain ⟨c0, c1, c2, c3, c4, c5, c6, c7, c8, c9, c10, c11⟩ := HL.out.cells
        have He1 := Lib.hid he1.now
        clear he1
        clear be1
        (try (go_wp2_with fail))
        refine hK.out _ _ (by first | exact HL.out.cells | exact HL.out.drew.cells) (fun hHeld => ?_)
        clear hK K
        (try simp only [Act.put, List.setIfInBounds_toArray, List.set_cons_zero, List.set_cons_succ])
        refine held_call (i := 5) rfl (by kernel_rfl) (by rfl) (fun K hK => ?_)
        clear hHeld
        simp only [List.getElem_toArray, List.getElem_cons_succ, List.getElem_cons_zero]
        go_simp
        refine (rmin_any _ ra rb a b 12 (by decide) (by decide) (RatD.mono (n := 12) (by first | exact HL.out.da | exact HL.out.da.drew) (by decide)) (RatD.mono (n := 12) (by first | exact HL.out.db | exact HL.out.db.drew) (by decide)) (by first | exact HL.out.tz | exact HL.out.drew.tz)).mono ?_
        rintro e we2 ⟨re2, rfl, he2, be2⟩
        replace HL := Lib.hid (LSt.below (by first | exact HL.out | exact HL.out.drew) be2)
        clear c0 c1 c2 c3 c4 c5 c6 c7 c8 c9 c10 c11
        obtain ⟨c0, c1, c2, c3, c4, c5, c6, c7, c8, c9, c10, c11⟩ := HL.out.cells
        replace He1 := Lib.hid (RatN.below (by first | exact He1.out | exact He1.out.drew) be2)
        have He2 := Lib.hid he2.now
        clear he2
        clear be2
        (try (go_wp2_with fail))
        refine hK.out _ _ (by first | exact HL.out.cells | exact HL.out.drew.cells) (fun hHeld => ?_)
        clear hK K
        (try simp only [Act.put, List.setIfInBounds_toArray, List.set_cons_zero, List.set_cons_succ])
        refine held_call (i := 6) rfl (by kernel_rfl) (by rfl) (fun K hK => ?_)
        clear hHeld
        simp only [List.getElem_toArray, List.getElem_cons_succ, List.getElem_cons_zero]
        go_simp
        refine (radd_any _ re1 re2 (maxQ a b) (minQ a b) 12 (by decide) (by decide) (RatN.rat (by first | exact He1.out | exact He1.out.drew) (Sz.up (Sz.max HSa.out HSb.out) (by decide))) (RatN.rat (by first | exact He2.out | exact He2.out.drew) (Sz.up (Sz.min HSa.out HSb.out) (by decide))) (by first | exact HL.out.tz | exact HL.out.drew.tz)).mono ?_
        rintro e we3 ⟨re3, rfl, he3, be3⟩
        replace HL := Lib.hid (LSt.below (by first | exact HL.out | exact HL.out.drew) be3)
        clear c0 c1 c2 c3 c4 c5 c6 c7 c8 c9 c10 c11
        obtain ⟨c0, c1, c2, c3, c4, c5, c6, c7, c8, c9, c10, c11⟩ := HL.out.cells
        have He3 := Lib.hid he3.now
        clear he3
        clear be3
        (try (go_wp2_with fail))
        refine hK.out _ _ (by first | exact HL.out.cells | exact HL.out.drew.cells) (fun hHeld => ?_)
        clear hK K
        (try simp only [Act.put, List.setIfInBounds_toArray, List.set_cons_zero, List.set_cons_succ])
        refine held_call (i := 9) rfl (by kernel_rfl) (by rfl) (fun K hK => ?_)
        clear hHeld
        simp only [List.getElem_toArray, List.getElem_cons_succ, List.getElem_cons_zero]
        go_simp
        refine (radd_any _ ra rb a b 12 (by decide) (by decide) (RatD.mono (n := 12) (by first | exact HL.out.da | exact HL.out.da.drew) (by decide)) (RatD.mono (n := 12) (by first | exact HL.out.db | exact HL.out.db.drew) (by decide)) (by first | exact HL.out.tz | exact HL.out.drew.tz)).mono ?_
        rintro e we4 ⟨re4, rfl, he4, be4⟩
        replace HL := Lib.hid (LSt.below (by first | exact HL.out | exact HL.out.drew) be4)
        clear c0 c1 c2 c3 c4 c5 c6 c7 c8 c9 c10 c11
        obtain ⟨c0, c1, c2, c3, c4, c5, c6, c7, c8, c9, c10, c11⟩ := HL.out.cells
        replace He3 := Lib.hid (RatN.below (by first | exact He3.out | exact He3.out.drew) be4)
        have He4 := Lib.hid he4.now
        clear he4
        clear be4
        (try (go_wp2_with fail))
        refine hK.out _ _ (by first | exact HL.out.cells | exact HL.out.drew.cells) (fun hHeld => ?_)
        clear hK K
        (try simp only [Act.put, List.setIfInBounds_toArray, List.set_cons_zero, List.set_cons_succ])
        refine held_call (i := 10) rfl (by kernel_rfl) (by rfl) (fun K hK => ?_)
        clear hHeld
        simp only [List.getElem_toArray, List.getElem_cons_succ, List.getElem_cons_zero]
        go_simp
        refine (rsame_true _ re3 re4 ((maxQ a b) + (minQ a b)) (a + b) 25 (by decide) (by decide) (RatN.rat (by first | exact He3.out | exact He3.out.drew) (Sz.up (Sz.add (n := 12) (m := 12) (Sz.max HSa.out HSb.out) (Sz.min HSa.out HSb.out)) (by decide))) (RatN.rat (by first | exact He4.out | exact He4.out.drew) (Sz.up (Sz.add (n := 12) (m := 12) HSa.out HSb.out) (by decide))) (max_min a b)).mono ?_
        rintro e we5 ⟨rfl, be5⟩
        replace HL := Lib.hid (LSt.below (by first | exact HL.out | exact HL.out.drew) be5)
        clear c0 c1 c2 c3 c4 c5 c6 c7 c8 c9 c10 c11
        obtain ⟨c0, c1, c2, c3, c4, c5, c6, c7, c8, c9, c10, c11⟩ := HL.out.cells
        clear be5
        (try (go_wp2_with fail))
        refine hK.out _ _ (by first | exact HL.out.cells | exact HL.out.drew.cells) (fun hHeld => ?_)
        clear hK K
        (try simp only [Act.put, List.setIfInBounds_toArray, List.set_cons_zero, List.set_cons_succ])
        refine held_take (i := 11) (v := ?_) (some 82) rfl rfl (by kernel_rfl) (by kernel_rfl) (by kernel_rfl) (fun _ _ _ h => h) (Or.inl ⟨by rfl, ?_⟩) hHeld ?_
        rotate_left 1
        · intro w hSw
          (try dsimp only at hSw)
          (first | (go_simp; done) | (go_simp; with_reducible rfl))
        (try simp only [Act.put, List.setIfInBounds_toArray, List.set_cons_zero, List.set_cons_succ])
        refine held_take (i := 12) (v := ?_) (some 83) rfl rfl (by kernel_rfl) (by kernel_rfl) (by kernel_rfl) (fun _ _ _ h => h) (Or.inl ⟨by rfl, ?_⟩) hHeld ?_
        rotate_left 1
        · intro w hSw
          (try dsimp only at hSw)
          (first | (go_simp; done) | (go_simp; with_reducible rfl))
        (try simp only [Act.put, List.setIfInBounds_toArray, List.set_cons_zero, List.set_cons_succ])
        refine held_take (i := 13) (v := ?_) (some 84) rfl rfl (by kernel_rfl) (by kernel_rfl) (by kernel_rfl) (fun _ _ _ h => h) (Or.inl ⟨by rfl, ?_⟩) hHeld ?_
        rotate_left 1
        · intro w hSw
          (try dsimp only at hSw)
          (first | (go_simp; done) | (go_simp; with_reducible rfl))
        (try simp only [Act.put, List.setIfInBounds_toArray, List.set_cons_zero, List.set_cons_succ])
        refine held_take (i := 15) (v := ?_) (some 86) rfl rfl (by kernel_rfl) (by kernel_rfl) (by kernel_rfl) (fun _ _ _ h => h) (Or.inl ⟨by rfl, ?_⟩) hHeld ?_
        rotate_left 1
        · intro w hSw
          (try dsimp only at hSw)
          (first | (go_simp; done) | (go_simp; with_reducible rfl))
        (try simp only [Act.put, List.setIfInBounds_toArray, List.set_cons_zero, List.set_cons_succ])
        refine held_take (i := 16) (v := ?_) (some 87) rfl rfl (by kernel_rfl) (by kernel_rfl) (by kernel_rfl) (fun _ _ _ h => h) (Or.inl ⟨by rfl, ?_⟩) hHeld ?_
        rotate_left 1
        · intro w hSw
          (try dsimp only at hSw)
          (first | (go_simp; done) | (go_simp; with_reducible rfl))
        (try simp only [Act.put, List.setIfInBounds_toArray, List.set_cons_zero, List.set_cons_succ])
        refine held_call (i := 14) rfl (by kernel_rfl) (by rfl) (fun K hK => ?_)
        clear hHeld
        simp only [List.getElem_toArray, List.getElem_cons_succ, List.getElem_cons_zero]
        go_simp
        refine (rmax_any _ ra rb a b 12 (by decide) (by decide) (RatD.mono (n := 12) (by first | exact HL.out.da | exact HL.out.da.drew) (by decide)) (RatD.mono (n := 12) (by first | exact HL.out.db | exact HL.out.db.drew) (by decide)) (by first | exact HL.out.tz | exact HL.out.drew.tz)).mono ?_
        rintro e we6 ⟨re6, rfl, he6, be6⟩
        replace HL := Lib.hid (LSt.below (by first | exact HL.out | exact HL.out.drew) be6)
        clear c0 c1 c2 c3 c4 c5 c6 c7 c8 c9 c10 c11
        obtain ⟨c0, c1, c2, c3, c4, c5, c6, c7, c8, c9, c10, c11⟩ := HL.out.cells
        have He6 := Lib.hid he6.now
        clear he6
        clear be6
        (try (go_wp2_with fail))
        refine hK.out _ _ (by first | exact HL.out.cells | exact HL.out.drew.cells) (fun hHeld => ?_)
        clear hK K
        (try simp only [Act.put, List.setIfInBounds_toArray, List.set_cons_zero, List.set_cons_succ])
        refine held_call (i := 17) rfl (by kernel_rfl) (by rfl) (fun K hK => ?_)
        clear hHeld
        simp only [List.getElem_toArray, List.getElem_cons_succ, List.getElem_cons_zero]
        go_simp
        refine (rmin_any _ ra rb a b 12 (by decide) (by decide) (RatD.mono (n := 12) (by first | exact HL.out.da | exact HL.out.da.drew) (by decide)) (RatD.mono (n := 12) (by first | exact HL.out.db | exact HL.out.db.drew) (by decide)) (by first | exact HL.out.tz | exact HL.out.drew.tz)).mono ?_
        rintro e we7 ⟨re7, rfl, he7, be7⟩
        replace HL := Lib.hid (LSt.below (by first | exact HL.out | exact HL.out.drew) be7)
        clear c0 c1 c2 c3 c4 c5 c6 c7 c8 c9 c10 c11
        obtain ⟨c0, c1, c2, c3, c4, c5, c6, c7, c8, c9, c10, c11⟩ := HL.out.cells
        replace He6 := Lib.hid (RatN.below (by first | exact He6.out | exact He6.out.drew) be7)
        have He7 := Lib.hid he7.now
        clear he7
        clear be7
        (try (go_wp2_with fail))
        refine hK.out _ _ (by first | exact HL.out.cells | exact HL.out.drew.cells) (fun hHeld => ?_)
        clear hK K
        (try simp only [Act.put, List.setIfInBounds_toArray, List.set_cons_zero, List.set_cons_succ])
        refine held_call (i := 18) rfl (by kernel_rfl) (by rfl) (fun K hK => ?_)
        clear hHeld
        simp only [List.getElem_toArray, List.getElem_cons_succ, List.getElem_cons_zero]
        go_simp
        refine (Hmm.out _ re6 re7 (RatN.rat (by first | exact He6.out | exact He6.out.drew) (Sz.up (Sz.max HSa.out HSb.out) (by decide))) (RatN.rat (by first | exact He7.out | exact He7.out.drew) (Sz.up (Sz.min HSa.out HSb.out) (by decide)))).mono ?_
        rintro e we8 ⟨rfl, be8⟩
        replace HL := Lib.hid (LSt.below (by first | exact HL.out | exact HL.out.drew) be8)
        clear c0 c1 c2 c3 c4 c5 c6 c7 c8 c9 c10 c11
        obtain ⟨c0, c1, c2, c3, c4, c5, c6, c7, c8, c9, c10, c11⟩ := HL.out.cells
        clear be8
        (try (go_wp2_with fail))
        refine hK.out _ _ (by first | exact HL.out.cells | exact HL.out.drew.cells) (fun hHeld => ?_)
        clear hK K
        (try simp only [Act.put, List.setIfInBounds_toArray, List.set_cons_zero, List.set_cons_succ])
        refine held_take (i := 19) (v := .bool true) (some 90) rfl rfl (by kernel_rfl) (by kernel_rfl) (by kernel_rfl) (fun _ _ _ h => h) (Or.inl ⟨by rfl, ?_⟩) hHeld ?_
        · intro w hSw
          clear hSw
          go_simp
          (first | done | (simp [W5.out]))
        (try simp only [Act.put, List.setIfInBounds_toArray, List.set_cons_zero, List.set_cons_succ])
        refine held_take (i := 20) (v := ?_) (some 91) rfl rfl (by kernel_rfl) (by kernel_rfl) (by kernel_rfl) (fun _ _ _ h => h) (Or.inl ⟨by rfl, ?_⟩) hHeld ?_
        rotate_left 1
        · intro w hSw
          (try dsimp only at hSw)
          (first | (go_simp; done) | (go_simp; with_reducible rfl))
        (try simp only [Act.put, List.setIfInBounds_toArray, List.set_cons_zero, List.set_cons_succ])
        refine held_take (i := 21) (v := ?_) (some 92) rfl rfl (by kernel_rfl) (by kernel_rfl) (by kernel_rfl) (fun _ _ _ h => h) (Or.inl ⟨by rfl, ?_⟩) hHeld ?_
        rotate_left 1
        · intro w hSw
          (try dsimp only at hSw)
          (first | (go_simp; done) | (go_simp; with_reducible rfl))
        (try simp only [Act.put, List.setIfInBounds_toArray, List.set_cons_zero, List.set_cons_succ])
        refine held_take (i := 22) (v := ?_) (some 93) rfl rfl (by kernel_rfl) (by kernel_rfl) (by kernel_rfl) (fun _ _ _ h => h) (Or.inl ⟨by rfl, ?_⟩) hHeld ?_
        rotate_left 1
        · intro w hSw
          (try dsimp only at hSw)
          (first | (go_simp; done) | (go_simp; with_reducible rfl))
        (try simp only [Act.put, List.setIfInBounds_toArray, List.set_cons_zero, List.set_cons_succ])
        refine held_call (i := 23) rfl (by kernel_rfl) (by rfl) (fun K hK => ?_)
        clear hHeld
        simp only [List.getElem_toArray, List.getElem_cons_succ, List.getElem_cons_zero]
        go_simp
        refine (rabs_any _ ra a 12 (by decide) (by decide) (RatD.mono (n := 12) (by first | exact HL.out.da | exact HL.out.da.drew) (by decide)) (by first | exact HL.out.tz | exact HL.out.drew.tz)).mono ?_
        rintro e we9 ⟨re9, rfl, he9, be9⟩
        replace HL := Lib.hid (LSt.below (by first | exact HL.out | exact HL.out.drew) be9)
        clear c0 c1 c2 c3 c4 c5 c6 c7 c8 c9 c10 c11
        obtain ⟨c0, c1, c2, c3, c4, c5, c6, c7, c8, c9, c10, c11⟩ := HL.out.cells
        have He9 := Lib.hid he9.now
        clear he9
        clear be9
        (try (go_wp2_with fail))
        refine hK.out _ _ (by first | exact HL.out.cells | exact HL.out.drew.cells) (fun hHeld => ?_)
        clear hK K
        (try simp only [Act.put, List.setIfInBounds_toArray, List.set_cons_zero, List.set_cons_succ])
        refine held_call (i := 24) rfl (by kernel_rfl) (by rfl) (fun K hK => ?_)
        clear hHeld
        simp only [List.getElem_toArray, List.getElem_cons_succ, List.getElem_cons_zero]
        go_simp
        refine (Hsa.out _ re9 (RatN.rat (by first | exact He9.out | exact He9.out.drew) (Sz.up (Sz.abs HSa.out) (by decide)))).mono ?_
        rintro e we10 ⟨rfl, be10⟩
        replace HL := Lib.hid (LSt.below (by first | exact HL.out | exact HL.out.drew) be10)
        clear c0 c1 c2 c3 c4 c5 c6 c7 c8 c9 c10 c11
        obtain ⟨c0, c1, c2, c3, c4, c5, c6, c7, c8, c9, c10, c11⟩ := HL.out.cells
        clear be10
        (try (go_wp2_with fail))
        refine hK.out _ _ (by first | exact HL.out.cells | exact HL.out.drew.cells) (fun hHeld => ?_)
        clear hK K
        (try simp only [Act.put, List.setIfInBounds_toArray, List.set_cons_zero, List.set_cons_succ])
        refine held_take (i := 25) (v := .bool true) (some 96) rfl rfl (by kernel_rfl) (by kernel_rfl) (by kernel_rfl) (fun _ _ _ h => h) (Or.inl ⟨by rfl, ?_⟩) hHeld ?_
        · intro w hSw
          clear hSw
          go_simp
          (first | done | (simp [W6.out]))
        (try simp only [Act.put, List.setIfInBounds_toArray, List.set_cons_zero, List.set_cons_succ])
        refine held_take (i := 26) (v := ?_) (some 97) rfl rfl (by kernel_rfl) (by kernel_rfl) (by kernel_rfl) (fun _ _ _ h => h) (Or.inl ⟨by rfl, ?_⟩) hHeld ?_
        rotate_left 1
        · intro w hSw
          (try dsimp only at hSw)
          (first | (go_simp; done) | (go_simp; with_reducible rfl))
        (try simp only [Act.put, List.setIfInBounds_toArray, List.set_cons_zero, List.set_cons_succ])
        refine held_take (i := 27) (v := ?_) (some 98) rfl rfl (by kernel_rfl) (by kernel_rfl) (by kernel_rfl) (fun _ _ _ h => h) (Or.inl ⟨by rfl, ?_⟩) hHeld ?_
        rotate_left 1
        · intro w hSw
          (try dsimp only at hSw)
          (first | (go_simp; done) | (go_simp; with_reducible rfl))
        (try simp only [Act.put, List.setIfInBounds_toArray, List.set_cons_zero, List.set_cons_succ])
        refine held_take (i := 28) (v := ?_) (some 99) rfl rfl (by kernel_rfl) (by kernel_rfl) (by kernel_rfl) (fun _ _ _ h => h) (Or.inl ⟨by rfl, ?_⟩) hHeld ?_
        rotate_left 1
        · intro w hSw
          (try dsimp only at hSw)
          (first | (go_simp; done) | (go_simp; with_reducible rfl))
        (try simp only [Act.put, List.setIfInBounds_toArray, List.set_cons_zero, List.set_cons_succ])
        refine held_take (i := 29) (v := ?_) (some 100) rfl rfl (by kernel_rfl) (by kernel_rfl) (by kernel_rfl) (fun _ _ _ h => h) (Or.inl ⟨by rfl, ?_⟩) hHeld ?_
        rotate_left 1
        · intro w hSw
          (try dsimp only at hSw)
          (first | (go_simp; done) | (go_simp; with_reducible rfl))
        (try simp only [Act.put, List.setIfInBounds_toArray, List.set_cons_zero, List.set_cons_succ])
        refine held_take (i := 31) (v := ?_) (some 102) rfl rfl (by kernel_rfl) (by kernel_rfl) (by kernel_rfl) (fun _ _ _ h => h) (Or.inl ⟨by rfl, ?_⟩) hHeld ?_
        rotate_left 1
        · intro w hSw
          (try dsimp only at hSw)
          (first | (go_simp; done) | (go_simp; with_reducible rfl))
        (try simp only [Act.put, List.setIfInBounds_toArray, List.set_cons_zero, List.set_cons_succ])
        refine held_take (i := 33) (v := ?_) (some 104) rfl rfl (by kernel_rfl) (by kernel_rfl) (by kernel_rfl) (fun _ _ _ h => h) (Or.inl ⟨by rfl, ?_⟩) hHeld ?_
        rotate_left 1
        · intro w hSw
          (try dsimp only at hSw)
          (first | (go_simp; done) | (go_simp; with_reducible rfl))
        (try simp only [Act.put, List.setIfInBounds_toArray, List.set_cons_zero, List.set_cons_succ])
        refine held_call (i := 30) rfl (by kernel_rfl) (by rfl) (fun K hK => ?_)
        clear hHeld
        simp only [List.getElem_toArray, List.getElem_cons_succ, List.getElem_cons_zero]
        go_simp
        refine (rmul_any _ ra ra a a 12 (by decide) (by decide) (RatD.mono (n := 12) (by first | exact HL.out.da | exact HL.out.da.drew) (by decide)) (RatD.mono (n := 12) (by first | exact HL.out.da | exact HL.out.da.drew) (by decide)) (by first | exact HL.out.tz | exact HL.out.drew.tz)).mono ?_
        rintro e we11 ⟨re11, rfl, he11, be11⟩
        replace HL := Lib.hid (LSt.below (by first | exact HL.out | exact HL.out.drew) be11)
        clear c0 c1 c2 c3 c4 c5 c6 c7 c8 c9 c10 c11
        obtain ⟨c0, c1, c2, c3, c4, c5, c6, c7, c8, c9, c10, c11⟩ := HL.out.cells
        have He11 := Lib.hid he11.now
        clear he11
        clear be11
        (try (go_wp2_with fail))
        refine hK.out _ _ (by first | exact HL.out.cells | exact HL.out.drew.cells) (fun hHeld => ?_)
        clear hK K
        (try simp only [Act.put, List.setIfInBounds_toArray, List.set_cons_zero, List.set_cons_succ])
        refine held_call (i := 32) rfl (by kernel_rfl) (by rfl) (fun K hK => ?_)
        clear hHeld
        simp only [List.getElem_toArray, List.getElem_cons_succ, List.getElem_cons_zero]
        go_simp
        refine (rabs_any _ ra a 12 (by decide) (by decide) (RatD.mono (n := 12) (by first | exact HL.out.da | exact HL.out.da.drew) (by decide)) (by first | exact HL.out.tz | exact HL.out.drew.tz)).mono ?_
        rintro e we12 ⟨re12, rfl, he12, be12⟩
        replace HL := Lib.hid (LSt.below (by first | exact HL.out | exact HL.out.drew) be12)
        clear c0 c1 c2 c3 c4 c5 c6 c7 c8 c9 c10 c11
        obtain ⟨c0, c1, c2, c3, c4, c5, c6, c7, c8, c9, c10, c11⟩ := HL.out.cells
        replace He11 := Lib.hid (RatN.below (by first | exact He11.out | exact He11.out.drew) be12)
        have He12 := Lib.hid he12.now
        clear he12
        clear be12
        (try (go_wp2_with fail))
        refine hK.out _ _ (by first | exact HL.out.cells | exact HL.out.drew.cells) (fun hHeld => ?_)
        clear hK K
        (try simp only [Act.put, List.setIfInBounds_toArray, List.set_cons_zero, List.set_cons_succ])
        refine held_call (i := 34) rfl (by kernel_rfl) (by rfl) (fun K hK => ?_)
        clear hHeld
        simp only [List.getElem_toArray, List.getElem_cons_succ, List.getElem_cons_zero]
        go_simp
        refine (rabs_any _ ra a 12 (by decide) (by decide) (RatD.mono (n := 12) (by first | exact HL.out.da | exact HL.out.da.drew) (by decide)) (by first | exact HL.out.tz | exact HL.out.drew.tz)).mono ?_
        rintro e we13 ⟨re13, rfl, he13, be13⟩
        replace HL := Lib.hid (LSt.below (by first | exact HL.out | exact HL.out.drew) be13)
        clear c0 c1 c2 c3 c4 c5 c6 c7 c8 c9 c10 c11
        obtain ⟨c0, c1, c2, c3, c4, c5, c6, c7, c8, c9, c10, c11⟩ := HL.out.cells
        replace He11 := Lib.hid (RatN.below (by first | exact He11.out | exact He11.out.drew) be13)
        replace He12 := Lib.hid (RatN.below (by first | exact He12.out | exact He12.out.drew) be13)
        have He13 := Lib.hid he13.now
        clear he13
        clear be13
        (try (go_wp2_with fail))
        refine hK.out _ _ (by first | exact HL.out.cells | exact HL.out.drew.cells) (fun hHeld => ?_)
        clear hK K
        (try simp only [Act.put, List.setIfInBounds_toArray, List.set_cons_zero, List.set_cons_succ])
        refine held_call (i := 35) rfl (by kernel_rfl) (by rfl) (fun K hK => ?_)
        clear hHeld
        simp only [List.getElem_toArray, List.getElem_cons_succ, List.getElem_cons_zero]
        go_simp
        refine (rmul_any _ re12 re13 (rabs a) (rabs a) 12 (by decide) (by decide) (RatN.rat (by first | exact He12.out | exact He12.out.drew) (Sz.up (Sz.abs HSa.out) (by decide))) (RatN.rat (by first | exact He13.out | exact He13.out.drew) (Sz.up (Sz.abs HSa.out) (by decide))) (by first | exact HL.out.tz | exact HL.out.drew.tz)).mono ?_
        rintro e we14 ⟨re14, rfl, he14, be14⟩
        replace HL := Lib.hid (LSt.below (by first | exact HL.out | exact HL.out.drew) be14)
        clear c0 c1 c2 c3 c4 c5 c6 c7 c8 c9 c10 c11
        obtain ⟨c0, c1, c2, c3, c4, c5, c6, c7, c8, c9, c10, c11⟩ := HL.out.cells
        replace He11 := Lib.hid (RatN.below (by first | exact He11.out | exact He11.out.drew) be14)
        have He14 := Lib.hid he14.now
        clear he14
        clear be14
        (try (go_wp2_with fail))
        refine hK.out _ _ (by first | exact HL.out.cells | exact HL.out.drew.cells) (fun hHeld => ?_)
        clear hK K
        (try simp only [Act.put, List.setIfInBounds_toArray, List.set_cons_zero, List.set_cons_succ])
        refine held_call (i := 36) rfl (by kernel_rfl) (by rfl) (fun K hK => ?_)
        clear hHeld
        simp only [List.getElem_toArray, List.getElem_cons_succ, List.getElem_cons_zero]
        go_simp
        refine (rsame_true _ re11 re14 (a * a) ((rabs a) * (rabs a)) 25 (by decide) (by decide) (RatN.rat (by first | exact He11.out | exact He11.out.drew) (Sz.up (Sz.mul (n := 12) (m := 12) HSa.out HSa.out) (by decide))) (RatN.rat (by first | exact He14.out | exact He14.out.drew) (Sz.up (Sz.mul (n := 12) (m := 12) (Sz.abs HSa.out) (Sz.abs HSa.out)) (by decide))) (abs_sq a)).mono ?_
        rintro e we15 ⟨rfl, be15⟩
        replace HL := Lib.hid (LSt.below (by first | exact HL.out | exact HL.out.drew) be15)
        clear c0 c1 c2 c3 c4 c5 c6 c7 c8 c9 c10 c11
        obtain ⟨c0, c1, c2, c3, c4, c5, c6, c7, c8, c9, c10, c11⟩ := HL.out.cells
        clear be15
        (try (go_wp2_with fail))
        refine hK.out _ _ (by first | exact HL.out.cells | exact HL.out.drew.cells) (fun hHeld => ?_)
        clear hK K
        (try simp only [Act.put, List.setIfInBounds_toArray, List.set_cons_zero, List.set_cons_succ])
        refine held_take (i := 37) (v := ?_) (some 108) rfl rfl (by kernel_rfl) (by kernel_rfl) (by kernel_rfl) (fun _ _ _ h => h) (Or.inl ⟨by rfl, ?_⟩) hHeld ?_
        rotate_left 1
        · intro w hSw
          (try dsimp only at hSw)
          (first | (go_simp; done) | (go_simp; with_reducible rfl))
        (try simp only [Act.put, List.setIfInBounds_toArray, List.set_cons_zero, List.set_cons_succ])
        refine held_take (i := 38) (v := ?_) (some 9) rfl rfl (by kernel_rfl) (by kernel_rfl) (by kernel_rfl) (fun _ _ _ h => h) (Or.inl ⟨by rfl, ?_⟩) hHeld ?_
        rotate_left 1
        · intro w hSw
          (try dsimp only at hSw)
          (first | (go_simp; done) | (go_simp; with_reducible rfl))
        (try simp only [Act.put, List.setIfInBounds_toArray, List.set_cons_zero, List.set_cons_succ])
        refine wpAnyH_done (by kernel_rfl) ?_ _
        refine NoPanic.normal ?_
        all_goals
          go_wp2_with fail
          go_meet
          exact ⟨rfl, by first | exact HL.out | exact HL.out.drew⟩
    case rest =>
      obtain ⟨rfl, hL⟩ := hcut
      have HL := Lib.hid hL
      obtain ⟨c0, c1, c2, c3, c4, c5, c6, c7, c8, c9, c10, c11⟩ := hL.cells
      clear hL
      go_upto_region 6 with fail
      go_cut [10, 11] (fun v v' wx => ∃ gf gg rf rg, v = .pointer (some ⟨gf, 0, none⟩) ∧ v' = .pointer (some ⟨gg, 0, none⟩) ∧ OSt w wx ra rb rc a b c 12 gf gg rf rg (Rat.divInt a.floor 1) (Rat.divInt (ceilQ a) 1))
      case first =>
        obtain ⟨v0, hv0⟩ : ∃ v0 : World, v0 = wc := ⟨_, rfl⟩
        rw [← hv0] at HL ⊢
        clear hv0 c0 c1 c2 c3 c4 c5 c6 c7 c8 c9 c10 c11
        have HL0 := Lib.hid HL.out
        clear HL Hk Hk2 Hk3 Hk4 Hm Hka Hs W1 W2 W3 Hmm W5 Hsa W6 Hsh Hpp HSb HSc Hn1 Hn2 Hn3 Hn4 Fn1 Fn2 Fn3 Fn4 Hsw Hiw
        refine wp_region_noPanic ?_
        refine wp_region_held_drew (S := fun W => Below v0.heap.size v0 W) (by kernel_rfl) (Below.drew (Below.refl _ _)) (fun hHeld => ?_)
        refine held_take (i := 0) (v := .agg #[.bool ra.num.neg, .slice ra.num.A ra.num.k ra.num.c, .bool ra.den.neg, .slice ra.den.A ra.den.k ra.den.c]) (some 109) rfl rfl (by kernel_rfl) (by kernel_rfl) (by kernel_rfl) (fun _ _ _ h => h) (Or.inl ⟨by rfl, ?_⟩) hHeld ?_
        · intro W hSw
          obtain ⟨c0, c1, c2, c3, c4, c5, c6, c7, c8, c9, c10, c11⟩ := LSt.cells (LSt.below HL0.out hSw)
          clear hSw hHeld
          go_simp
        (try simp only [Act.put, List.setIfInBounds_toArray, List.set_cons_zero, List.set_cons_succ])
        refine held_take (i := 3) (v := .agg #[.bool ra.num.neg, .slice ra.num.A ra.num.k ra.num.c, .bool ra.den.neg, .slice ra.den.A ra.den.k ra.den.c]) (some 112) rfl rfl (by kernel_rfl) (by kernel_rfl) (by kernel_rfl) (fun _ _ _ h => h) (Or.inl ⟨by rfl, ?_⟩) hHeld ?_
        · intro W hSw
          obtain ⟨c0, c1, c2, c3, c4, c5, c6, c7, c8, c9, c10, c11⟩ := LSt.cells (LSt.below HL0.out hSw)
          clear hSw hHeld
          go_simp
        (try simp only [Act.put, List.setIfInBounds_toArray, List.set_cons_zero, List.set_cons_succ])
        refine dag_start 8 rfl #[true, false, false, true, false, false, false, false, false, false] (by kernel_rfl) ?_
        intro Q6 hQ6 ops6 hops6 a0 ha0
        have HQ := Lib.hid hQ6; have HO := Lib.hid hops6; have HA := Lib.hid ha0
        clear hQ6 hops6 ha0
        have S411 : Hid (∀ (W : World) (hW : Below v0.heap.size v0 W) (gf : Nat) (bf : Bx v0 W gf) (gg : Nat) (bg : Bx v0 W gg) (ne : gf ≠ gg) (i1 : IV) (rf : RV) (F2 : Nat → Prop) (d2 : Dt W F2 (RatN rf (Rat.divInt a.floor 1))) (nf2 : ¬ F2 gf) (ng2 : ¬ F2 gg) (i3 : IV) (rg : RV) (F4 : Nat → Prop) (d4 : Dt W F4 (RatN rg (Rat.divInt (ceilQ a) 1))) (nf4 : ¬ F4 gf) (ng4 : ¬ F4 gg), wpAnyH Tryz.prog .any ops6 Q6 (fun W => Below v0.heap.size v0 W) 2 #[true, true, true, true, true, true, true, true, false, false] (Act.put (Act.put (Act.put (Act.put (Act.put (Act.put a0 (some 110) (.agg #[.bool i1.neg, .slice i1.A i1.k i1.c])) (some 111) (.agg #[.bool rf.num.neg, .slice rf.num.A rf.num.k rf.num.c, .bool rf.den.neg, .slice rf.den.A rf.den.k rf.den.c])) (some 113) (.agg #[.bool i3.neg, .slice i3.A i3.k i3.c])) (some 114) (.agg #[.bool rg.num.neg, .slice rg.num.A rg.num.k rg.num.c, .bool rg.den.neg, .slice rg.den.A rg.den.k rg.den.c])) (some 10) (.pointer (some ⟨gf, 0, none⟩))) (some 11) (.pointer (some ⟨gg, 0, none⟩))) W) := by
          refine Lib.hid ?_
          intro W hW gf bf gg bg ne i1 rf F2 d2 nf2 ng2 i3 rg F4 d4 nf4 ng4
          rw [HO.out, HA.out]
          (try simp only [Act.put, List.setIfInBounds_toArray, List.set_cons_zero, List.set_cons_succ])
          have HBf := Lib.hid bf; have HBg := Lib.hid bg; have HW := Lib.hid hW; have Hd2 := Lib.hid d2; have Hd4 := Lib.hid d4; have Hns := Lib.hid (And.intro (And.intro nf2 ng2) (And.intro nf4 ng4))
          have ne' : gg ≠ gf := fun e => ne e.symm
          obtain ⟨x0, x1, x2, x3⟩ := Blk.c4 bf.blk
          obtain ⟨x4, x5, x6, x7⟩ := Blk.f4 bf.blk
          obtain ⟨z0, z1, z2, z3⟩ := Blk.c4 bg.blk
          obtain ⟨z4, z5, z6, z7⟩ := Blk.f4 bg.blk
          clear bf bg hW d2 d4 nf2 ng2 nf4 ng4
          refine held_call (i := 8) rfl (by kernel_rfl) (by rfl) (fun K hK => ?_)
          simp only [List.getElem_toArray, List.getElem_cons_succ, List.getElem_cons_zero]
          go_simp
          (try (go_wp2_with fail))
          refine hK.out _ _ (by have h1 := HBf.out.ge; repeat (first | (with_reducible exact HW.out) | (refine Below.setCell ?_ h1 _))) (fun hHeld => ?_)
          clear hK K hHeld
          (try simp only [List.setIfInBounds_toArray, List.set_cons_zero, List.set_cons_succ])
          refine held_call (i := 9) rfl (by kernel_rfl) (by rfl) (fun K hK => ?_)
          simp only [List.getElem_toArray, List.getElem_cons_succ, List.getElem_cons_zero]
          go_simp
          (try (go_wp2_with fail))
          refine hK.out _ _ (by have h1 := HBf.out.ge; have h2 := HBg.out.ge; repeat (first | (with_reducible exact HW.out) | (refine Below.setCell ?_ h1 _) | (refine Below.setCell ?_ h2 _))) (fun hHeld => ?_)
          clear hK K
          (try simp only [List.setIfInBounds_toArray, List.set_cons_zero, List.set_cons_succ])
          refine wpAnyH_done (by kernel_rfl) ?_ _
          rw [HQ.out]
          refine NoPanic.normal ?_
          go_wp2_with fail
          go_meet
          exact ⟨gf, gg, rf, rg, rfl, rfl, final6 HL0.out HW.out HBf.out HBg.out ne Hd2.out Hd4.out Hns.out.1.1 Hns.out.1.2 Hns.out.2.1 Hns.out.2.2⟩
        have S410 : Hid (∀ (W : World) (hW : Below v0.heap.size v0 W) (gf : Nat) (bf : Bx v0 W gf) (i1 : IV) (rf : RV) (F2 : Nat → Prop) (d2 : Dt W F2 (RatN rf (Rat.divInt a.floor 1))) (nf2 : ¬ F2 gf) (i3 : IV) (rg : RV) (F4 : Nat → Prop) (d4 : Dt W F4 (RatN rg (Rat.divInt (ceilQ a) 1))) (nf4 : ¬ F4 gf), wpAnyH Tryz.prog .any ops6 Q6 (fun W => Below v0.heap.size v0 W) 3 #[true, true, true, true, true, true, true, false, false, false] (Act.put (Act.put (Act.put (Act.put (Act.put a0 (some 110) (.agg #[.bool i1.neg, .slice i1.A i1.k i1.c])) (some 111) (.agg #[.bool rf.num.neg, .slice rf.num.A rf.num.k rf.num.c, .bool rf.den.neg, .slice rf.den.A rf.den.k rf.den.c])) (some 113) (.agg #[.bool i3.neg, .slice i3.A i3.k i3.c])) (some 114) (.agg #[.bool rg.num.neg, .slice rg.num.A rg.num.k rg.num.c, .bool rg.den.neg, .slice rg.den.A rg.den.k rg.den.c])) (some 10) (.pointer (some ⟨gf, 0, none⟩))) W) := by
          refine Lib.hid ?_
          intro W hW gf bf i1 rf F2 d2 nf2 i3 rg F4 d4 nf4
          rw [HO.out, HA.out]
          (try simp only [Act.put, List.setIfInBounds_toArray, List.set_cons_zero, List.set_cons_succ])
          refine wpAnyH_ready (rs := [7]) (by kernel_rfl) (by simp) ?_
          have XhW := Lib.hid hW
          have Xbf := Lib.hid bf
          have Xd2 := Lib.hid d2
          have Xnf2 := Lib.hid nf2
          have Xd4 := Lib.hid d4
          have Xnf4 := Lib.hid nf4
          clear hW bf d2 nf2 d4 nf4
          refine AllReadyH.cons rfl (fun K hK => ?_) ?_
          · rw [if_pos (by rfl)]
            simp only [List.getElem_toArray, List.getElem_cons_succ, List.getElem_cons_zero]
            go_simp
            (try (go_wp2_with fail))
            refine hK.out _ _ (XhW.out.alloc XhW.out.size _) (fun hHeld => ?_)
            clear hK K hHeld
            (try simp only [List.setIfInBounds_toArray, List.set_cons_zero, List.set_cons_succ])
            have h := S411.out (W.alloc (.cells #[.bool false, .slice none 0 0, .bool false, .slice none 0 0] 36)) (XhW.out.alloc XhW.out.size _) gf (Xbf.out.alloc _) W.heap.size (Bx.new XhW.out) (Bx.ne Xbf.out) i1 rf F2 (Xd2.out.alloc _) Xnf2.out (Dt.no Xd2.out) i3 rg F4 (Xd4.out.alloc _) Xnf4.out (Dt.no Xd4.out)
            rw [HO.out, HA.out] at h
            (try simp only [Act.put, List.setIfInBounds_toArray, List.set_cons_zero, List.set_cons_succ] at h)
            exact h
          exact AllReadyH.nil
        have S401 : Hid (∀ (W : World) (hW : Below v0.heap.size v0 W) (gg : Nat) (bg : Bx v0 W gg) (i1 : IV) (rf : RV) (F2 : Nat → Prop) (d2 : Dt W F2 (RatN rf (Rat.divInt a.floor 1))) (ng2 : ¬ F2 gg) (i3 : IV) (rg : RV) (F4 : Nat → Prop) (d4 : Dt W F4 (RatN rg (Rat.divInt (ceilQ a) 1))) (ng4 : ¬ F4 gg), wpAnyH Tryz.prog .any ops6 Q6 (fun W => Below v0.heap.size v0 W) 3 #[true, true, true, true, true, true, false, true, false, false] (Act.put (Act.put (Act.put (Act.put (Act.put a0 (some 110) (.agg #[.bool i1.neg, .slice i1.A i1.k i1.c])) (some 111) (.agg #[.bool rf.num.neg, .slice rf.num.A rf.num.k rf.num.c, .bool rf.den.neg, .slice rf.den.A rf.den.k rf.den.c])) (some 113) (.agg #[.bool i3.neg, .slice i3.A i3.k i3.c])) (some 114) (.agg #[.bool rg.num.neg, .slice rg.num.A rg.num.k rg.num.c, .bool rg.den.neg, .slice rg.den.A rg.den.k rg.den.c])) (some 11) (.pointer (some ⟨gg, 0, none⟩))) W) := by
          clear S410
          refine Lib.hid ?_
          intro W hW gg bg i1 rf F2 d2 ng2 i3 rg F4 d4 ng4
          rw [HO.out, HA.out]
          (try simp only [Act.put, List.setIfInBounds_toArray, List.set_cons_zero, List.set_cons_succ])
          refine wpAnyH_ready (rs := [6]) (by kernel_rfl) (by simp) ?_
          have XhW := Lib.hid hW
          have Xbg := Lib.hid bg
          have Xd2 := Lib.hid d2
          have Xng2 := Lib.hid ng2
          have Xd4 := Lib.hid d4
          have Xng4 := Lib.hid ng4
          clear hW bg d2 ng2 d4 ng4
          refine AllReadyH.cons rfl (fun K hK => ?_) ?_
          · rw [if_pos (by rfl)]
            simp only [List.getElem_toArray, List.getElem_cons_succ, List.getElem_cons_zero]
            go_simp
            (try (go_wp2_with fail))
            refine hK.out _ _ (XhW.out.alloc XhW.out.size _) (fun hHeld => ?_)
            clear hK K hHeld
            (try simp only [List.setIfInBounds_toArray, List.set_cons_zero, List.set_cons_succ])
            have h := S411.out (W.alloc (.cells #[.bool false, .slice none 0 0, .bool false, .slice none 0 0] 36)) (XhW.out.alloc XhW.out.size _) W.heap.size (Bx.new XhW.out) gg (Xbg.out.alloc _) (Ne.symm (Bx.ne Xbg.out)) i1 rf F2 (Xd2.out.alloc _) (Dt.no Xd2.out) Xng2.out i3 rg F4 (Xd4.out.alloc _) (Dt.no Xd4.out) Xng4.out
            rw [HO.out, HA.out] at h
            (try simp only [Act.put, List.setIfInBounds_toArray, List.set_cons_zero, List.set_cons_succ] at h)
            exact h
          exact AllReadyH.nil
        have S400 : Hid (∀ (W : World) (hW : Below v0.heap.size v0 W) (i1 : IV) (rf : RV) (F2 : Nat → Prop) (d2 : Dt W F2 (RatN rf (Rat.divInt a.floor 1))) (i3 : IV) (rg : RV) (F4 : Nat → Prop) (d4 : Dt W F4 (RatN rg (Rat.divInt (ceilQ a) 1))), wpAnyH Tryz.prog .any ops6 Q6 (fun W => Below v0.heap.size v0 W) 4 #[true, true, true, true, true, true, false, false, false, false] (Act.put (Act.put (Act.put (Act.put a0 (some 110) (.agg #[.bool i1.neg, .slice i1.A i1.k i1.c])) (some 111) (.agg #[.bool rf.num.neg, .slice rf.num.A rf.num.k rf.num.c, .bool rf.den.neg, .slice rf.den.A rf.den.k rf.den.c])) (some 113) (.agg #[.bool i3.neg, .slice i3.A i3.k i3.c])) (some 114) (.agg #[.bool rg.num.neg, .slice rg.num.A rg.num.k rg.num.c, .bool rg.den.neg, .slice rg.den.A rg.den.k rg.den.c])) W) := by
          clear S411
          refine Lib.hid ?_
          intro W hW i1 rf F2 d2 i3 rg F4 d4
          rw [HO.out, HA.out]
          (try simp only [Act.put, List.setIfInBounds_toArray, List.set_cons_zero, List.set_cons_succ])
          refine wpAnyH_ready (rs := [6, 7]) (by kernel_rfl) (by simp) ?_
          have XhW := Lib.hid hW
          have Xd2 := Lib.hid d2
          have Xd4 := Lib.hid d4
          clear hW d2 d4
          refine AllReadyH.cons rfl (fun K hK => ?_) ?_
          · rw [if_pos (by rfl)]
            simp only [List.getElem_toArray, List.getElem_cons_succ, List.getElem_cons_zero]
            go_simp
            (try (go_wp2_with fail))
            refine hK.out _ _ (XhW.out.alloc XhW.out.size _) (fun hHeld => ?_)
            clear hK K hHeld
            (try simp only [List.setIfInBounds_toArray, List.set_cons_zero, List.set_cons_succ])
            have h := S410.out (W.alloc (.cells #[.bool false, .slice none 0 0, .bool false, .slice none 0 0] 36)) (XhW.out.alloc XhW.out.size _) W.heap.size (Bx.new XhW.out) i1 rf F2 (Xd2.out.alloc _) (Dt.no Xd2.out) i3 rg F4 (Xd4.out.alloc _) (Dt.no Xd4.out)
            rw [HO.out, HA.out] at h
            (try simp only [Act.put, List.setIfInBounds_toArray, List.set_cons_zero, List.set_cons_succ] at h)
            exact h
          refine AllReadyH.cons rfl (fun K hK => ?_) ?_
          · rw [if_pos (by rfl)]
            simp only [List.getElem_toArray, List.getElem_cons_succ, List.getElem_cons_zero]
            go_simp
            (try (go_wp2_with fail))
            refine hK.out _ _ (XhW.out.alloc XhW.out.size _) (fun hHeld => ?_)
            clear hK K hHeld
            (try simp only [List.setIfInBounds_toArray, List.set_cons_zero, List.set_cons_succ])
            have h := S401.out (W.alloc (.cells #[.bool false, .slice none 0 0, .bool false, .slice none 0 0] 36)) (XhW.out.alloc XhW.out.size _) W.heap.size (Bx.new XhW.out) i1 rf F2 (Xd2.out.alloc _) (Dt.no Xd2.out) i3 rg F4 (Xd4.out.alloc _) (Dt.no Xd4.out)
            rw [HO.out, HA.out] at h
            (try simp only [Act.put, List.setIfInBounds_toArray, List.set_cons_zero, List.set_cons_succ] at h)
            exact h
          exact AllReadyH.nil
        have S311 : Hid (∀ (W : World) (hW : Below v0.heap.size v0 W) (gf : Nat) (bf : Bx v0 W gf) (gg : Nat) (bg : Bx v0 W gg) (ne : gf ≠ gg) (i1 : IV) (rf : RV) (F2 : Nat → Prop) (d2 : Dt W F2 (RatN rf (Rat.divInt a.floor 1))) (nf2 : ¬ F2 gf) (ng2 : ¬ F2 gg) (i3 : IV) (h3 : IntN i3 (ceilQ a) W), wpAnyH Tryz.prog .any ops6 Q6 (fun W => Below v0.heap.size v0 W) 3 #[true, true, true, true, true, false, true, true, false, false] (Act.put (Act.put (Act.put (Act.put (Act.put a0 (some 110) (.agg #[.bool i1.neg, .slice i1.A i1.k i1.c])) (some 111) (.agg #[.bool rf.num.neg, .slice rf.num.A rf.num.k rf.num.c, .bool rf.den.neg, .slice rf.den.A rf.den.k rf.den.c])) (some 113) (.agg #[.bool i3.neg, .slice i3.A i3.k i3.c])) (some 10) (.pointer (some ⟨gf, 0, none⟩))) (some 11) (.pointer (some ⟨gg, 0, none⟩))) W) := by
          clear S410 S401 S400
          refine Lib.hid ?_
          intro W hW gf bf gg bg ne i1 rf F2 d2 nf2 ng2 i3 h3
          rw [HO.out, HA.out]
          (try simp only [Act.put, List.setIfInBounds_toArray, List.set_cons_zero, List.set_cons_succ])
          refine wpAnyH_ready (rs := [5]) (by kernel_rfl) (by simp) ?_
          have XhW := Lib.hid hW
          have Xbf := Lib.hid bf
          have Xbg := Lib.hid bg
          have Xne := Lib.hid ne
          have Xd2 := Lib.hid d2
          have Xnf2 := Lib.hid nf2
          have Xng2 := Lib.hid ng2
          have Xh3 := Lib.hid h3
          clear hW bf bg ne d2 nf2 ng2 h3
          refine AllReadyH.cons rfl (fun K hK => ?_) ?_
          · rw [if_pos (by rfl)]
            simp only [List.getElem_toArray, List.getElem_cons_succ, List.getElem_cons_zero]
            go_simp
            refine (rwhole_any _ i3 (ceilQ a) 12 (by decide) (IntN.ofLt Xh3.out (ceil_lt HSa.out))).mono ?_
            rintro e v ⟨rg, rfl, hr, hb⟩
            have Hr := Lib.hid hr; have Hb := Lib.hid hb
            clear hr hb
            (try (go_wp2_with fail))
            refine hK.out _ _ (Below.after XhW.out Hb.out) (fun hHeld => ?_)
            clear hK K hHeld
            have hr := Hr.out; have hb := Hb.out
            (try simp only [List.setIfInBounds_toArray, List.set_cons_zero, List.set_cons_succ])
            have h := S411.out v (Below.after XhW.out hb) gf (Xbf.out.below hb) gg (Xbg.out.below hb) Xne.out i1 rf F2 (Xd2.out.below hb) Xnf2.out Xng2.out i3 rg _ (Dt.made hr) (Bx.out Xbf.out) (Bx.out Xbg.out)
            rw [HO.out, HA.out] at h
            (try simp only [Act.put, List.setIfInBounds_toArray, List.set_cons_zero, List.set_cons_succ] at h)
            exact h
          exact AllReadyH.nil
        have S310 : Hid (∀ (W : World) (hW : Below v0.heap.size v0 W) (gf : Nat) (bf : Bx v0 W gf) (i1 : IV) (rf : RV) (F2 : Nat → Prop) (d2 : Dt W F2 (RatN rf (Rat.divInt a.floor 1))) (nf2 : ¬ F2 gf) (i3 : IV) (h3 : IntN i3 (ceilQ a) W), wpAnyH Tryz.prog .any ops6 Q6 (fun W => Below v0.heap.size v0 W) 4 #[true, true, true, true, true, false, true, false, false, false] (Act.put (Act.put (Act.put (Act.put a0 (some 110) (.agg #[.bool i1.neg, .slice i1.A i1.k i1.c])) (some 111) (.agg #[.bool rf.num.neg, .slice rf.num.A rf.num.k rf.num.c, .bool rf.den.neg, .slice rf.den.A rf.den.k rf.den.c])) (some 113) (.agg #[.bool i3.neg, .slice i3.A i3.k i3.c])) (some 10) (.pointer (some ⟨gf, 0, none⟩))) W) := by
          clear S411 S401 S400
          refine Lib.hid ?_
          intro W hW gf bf i1 rf F2 d2 nf2 i3 h3
          rw [HO.out, HA.out]
          (try simp only [Act.put, List.setIfInBounds_toArray, List.set_cons_zero, List.set_cons_succ])
          refine wpAnyH_ready (rs := [5, 7]) (by kernel_rfl) (by simp) ?_
          have XhW := Lib.hid hW
          have Xbf := Lib.hid bf
          have Xd2 := Lib.hid d2
          have Xnf2 := Lib.hid nf2
          have Xh3 := Lib.hid h3
          clear hW bf d2 nf2 h3
          refine AllReadyH.cons rfl (fun K hK => ?_) ?_
          · rw [if_pos (by rfl)]
            simp only [List.getElem_toArray, List.getElem_cons_succ, List.getElem_cons_zero]
            go_simp
            refine (rwhole_any _ i3 (ceilQ a) 12 (by decide) (IntN.ofLt Xh3.out (ceil_lt HSa.out))).mono ?_
            rintro e v ⟨rg, rfl, hr, hb⟩
            have Hr := Lib.hid hr; have Hb := Lib.hid hb
            clear hr hb
            (try (go_wp2_with fail))
            refine hK.out _ _ (Below.after XhW.out Hb.out) (fun hHeld => ?_)
            clear hK K hHeld
            have hr := Hr.out; have hb := Hb.out
            (try simp only [List.setIfInBounds_toArray, List.set_cons_zero, List.set_cons_succ])
            have h := S410.out v (Below.after XhW.out hb) gf (Xbf.out.below hb) i1 rf F2 (Xd2.out.below hb) Xnf2.out i3 rg _ (Dt.made hr) (Bx.out Xbf.out)
            rw [HO.out, HA.out] at h
            (try simp only [Act.put, List.setIfInBounds_toArray, List.set_cons_zero, List.set_cons_succ] at h)
            exact h
          refine AllReadyH.cons rfl (fun K hK => ?_) ?_
          · rw [if_pos (by rfl)]
            simp only [List.getElem_toArray, List.getElem_cons_succ, List.getElem_cons_zero]
            go_simp
            (try (go_wp2_with fail))
            refine hK.out _ _ (XhW.out.alloc XhW.out.size _) (fun hHeld => ?_)
            clear hK K hHeld
            (try simp only [List.setIfInBounds_toArray, List.set_cons_zero, List.set_cons_succ])
            have h := S311.out (W.alloc (.cells #[.bool false, .slice none 0 0, .bool false, .slice none 0 0] 36)) (XhW.out.alloc XhW.out.size _) gf (Xbf.out.alloc _) W.heap.size (Bx.new XhW.out) (Bx.ne Xbf.out) i1 rf F2 (Xd2.out.alloc _) Xnf2.out (Dt.no Xd2.out) i3 (IntN.al Xh3.out _)
            rw [HO.out, HA.out] at h
            (try simp only [Act.put, List.setIfInBounds_toArray, List.set_cons_zero, List.set_cons_succ] at h)
            exact h
          exact AllReadyH.nil
        have S301 : Hid (∀ (W : World) (hW : Below v0.heap.size v0 W) (gg : Nat) (bg : Bx v0 W gg) (i1 : IV) (rf : RV) (F2 : Nat → Prop) (d2 : Dt W F2 (RatN rf (Rat.divInt a.floor 1))) (ng2 : ¬ F2 gg) (i3 : IV) (h3 : IntN i3 (ceilQ a) W), wpAnyH Tryz.prog .any ops6 Q6 (fun W => Below v0.heap.size v0 W) 4 #[true, true, true, true, true, false, false, true, false, false] (Act.put (Act.put (Act.put (Act.put a0 (some 110) (.agg #[.bool i1.neg, .slice i1.A i1.k i1.c])) (some 111) (.agg #[.bool rf.num.neg, .slice rf.num.A rf.num.k rf.num.c, .bool rf.den.neg, .slice rf.den.A rf.den.k rf.den.c])) (some 113) (.agg #[.bool i3.neg, .slice i3.A i3.k i3.c])) (some 11) (.pointer (some ⟨gg, 0, none⟩))) W) := by
          clear S411 S410 S400 S310
          refine Lib.hid ?_
          intro W hW gg bg i1 rf F2 d2 ng2 i3 h3
          rw [HO.out, HA.out]
          (try simp only [Act.put, List.setIfInBounds_toArray, List.set_cons_zero, List.set_cons_succ])
          refine wpAnyH_ready (rs := [5, 6]) (by kernel_rfl) (by simp) ?_
          have XhW := Lib.hid hW
          have Xbg := Lib.hid bg
          have Xd2 := Lib.hid d2
          have Xng2 := Lib.hid ng2
          have Xh3 := Lib.hid h3
          clear hW bg d2 ng2 h3
          refine AllReadyH.cons rfl (fun K hK => ?_) ?_
          · rw [if_pos (by rfl)]
            simp only [List.getElem_toArray, List.getElem_cons_succ, List.getElem_cons_zero]
            go_simp
            refine (rwhole_any _ i3 (ceilQ a) 12 (by decide) (IntN.ofLt Xh3.out (ceil_lt HSa.out))).mono ?_
            rintro e v ⟨rg, rfl, hr, hb⟩
            have Hr := Lib.hid hr; have Hb := Lib.hid hb
            clear hr hb
            (try (go_wp2_with fail))
            refine hK.out _ _ (Below.after XhW.out Hb.out) (fun hHeld => ?_)
            clear hK K hHeld
            have hr := Hr.out; have hb := Hb.out
            (try simp only [List.setIfInBounds_toArray, List.set_cons_zero, List.set_cons_succ])
            have h := S401.out v (Below.after XhW.out hb) gg (Xbg.out.below hb) i1 rf F2 (Xd2.out.below hb) Xng2.out i3 rg _ (Dt.made hr) (Bx.out Xbg.out)
            rw [HO.out, HA.out] at h
            (try simp only [Act.put, List.setIfInBounds_toArray, List.set_cons_zero, List.set_cons_succ] at h)
            exact h
          refine AllReadyH.cons rfl (fun K hK => ?_) ?_
          · rw [if_pos (by rfl)]
            simp only [List.getElem_toArray, List.getElem_cons_succ, List.getElem_cons_zero]
            go_simp
            (try (go_wp2_with fail))
            refine hK.out _ _ (XhW.out.alloc XhW.out.size _) (fun hHeld => ?_)
            clear hK K hHeld
            (try simp only [List.setIfInBounds_toArray, List.set_cons_zero, List.set_cons_succ])
            have h := S311.out (W.alloc (.cells #[.bool false, .slice none 0 0, .bool false, .slice none 0 0] 36)) (XhW.out.alloc XhW.out.size _) W.heap.size (Bx.new XhW.out) gg (Xbg.out.alloc _) (Ne.symm (Bx.ne Xbg.out)) i1 rf F2 (Xd2.out.alloc _) (Dt.no Xd2.out) Xng2.out i3 (IntN.al Xh3.out _)
            rw [HO.out, HA.out] at h
            (try simp only [Act.put, List.setIfInBounds_toArray, List.set_cons_zero, List.set_cons_succ] at h)
            exact h
          exact AllReadyH.nil
        have S300 : Hid (∀ (W : World) (hW : Below v0.heap.size v0 W) (i1 : IV) (rf : RV) (F2 : Nat → Prop) (d2 : Dt W F2 (RatN rf (Rat.divInt a.floor 1))) (i3 : IV) (h3 : IntN i3 (ceilQ a) W), wpAnyH Tryz.prog .any ops6 Q6 (fun W => Below v0.heap.size v0 W) 5 #[true, true, true, true, true, false, false, false, false, false] (Act.put (Act.put (Act.put a0 (some 110) (.agg #[.bool i1.neg, .slice i1.A i1.k i1.c])) (some 111) (.agg #[.bool rf.num.neg, .slice rf.num.A rf.num.k rf.num.c, .bool rf.den.neg, .slice rf.den.A rf.den.k rf.den.c])) (some 113) (.agg #[.bool i3.neg, .slice i3.A i3.k i3.c])) W) := by
          clear S411 S410 S401 S311
          refine Lib.hid ?_
          intro W hW i1 rf F2 d2 i3 h3
          rw [HO.out, HA.out]
          (try simp only [Act.put, List.setIfInBounds_toArray, List.set_cons_zero, List.set_cons_succ])
          refine wpAnyH_ready (rs := [5, 6, 7]) (by kernel_rfl) (by simp) ?_
          have XhW := Lib.hid hW
          have Xd2 := Lib.hid d2
          have Xh3 := Lib.hid h3
          clear hW d2 h3
          refine AllReadyH.cons rfl (fun K hK => ?_) ?_
          · rw [if_pos (by rfl)]
            simp only [List.getElem_toArray, List.getElem_cons_succ, List.getElem_cons_zero]
            go_simp
            refine (rwhole_any _ i3 (ceilQ a) 12 (by decide) (IntN.ofLt Xh3.out (ceil_lt HSa.out))).mono ?_
            rintro e v ⟨rg, rfl, hr, hb⟩
            have Hr := Lib.hid hr; have Hb := Lib.hid hb
            clear hr hb
            (try (go_wp2_with fail))
            refine hK.out _ _ (Below.after XhW.out Hb.out) (fun hHeld => ?_)
            clear hK K hHeld
            have hr := Hr.out; have hb := Hb.out
            (try simp only [List.setIfInBounds_toArray, List.set_cons_zero, List.set_cons_succ])
            have h := S400.out v (Below.after XhW.out hb) i1 rf F2 (Xd2.out.below hb) i3 rg _ (Dt.made hr)
            rw [HO.out, HA.out] at h
            (try simp only [Act.put, List.setIfInBounds_toArray, List.set_cons_zero, List.set_cons_succ] at h)
            exact h
          refine AllReadyH.cons rfl (fun K hK => ?_) ?_
          · rw [if_pos (by rfl)]
            simp only [List.getElem_toArray, List.getElem_cons_succ, List.getElem_cons_zero]
            go_simp
            (try (go_wp2_with fail))
            refine hK.out _ _ (XhW.out.alloc XhW.out.size _) (fun hHeld => ?_)
            clear hK K hHeld
            (try simp only [List.setIfInBounds_toArray, List.set_cons_zero, List.set_cons_succ])
            have h := S310.out (W.alloc (.cells #[.bool false, .slice none 0 0, .bool false, .slice none 0 0] 36)) (XhW.out.alloc XhW.out.size _) W.heap.size (Bx.new XhW.out) i1 rf F2 (Xd2.out.alloc _) (Dt.no Xd2.out) i3 (IntN.al Xh3.out _)
            rw [HO.out, HA.out] at h
            (try simp only [Act.put, List.setIfInBounds_toArray, List.set_cons_zero, List.set_cons_succ] at h)
            exact h
          refine AllReadyH.cons rfl (fun K hK => ?_) ?_
          · rw [if_pos (by rfl)]
            simp only [List.getElem_toArray, List.getElem_cons_succ, List.getElem_cons_zero]
            go_simp
            (try (go_wp2_with fail))
            refine hK.out _ _ (XhW.out.alloc XhW.out.size _) (fun hHeld => ?_)
            clear hK K hHeld
            (try simp only [List.setIfInBounds_toArray, List.set_cons_zero, List.set_cons_succ])
            have h := S301.out (W.alloc (.cells #[.bool false, .slice none 0 0, .bool false, .slice none 0 0] 36)) (XhW.out.alloc XhW.out.size _) W.heap.size (Bx.new XhW.out) i1 rf F2 (Xd2.out.alloc _) (Dt.no Xd2.out) i3 (IntN.al Xh3.out _)
            rw [HO.out, HA.out] at h
            (try simp only [Act.put, List.setIfInBounds_toArray, List.set_cons_zero, List.set_cons_succ] at h)
            exact h
          exact AllReadyH.nil
        have S211 : Hid (∀ (W : World) (hW : Below v0.heap.size v0 W) (gf : Nat) (bf : Bx v0 W gf) (gg : Nat) (bg : Bx v0 W gg) (ne : gf ≠ gg) (i1 : IV) (rf : RV) (F2 : Nat → Prop) (d2 : Dt W F2 (RatN rf (Rat.divInt a.floor 1))) (nf2 : ¬ F2 gf) (ng2 : ¬ F2 gg), wpAnyH Tryz.prog .any ops6 Q6 (fun W => Below v0.heap.size v0 W) 4 #[true, true, true, true, false, false, true, true, false, false] (Act.put (Act.put (Act.put (Act.put a0 (some 110) (.agg #[.bool i1.neg, .slice i1.A i1.k i1.c])) (some 111) (.agg #[.bool rf.num.neg, .slice rf.num.A rf.num.k rf.num.c, .bool rf.den.neg, .slice rf.den.A rf.den.k rf.den.c])) (some 10) (.pointer (some ⟨gf, 0, none⟩))) (some 11) (.pointer (some ⟨gg, 0, none⟩))) W) := by
          clear S411 S410 S401 S400 S310 S301 S300
          refine Lib.hid ?_
          intro W hW gf bf gg bg ne i1 rf F2 d2 nf2 ng2
          rw [HO.out, HA.out]
          (try simp only [Act.put, List.setIfInBounds_toArray, List.set_cons_zero, List.set_cons_succ])
          refine wpAnyH_ready (rs := [4]) (by kernel_rfl) (by simp) ?_
          have XhW := Lib.hid hW
          have Xbf := Lib.hid bf
          have Xbg := Lib.hid bg
          have Xne := Lib.hid ne
          have Xd2 := Lib.hid d2
          have Xnf2 := Lib.hid nf2
          have Xng2 := Lib.hid ng2
          clear hW bf bg ne d2 nf2 ng2
          refine AllReadyH.cons rfl (fun K hK => ?_) ?_
          · rw [if_pos (by rfl)]
            simp only [List.getElem_toArray, List.getElem_cons_succ, List.getElem_cons_zero]
            go_simp
            refine (rceil_any _ ra a 12 (by decide) (by decide) (LSt.da (LSt.below HL0.out XhW.out))).mono ?_
            rintro e v ⟨i3, rfl, hr, hb⟩
            have Hr := Lib.hid hr; have Hb := Lib.hid hb
            clear hr hb
            (try (go_wp2_with fail))
            refine hK.out _ _ (Below.after XhW.out Hb.out) (fun hHeld => ?_)
            clear hK K hHeld
            have hr := Hr.out; have hb := Hb.out
            (try simp only [List.setIfInBounds_toArray, List.set_cons_zero, List.set_cons_succ])
            have h := S311.out v (Below.after XhW.out hb) gf (Xbf.out.below hb) gg (Xbg.out.below hb) Xne.out i1 rf F2 (Xd2.out.below hb) Xnf2.out Xng2.out i3 hr.now
            rw [HO.out, HA.out] at h
            (try simp only [Act.put, List.setIfInBounds_toArray, List.set_cons_zero, List.set_cons_succ] at h)
            exact h
          exact AllReadyH.nil
        have S210 : Hid (∀ (W : World) (hW : Below v0.heap.size v0 W) (gf : Nat) (bf : Bx v0 W gf) (i1 : IV) (rf : RV) (F2 : Nat → Prop) (d2 : Dt W F2 (RatN rf (Rat.divInt a.floor 1))) (nf2 : ¬ F2 gf), wpAnyH Tryz.prog .any ops6 Q6 (fun W => Below v0.heap.size v0 W) 5 #[true, true, true, true, false, false, true, false, false, false] (Act.put (Act.put (Act.put a0 (some 110) (.agg #[.bool i1.neg, .slice i1.A i1.k i1.c])) (some 111) (.agg #[.bool rf.num.neg, .slice rf.num.A rf.num.k rf.num.c, .bool rf.den.neg, .slice rf.den.A rf.den.k rf.den.c])) (some 10) (.pointer (some ⟨gf, 0, none⟩))) W) := by
          clear S411 S410 S401 S400 S311 S301 S300
          refine Lib.hid ?_
          intro W hW gf bf i1 rf F2 d2 nf2
          rw [HO.out, HA.out]
          (try simp only [Act.put, List.setIfInBounds_toArray, List.set_cons_zero, List.set_cons_succ])
          refine wpAnyH_ready (rs := [4, 7]) (by kernel_rfl) (by simp) ?_
          have XhW := Lib.hid hW
          have Xbf := Lib.hid bf
          have Xd2 := Lib.hid d2
          have Xnf2 := Lib.hid nf2
          clear hW bf d2 nf2
          refine AllReadyH.cons rfl (fun K hK => ?_) ?_
          · rw [if_pos (by rfl)]
            simp only [List.getElem_toArray, List.getElem_cons_succ, List.getElem_cons_zero]
            go_simp
            refine (rceil_any _ ra a 12 (by decide) (by decide) (LSt.da (LSt.below HL0.out XhW.out))).mono ?_
            rintro e v ⟨i3, rfl, hr, hb⟩
            have Hr := Lib.hid hr; have Hb := Lib.hid hb
            clear hr hb
            (try (go_wp2_with fail))
            refine hK.out _ _ (Below.after XhW.out Hb.out) (fun hHeld => ?_)
            clear hK K hHeld
            have hr := Hr.out; have hb := Hb.out
            (try simp only [List.setIfInBounds_toArray, List.set_cons_zero, List.set_cons_succ])
            have h := S310.out v (Below.after XhW.out hb) gf (Xbf.out.below hb) i1 rf F2 (Xd2.out.below hb) Xnf2.out i3 hr.now
            rw [HO.out, HA.out] at h
            (try simp only [Act.put, List.setIfInBounds_toArray, List.set_cons_zero, List.set_cons_succ] at h)
            exact h
          refine AllReadyH.cons rfl (fun K hK => ?_) ?_
          · rw [if_pos (by rfl)]
            simp only [List.getElem_toArray, List.getElem_cons_succ, List.getElem_cons_zero]
            go_simp
            (try (go_wp2_with fail))
            refine hK.out _ _ (XhW.out.alloc XhW.out.size _) (fun hHeld => ?_)
            clear hK K hHeld
            (try simp only [List.setIfInBounds_toArray, List.set_cons_zero, List.set_cons_succ])
            have h := S211.out (W.alloc (.cells #[.bool false, .slice none 0 0, .bool false, .slice none 0 0] 36)) (XhW.out.alloc XhW.out.size _) gf (Xbf.out.alloc _) W.heap.size (Bx.new XhW.out) (Bx.ne Xbf.out) i1 rf F2 (Xd2.out.alloc _) Xnf2.out (Dt.no Xd2.out)
            rw [HO.out, HA.out] at h
            (try simp only [Act.put, List.setIfInBounds_toArray, List.set_cons_zero, List.set_cons_succ] at h)
            exact h
          exact AllReadyH.nil
        have S201 : Hid (∀ (W : World) (hW : Below v0.heap.size v0 W) (gg : Nat) (bg : Bx v0 W gg) (i1 : IV) (rf : RV) (F2 : Nat → Prop) (d2 : Dt W F2 (RatN rf (Rat.divInt a.floor 1))) (ng2 : ¬ F2 gg), wpAnyH Tryz.prog .any ops6 Q6 (fun W => Below v0.heap.size v0 W) 5 #[true, true, true, true, false, false, false, true, false, false] (Act.put (Act.put (Act.put a0 (some 110) (.agg #[.bool i1.neg, .slice i1.A i1.k i1.c])) (some 111) (.agg #[.bool rf.num.neg, .slice rf.num.A rf.num.k rf.num.c, .bool rf.den.neg, .slice rf.den.A rf.den.k rf.den.c])) (some 11) (.pointer (some ⟨gg, 0, none⟩))) W) := by
          clear S411 S410 S401 S400 S311 S310 S300 S210
          refine Lib.hid ?_
          intro W hW gg bg i1 rf F2 d2 ng2
          rw [HO.out, HA.out]
          (try simp only [Act.put, List.setIfInBounds_toArray, List.set_cons_zero, List.set_cons_succ])
          refine wpAnyH_ready (rs := [4, 6]) (by kernel_rfl) (by simp) ?_
          have XhW := Lib.hid hW
          have Xbg := Lib.hid bg
          have Xd2 := Lib.hid d2
          have Xng2 := Lib.hid ng2
          clear hW bg d2 ng2
          refine AllReadyH.cons rfl (fun K hK => ?_) ?_
          · rw [if_pos (by rfl)]
            simp only [List.getElem_toArray, List.getElem_cons_succ, List.getElem_cons_zero]
            go_simp
            refine (rceil_any _ ra a 12 (by decide) (by decide) (LSt.da (LSt.below HL0.out XhW.out))).mono ?_
            rintro e v ⟨i3, rfl, hr, hb⟩
            have Hr := Lib.hid hr; have Hb := Lib.hid hb
            clear hr hb
            (try (go_wp2_with fail))
            refine hK.out _ _ (Below.after XhW.out Hb.out) (fun hHeld => ?_)
            clear hK K hHeld
            have hr := Hr.out; have hb := Hb.out
            (try simp only [List.setIfInBounds_toArray, List.set_cons_zero, List.set_cons_succ])
            have h := S301.out v (Below.after XhW.out hb) gg (Xbg.out.below hb) i1 rf F2 (Xd2.out.below hb) Xng2.out i3 hr.now
            rw [HO.out, HA.out] at h
            (try simp only [Act.put, List.setIfInBounds_toArray, List.set_cons_zero, List.set_cons_succ] at h)
            exact h
          refine AllReadyH.cons rfl (fun K hK => ?_) ?_
          · rw [if_pos (by rfl)]
            simp only [List.getElem_toArray, List.getElem_cons_succ, List.getElem_cons_zero]
            go_simp
            (try (go_wp2_with fail))
            refine hK.out _ _ (XhW.out.alloc XhW.out.size _) (fun hHeld => ?_)
            clear hK K hHeld
            (try simp only [List.setIfInBounds_toArray, List.set_cons_zero, List.set_cons_succ])
            have h := S211.out (W.alloc (.cells #[.bool false, .slice none 0 0, .bool false, .slice none 0 0] 36)) (XhW.out.alloc XhW.out.size _) W.heap.size (Bx.new XhW.out) gg (Xbg.out.alloc _) (Ne.symm (Bx.ne Xbg.out)) i1 rf F2 (Xd2.out.alloc _) (Dt.no Xd2.out) Xng2.out
            rw [HO.out, HA.out] at h
            (try simp only [Act.put, List.setIfInBounds_toArray, List.set_cons_zero, List.set_cons_succ] at h)
            exact h
          exact AllReadyH.nil
        have S200 : Hid (∀ (W : World) (hW : Below v0.heap.size v0 W) (i1 : IV) (rf : RV) (F2 : Nat → Prop) (d2 : Dt W F2 (RatN rf (Rat.divInt a.floor 1))), wpAnyH Tryz.prog .any ops6 Q6 (fun W => Below v0.heap.size v0 W) 6 #[true, true, true, true, false, false, false, false, false, false] (Act.put (Act.put a0 (some 110) (.agg #[.bool i1.neg, .slice i1.A i1.k i1.c])) (some 111) (.agg #[.bool rf.num.neg, .slice rf.num.A rf.num.k rf.num.c, .bool rf.den.neg, .slice rf.den.A rf.den.k rf.den.c])) W) := by
          clear S411 S410 S401 S400 S311 S310 S301 S211
          refine Lib.hid ?_
          intro W hW i1 rf F2 d2
          rw [HO.out, HA.out]
          (try simp only [Act.put, List.setIfInBounds_toArray, List.set_cons_zero, List.set_cons_succ])
          refine wpAnyH_ready (rs := [4, 6, 7]) (by kernel_rfl) (by simp) ?_
          have XhW := Lib.hid hW
          have Xd2 := Lib.hid d2
          clear hW d2
          refine AllReadyH.cons rfl (fun K hK => ?_) ?_
          · rw [if_pos (by rfl)]
            simp only [List.getElem_toArray, List.getElem_cons_succ, List.getElem_cons_zero]
            go_simp
            refine (rceil_any _ ra a 12 (by decide) (by decide) (LSt.da (LSt.below HL0.out XhW.out))).mono ?_
            rintro e v ⟨i3, rfl, hr, hb⟩
            have Hr := Lib.hid hr; have Hb := Lib.hid hb
            clear hr hb
            (try (go_wp2_with fail))
            refine hK.out _ _ (Below.after XhW.out Hb.out) (fun hHeld => ?_)
            clear hK K hHeld
            have hr := Hr.out; have hb := Hb.out
            (try simp only [List.setIfInBounds_toArray, List.set_cons_zero, List.set_cons_succ])
            have h := S300.out v (Below.after XhW.out hb) i1 rf F2 (Xd2.out.below hb) i3 hr.now
            rw [HO.out, HA.out] at h
            (try simp only [Act.put, List.setIfInBounds_toArray, List.set_cons_zero, List.set_cons_succ] at h)
            exact h
          refine AllReadyH.cons rfl (fun K hK => ?_) ?_
          · rw [if_pos (by rfl)]
            simp only [List.getElem_toArray, List.getElem_cons_succ, List.getElem_cons_zero]
            go_simp
            (try (go_wp2_with fail))
            refine hK.out _ _ (XhW.out.alloc XhW.out.size _) (fun hHeld => ?_)
            clear hK K hHeld
            (try simp only [List.setIfInBounds_toArray, List.set_cons_zero, List.set_cons_succ])
            have h := S210.out (W.alloc (.cells #[.bool false, .slice none 0 0, .bool false, .slice none 0 0] 36)) (XhW.out.alloc XhW.out.size _) W.heap.size (Bx.new XhW.out) i1 rf F2 (Xd2.out.alloc _) (Dt.no Xd2.out)
            rw [HO.out, HA.out] at h
            (try simp only [Act.put, List.setIfInBounds_toArray, List.set_cons_zero, List.set_cons_succ] at h)
            exact h
          refine AllReadyH.cons rfl (fun K hK => ?_) ?_
          · rw [if_pos (by rfl)]
            simp only [List.getElem_toArray, List.getElem_cons_succ, List.getElem_cons_zero]
            go_simp
            (try (go_wp2_with fail))
            refine hK.out _ _ (XhW.out.alloc XhW.out.size _) (fun hHeld => ?_)
            clear hK K hHeld
            (try simp only [List.setIfInBounds_toArray, List.set_cons_zero, List.set_cons_succ])
            have h := S201.out (W.alloc (.cells #[.bool false, .slice none 0 0, .bool false, .slice none 0 0] 36)) (XhW.out.alloc XhW.out.size _) W.heap.size (Bx.new XhW.out) i1 rf F2 (Xd2.out.alloc _) (Dt.no Xd2.out)
            rw [HO.out, HA.out] at h
            (try simp only [Act.put, List.setIfInBounds_toArray, List.set_cons_zero, List.set_cons_succ] at h)
            exact h
          exact AllReadyH.nil
        have S111 : Hid (∀ (W : World) (hW : Below v0.heap.size v0 W) (gf : Nat) (bf : Bx v0 W gf) (gg : Nat) (bg : Bx v0 W gg) (ne : gf ≠ gg) (i1 : IV) (h1 : IntN i1 a.floor W), wpAnyH Tryz.prog .any ops6 Q6 (fun W => Below v0.heap.size v0 W) 5 #[true, true, false, true, false, false, true, true, false, false] (Act.put (Act.put (Act.put a0 (some 110) (.agg #[.bool i1.neg, .slice i1.A i1.k i1.c])) (some 10) (.pointer (some ⟨gf, 0, none⟩))) (some 11) (.pointer (some ⟨gg, 0, none⟩))) W) := by
          clear S411 S410 S401 S400 S311 S310 S301 S300 S210 S201 S200
          refine Lib.hid ?_
          intro W hW gf bf gg bg ne i1 h1
          rw [HO.out, HA.out]
          (try simp only [Act.put, List.setIfInBounds_toArray, List.set_cons_zero, List.set_cons_succ])
          refine wpAnyH_ready (rs := [2]) (by kernel_rfl) (by simp) ?_
          have XhW := Lib.hid hW
          have Xbf := Lib.hid bf
          have Xbg := Lib.hid bg
          have Xne := Lib.hid ne
          have Xh1 := Lib.hid h1
          clear hW bf bg ne h1
          refine AllReadyH.cons rfl (fun K hK => ?_) ?_
          · rw [if_pos (by rfl)]
            simp only [List.getElem_toArray, List.getElem_cons_succ, List.getElem_cons_zero]
            go_simp
            refine (rwhole_any _ i1 a.floor 12 (by decide) (IntN.ofLt Xh1.out (floor_lt HSa.out))).mono ?_
            rintro e v ⟨rf, rfl, hr, hb⟩
            have Hr := Lib.hid hr; have Hb := Lib.hid hb
            clear hr hb
            (try (go_wp2_with fail))
            refine hK.out _ _ (Below.after XhW.out Hb.out) (fun hHeld => ?_)
            clear hK K hHeld
            have hr := Hr.out; have hb := Hb.out
            (try simp only [List.setIfInBounds_toArray, List.set_cons_zero, List.set_cons_succ])
            have h := S211.out v (Below.after XhW.out hb) gf (Xbf.out.below hb) gg (Xbg.out.below hb) Xne.out i1 rf _ (Dt.made hr) (Bx.out Xbf.out) (Bx.out Xbg.out)
            rw [HO.out, HA.out] at h
            (try simp only [Act.put, List.setIfInBounds_toArray, List.set_cons_zero, List.set_cons_succ] at h)
            exact h
          exact AllReadyH.nil
        have S110 : Hid (∀ (W : World) (hW : Below v0.heap.size v0 W) (gf : Nat) (bf : Bx v0 W gf) (i1 : IV) (h1 : IntN i1 a.floor W), wpAnyH Tryz.prog .any ops6 Q6 (fun W => Below v0.heap.size v0 W) 6 #[true, true, false, true, false, false, true, false, false, false] (Act.put (Act.put a0 (some 110) (.agg #[.bool i1.neg, .slice i1.A i1.k i1.c])) (some 10) (.pointer (some ⟨gf, 0, none⟩))) W) := by
          clear S411 S410 S401 S400 S311 S310 S301 S300 S211 S201 S200
          refine Lib.hid ?_
          intro W hW gf bf i1 h1
          rw [HO.out, HA.out]
          (try simp only [Act.put, List.setIfInBounds_toArray, List.set_cons_zero, List.set_cons_succ])
          refine wpAnyH_ready (rs := [2, 7]) (by kernel_rfl) (by simp) ?_
          have XhW := Lib.hid hW
          have Xbf := Lib.hid bf
          have Xh1 := Lib.hid h1
          clear hW bf h1
          refine AllReadyH.cons rfl (fun K hK => ?_) ?_
          · rw [if_pos (by rfl)]
            simp only [List.getElem_toArray, List.getElem_cons_succ, List.getElem_cons_zero]
            go_simp
            refine (rwhole_any _ i1 a.floor 12 (by decide) (IntN.ofLt Xh1.out (floor_lt HSa.out))).mono ?_
            rintro e v ⟨rf, rfl, hr, hb⟩
            have Hr := Lib.hid hr; have Hb := Lib.hid hb
            clear hr hb
            (try (go_wp2_with fail))
            refine hK.out _ _ (Below.after XhW.out Hb.out) (fun hHeld => ?_)
            clear hK K hHeld
            have hr := Hr.out; have hb := Hb.out
            (try simp only [List.setIfInBounds_toArray, List.set_cons_zero, List.set_cons_succ])
            have h := S210.out v (Below.after XhW.out hb) gf (Xbf.out.below hb) i1 rf _ (Dt.made hr) (Bx.out Xbf.out)
            rw [HO.out, HA.out] at h
            (try simp only [Act.put, List.setIfInBounds_toArray, List.set_cons_zero, List.set_cons_succ] at h)
            exact h
          refine AllReadyH.cons rfl (fun K hK => ?_) ?_
          · rw [if_pos (by rfl)]
            simp only [List.getElem_toArray, List.getElem_cons_succ, List.getElem_cons_zero]
            go_simp
            (try (go_wp2_with fail))
            refine hK.out _ _ (XhW.out.alloc XhW.out.size _) (fun hHeld => ?_)
            clear hK K hHeld
            (try simp only [List.setIfInBounds_toArray, List.set_cons_zero, List.set_cons_succ])
            have h := S111.out (W.alloc (.cells #[.bool false, .slice none 0 0, .bool false, .slice none 0 0] 36)) (XhW.out.alloc XhW.out.size _) gf (Xbf.out.alloc _) W.heap.size (Bx.new XhW.out) (Bx.ne Xbf.out) i1 (IntN.al Xh1.out _)
            rw [HO.out, HA.out] at h
            (try simp only [Act.put, List.setIfInBounds_toArray, List.set_cons_zero, List.set_cons_succ] at h)
            exact h
          exact AllReadyH.nil
        have S101 : Hid (∀ (W : World) (hW : Below v0.heap.size v0 W) (gg : Nat) (bg : Bx v0 W gg) (i1 : IV) (h1 : IntN i1 a.floor W), wpAnyH Tryz.prog .any ops6 Q6 (fun W => Below v0.heap.size v0 W) 6 #[true, true, false, true, false, false, false, true, false, false] (Act.put (Act.put a0 (some 110) (.agg #[.bool i1.neg, .slice i1.A i1.k i1.c])) (some 11) (.pointer (some ⟨gg, 0, none⟩))) W) := by
          clear S411 S410 S401 S400 S311 S310 S301 S300 S211 S210 S200 S110
          refine Lib.hid ?_
          intro W hW gg bg i1 h1
          rw [HO.out, HA.out]
          (try simp only [Act.put, List.setIfInBounds_toArray, List.set_cons_zero, List.set_cons_succ])
          refine wpAnyH_ready (rs := [2, 6]) (by kernel_rfl) (by simp) ?_
          have XhW := Lib.hid hW
          have Xbg := Lib.hid bg
          have Xh1 := Lib.hid h1
          clear hW bg h1
          refine AllReadyH.cons rfl (fun K hK => ?_) ?_
          · rw [if_pos (by rfl)]
            simp only [List.getElem_toArray, List.getElem_cons_succ, List.getElem_cons_zero]
            go_simp
            refine (rwhole_any _ i1 a.floor 12 (by decide) (IntN.ofLt Xh1.out (floor_lt HSa.out))).mono ?_
            rintro e v ⟨rf, rfl, hr, hb⟩
            have Hr := Lib.hid hr; have Hb := Lib.hid hb
            clear hr hb
            (try (go_wp2_with fail))
            refine hK.out _ _ (Below.after XhW.out Hb.out) (fun hHeld => ?_)
            clear hK K hHeld
            have hr := Hr.out; have hb := Hb.out
            (try simp only [List.setIfInBounds_toArray, List.set_cons_zero, List.set_cons_succ])
            have h := S201.out v (Below.after XhW.out hb) gg (Xbg.out.below hb) i1 rf _ (Dt.made hr) (Bx.out Xbg.out)
            rw [HO.out, HA.out] at h
            (try simp only [Act.put, List.setIfInBounds_toArray, List.set_cons_zero, List.set_cons_succ] at h)
            exact h
          refine AllReadyH.cons rfl (fun K hK => ?_) ?_
          · rw [if_pos (by rfl)]
            simp only [List.getElem_toArray, List.getElem_cons_succ, List.getElem_cons_zero]
            go_simp
            (try (go_wp2_with fail))
            refine hK.out _ _ (XhW.out.alloc XhW.out.size _) (fun hHeld => ?_)
            clear hK K hHeld
            (try simp only [List.setIfInBounds_toArray, List.set_cons_zero, List.set_cons_succ])
            have h := S111.out (W.alloc (.cells #[.bool false, .slice none 0 0, .bool false, .slice none 0 0] 36)) (XhW.out.alloc XhW.out.size _) W.heap.size (Bx.new XhW.out) gg (Xbg.out.alloc _) (Ne.symm (Bx.ne Xbg.out)) i1 (IntN.al Xh1.out _)
            rw [HO.out, HA.out] at h
            (try simp only [Act.put, List.setIfInBounds_toArray, List.set_cons_zero, List.set_cons_succ] at h)
            exact h
          exact AllReadyH.nil
        have S100 : Hid (∀ (W : World) (hW : Below v0.heap.size v0 W) (i1 : IV) (h1 : IntN i1 a.floor W), wpAnyH Tryz.prog .any ops6 Q6 (fun W => Below v0.heap.size v0 W) 7 #[true, true, false, true, false, false, false, false, false, false] (Act.put a0 (some 110) (.agg #[.bool i1.neg, .slice i1.A i1.k i1.c])) W) := by
          clear S411 S410 S401 S400 S311 S310 S301 S300 S211 S210 S201 S111
          refine Lib.hid ?_
          intro W hW i1 h1
          rw [HO.out, HA.out]
          (try simp only [Act.put, List.setIfInBounds_toArray, List.set_cons_zero, List.set_cons_succ])
          refine wpAnyH_ready (rs := [2, 6, 7]) (by kernel_rfl) (by simp) ?_
          have XhW := Lib.hid hW
          have Xh1 := Lib.hid h1
          clear hW h1
          refine AllReadyH.cons rfl (fun K hK => ?_) ?_
          · rw [if_pos (by rfl)]
            simp only [List.getElem_toArray, List.getElem_cons_succ, List.getElem_cons_zero]
            go_simp
            refine (rwhole_any _ i1 a.floor 12 (by decide) (IntN.ofLt Xh1.out (floor_lt HSa.out))).mono ?_
            rintro e v ⟨rf, rfl, hr, hb⟩
            have Hr := Lib.hid hr; have Hb := Lib.hid hb
            clear hr hb
            (try (go_wp2_with fail))
            refine hK.out _ _ (Below.after XhW.out Hb.out) (fun hHeld => ?_)
            clear hK K hHeld
            have hr := Hr.out; have hb := Hb.out
            (try simp only [List.setIfInBounds_toArray, List.set_cons_zero, List.set_cons_succ])
            have h := S200.out v (Below.after XhW.out hb) i1 rf _ (Dt.made hr)
            rw [HO.out, HA.out] at h
            (try simp only [Act.put, List.setIfInBounds_toArray, List.set_cons_zero, List.set_cons_succ] at h)
            exact h
          refine AllReadyH.cons rfl (fun K hK => ?_) ?_
          · rw [if_pos (by rfl)]
            simp only [List.getElem_toArray, List.getElem_cons_succ, List.getElem_cons_zero]
            go_simp
            (try (go_wp2_with fail))
            refine hK.out _ _ (XhW.out.alloc XhW.out.size _) (fun hHeld => ?_)
            clear hK K hHeld
            (try simp only [List.setIfInBounds_toArray, List.set_cons_zero, List.set_cons_succ])
            have h := S110.out (W.alloc (.cells #[.bool false, .slice none 0 0, .bool false, .slice none 0 0] 36)) (XhW.out.alloc XhW.out.size _) W.heap.size (Bx.new XhW.out) i1 (IntN.al Xh1.out _)
            rw [HO.out, HA.out] at h
            (try simp only [Act.put, List.setIfInBounds_toArray, List.set_cons_zero, List.set_cons_succ] at h)
            exact h
          refine AllReadyH.cons rfl (fun K hK => ?_) ?_
          · rw [if_pos (by rfl)]
            simp only [List.getElem_toArray, List.getElem_cons_succ, List.getElem_cons_zero]
            go_simp
            (try (go_wp2_with fail))
            refine hK.out _ _ (XhW.out.alloc XhW.out.size _) (fun hHeld => ?_)
            clear hK K hHeld
            (try simp only [List.setIfInBounds_toArray, List.set_cons_zero, List.set_cons_succ])
            have h := S101.out (W.alloc (.cells #[.bool false, .slice none 0 0, .bool false, .slice none 0 0] 36)) (XhW.out.alloc XhW.out.size _) W.heap.size (Bx.new XhW.out) i1 (IntN.al Xh1.out _)
            rw [HO.out, HA.out] at h
            (try simp only [Act.put, List.setIfInBounds_toArray, List.set_cons_zero, List.set_cons_succ] at h)
            exact h
          exact AllReadyH.nil
        have S011 : Hid (∀ (W : World) (hW : Below v0.heap.size v0 W) (gf : Nat) (bf : Bx v0 W gf) (gg : Nat) (bg : Bx v0 W gg) (ne : gf ≠ gg), wpAnyH Tryz.prog .any ops6 Q6 (fun W => Below v0.heap.size v0 W) 6 #[true, false, false, true, false, false, true, true, false, false] (Act.put (Act.put a0 (some 10) (.pointer (some ⟨gf, 0, none⟩))) (some 11) (.pointer (some ⟨gg, 0, none⟩))) W) := by
          clear S411 S410 S401 S400 S311 S310 S301 S300 S211 S210 S201 S200 S110 S101 S100
          refine Lib.hid ?_
          intro W hW gf bf gg bg ne
          rw [HO.out, HA.out]
          (try simp only [Act.put, List.setIfInBounds_toArray, List.set_cons_zero, List.set_cons_succ])
          refine wpAnyH_ready (rs := [1]) (by kernel_rfl) (by simp) ?_
          have XhW := Lib.hid hW
          have Xbf := Lib.hid bf
          have Xbg := Lib.hid bg
          have Xne := Lib.hid ne
          clear hW bf bg ne
          refine AllReadyH.cons rfl (fun K hK => ?_) ?_
          · rw [if_pos (by rfl)]
            simp only [List.getElem_toArray, List.getElem_cons_succ, List.getElem_cons_zero]
            go_simp
            refine (rfloor_any _ ra a 12 (by decide) (by decide) (LSt.da (LSt.below HL0.out XhW.out))).mono ?_
            rintro e v ⟨i1, rfl, hr, hb⟩
            have Hr := Lib.hid hr; have Hb := Lib.hid hb
            clear hr hb
            (try (go_wp2_with fail))
            refine hK.out _ _ (Below.after XhW.out Hb.out) (fun hHeld => ?_)
            clear hK K hHeld
            have hr := Hr.out; have hb := Hb.out
            (try simp only [List.setIfInBounds_toArray, List.set_cons_zero, List.set_cons_succ])
            have h := S111.out v (Below.after XhW.out hb) gf (Xbf.out.below hb) gg (Xbg.out.below hb) Xne.out i1 hr.now
            rw [HO.out, HA.out] at h
            (try simp only [Act.put, List.setIfInBounds_toArray, List.set_cons_zero, List.set_cons_succ] at h)
            exact h
          exact AllReadyH.nil
        have S010 : Hid (∀ (W : World) (hW : Below v0.heap.size v0 W) (gf : Nat) (bf : Bx v0 W gf), wpAnyH Tryz.prog .any ops6 Q6 (fun W => Below v0.heap.size v0 W) 7 #[true, false, false, true, false, false, true, false, false, false] (Act.put a0 (some 10) (.pointer (some ⟨gf, 0, none⟩))) W) := by
          clear S411 S410 S401 S400 S311 S310 S301 S300 S211 S210 S201 S200 S111 S101 S100
          refine Lib.hid ?_
          intro W hW gf bf
          rw [HO.out, HA.out]
          (try simp only [Act.put, List.setIfInBounds_toArray, List.set_cons_zero, List.set_cons_succ])
          refine wpAnyH_ready (rs := [1, 7]) (by kernel_rfl) (by simp) ?_
          have XhW := Lib.hid hW
          have Xbf := Lib.hid bf
          clear hW bf
          refine AllReadyH.cons rfl (fun K hK => ?_) ?_
          · rw [if_pos (by rfl)]
            simp only [List.getElem_toArray, List.getElem_cons_succ, List.getElem_cons_zero]
            go_simp
            refine (rfloor_any _ ra a 12 (by decide) (by decide) (LSt.da (LSt.below HL0.out XhW.out))).mono ?_
            rintro e v ⟨i1, rfl, hr, hb⟩
            have Hr := Lib.hid hr; have Hb := Lib.hid hb
            clear hr hb
            (try (go_wp2_with fail))
            refine hK.out _ _ (Below.after XhW.out Hb.out) (fun hHeld => ?_)
            clear hK K hHeld
            have hr := Hr.out; have hb := Hb.out
            (try simp only [List.setIfInBounds_toArray, List.set_cons_zero, List.set_cons_succ])
            have h := S110.out v (Below.after XhW.out hb) gf (Xbf.out.below hb) i1 hr.now
            rw [HO.out, HA.out] at h
            (try simp only [Act.put, List.setIfInBounds_toArray, List.set_cons_zero, List.set_cons_succ] at h)
            exact h
          refine AllReadyH.cons rfl (fun K hK => ?_) ?_
          · rw [if_pos (by rfl)]
            simp only [List.getElem_toArray, List.getElem_cons_succ, List.getElem_cons_zero]
            go_simp
            (try (go_wp2_with fail))
            refine hK.out _ _ (XhW.out.alloc XhW.out.size _) (fun hHeld => ?_)
            clear hK K hHeld
            (try simp only [List.setIfInBounds_toArray, List.set_cons_zero, List.set_cons_succ])
            have h := S011.out (W.alloc (.cells #[.bool false, .slice none 0 0, .bool false, .slice none 0 0] 36)) (XhW.out.alloc XhW.out.size _) gf (Xbf.out.alloc _) W.heap.size (Bx.new XhW.out) (Bx.ne Xbf.out)
            rw [HO.out, HA.out] at h
            (try simp only [Act.put, List.setIfInBounds_toArray, List.set_cons_zero, List.set_cons_succ] at h)
            exact h
          exact AllReadyH.nil
        have S001 : Hid (∀ (W : World) (hW : Below v0.heap.size v0 W) (gg : Nat) (bg : Bx v0 W gg), wpAnyH Tryz.prog .any ops6 Q6 (fun W => Below v0.heap.size v0 W) 7 #[true, false, false, true, false, false, false, true, false, false] (Act.put a0 (some 11) (.pointer (some ⟨gg, 0, none⟩))) W) := by
          clear S411 S410 S401 S400 S311 S310 S301 S300 S211 S210 S201 S200 S111 S110 S100 S010
          refine Lib.hid ?_
          intro W hW gg bg
          rw [HO.out, HA.out]
          (try simp only [Act.put, List.setIfInBounds_toArray, List.set_cons_zero, List.set_cons_succ])
          refine wpAnyH_ready (rs := [1, 6]) (by kernel_rfl) (by simp) ?_
          have XhW := Lib.hid hW
          have Xbg := Lib.hid bg
          clear hW bg
          refine AllReadyH.cons rfl (fun K hK => ?_) ?_
          · rw [if_pos (by rfl)]
            simp only [List.getElem_toArray, List.getElem_cons_succ, List.getElem_cons_zero]
            go_simp
            refine (rfloor_any _ ra a 12 (by decide) (by decide) (LSt.da (LSt.below HL0.out XhW.out))).mono ?_
            rintro e v ⟨i1, rfl, hr, hb⟩
            have Hr := Lib.hid hr; have Hb := Lib.hid hb
            clear hr hb
            (try (go_wp2_with fail))
            refine hK.out _ _ (Below.after XhW.out Hb.out) (fun hHeld => ?_)
            clear hK K hHeld
            have hr := Hr.out; have hb := Hb.out
            (try simp only [List.setIfInBounds_toArray, List.set_cons_zero, List.set_cons_succ])
            have h := S101.out v (Below.after XhW.out hb) gg (Xbg.out.below hb) i1 hr.now
            rw [HO.out, HA.out] at h
            (try simp only [Act.put, List.setIfInBounds_toArray, List.set_cons_zero, List.set_cons_succ] at h)
            exact h
          refine AllReadyH.cons rfl (fun K hK => ?_) ?_
          · rw [if_pos (by rfl)]
            simp only [List.getElem_toArray, List.getElem_cons_succ, List.getElem_cons_zero]
            go_simp
            (try (go_wp2_with fail))
            refine hK.out _ _ (XhW.out.alloc XhW.out.size _) (fun hHeld => ?_)
            clear hK K hHeld
            (try simp only [List.setIfInBounds_toArray, List.set_cons_zero, List.set_cons_succ])
            have h := S011.out (W.alloc (.cells #[.bool false, .slice none 0 0, .bool false, .slice none 0 0] 36)) (XhW.out.alloc XhW.out.size _) W.heap.size (Bx.new XhW.out) gg (Xbg.out.alloc _) (Ne.symm (Bx.ne Xbg.out))
            rw [HO.out, HA.out] at h
            (try simp only [Act.put, List.setIfInBounds_toArray, List.set_cons_zero, List.set_cons_succ] at h)
            exact h
          exact AllReadyH.nil
        have S000 : Hid (∀ (W : World) (hW : Below v0.heap.size v0 W), wpAnyH Tryz.prog .any ops6 Q6 (fun W => Below v0.heap.size v0 W) 8 #[true, false, false, true, false, false, false, false, false, false] a0 W) := by
          clear S411 S410 S401 S400 S311 S310 S301 S300 S211 S210 S201 S200 S111 S110 S101 S011
          refine Lib.hid ?_
          intro W hW
          rw [HO.out, HA.out]
          (try simp only [Act.put, List.setIfInBounds_toArray, List.set_cons_zero, List.set_cons_succ])
          refine wpAnyH_ready (rs := [1, 6, 7]) (by kernel_rfl) (by simp) ?_
          have XhW := Lib.hid hW
          clear hW
          refine AllReadyH.cons rfl (fun K hK => ?_) ?_
          · rw [if_pos (by rfl)]
            simp only [List.getElem_toArray, List.getElem_cons_succ, List.getElem_cons_zero]
            go_simp
            refine (rfloor_any _ ra a 12 (by decide) (by decide) (LSt.da (LSt.below HL0.out XhW.out))).mono ?_
            rintro e v ⟨i1, rfl, hr, hb⟩
            have Hr := Lib.hid hr; have Hb := Lib.hid hb
            clear hr hb
            (try (go_wp2_with fail))
            refine hK.out _ _ (Below.after XhW.out Hb.out) (fun hHeld => ?_)
            clear hK K hHeld
            have hr := Hr.out; have hb := Hb.out
            (try simp only [List.setIfInBounds_toArray, List.set_cons_zero, List.set_cons_succ])
            have h := S100.out v (Below.after XhW.out hb) i1 hr.now
            rw [HO.out, HA.out] at h
            (try simp only [Act.put, List.setIfInBounds_toArray, List.set_cons_zero, List.set_cons_succ] at h)
            exact h
          refine AllReadyH.cons rfl (fun K hK => ?_) ?_
          · rw [if_pos (by rfl)]
            simp only [List.getElem_toArray, List.getElem_cons_succ, List.getElem_cons_zero]
            go_simp
            (try (go_wp2_with fail))
            refine hK.out _ _ (XhW.out.alloc XhW.out.size _) (fun hHeld => ?_)
            clear hK K hHeld
            (try simp only [List.setIfInBounds_toArray, List.set_cons_zero, List.set_cons_succ])
            have h := S010.out (W.alloc (.cells #[.bool false, .slice none 0 0, .bool false, .slice none 0 0] 36)) (XhW.out.alloc XhW.out.size _) W.heap.size (Bx.new XhW.out)
            rw [HO.out, HA.out] at h
            (try simp only [Act.put, List.setIfInBounds_toArray, List.set_cons_zero, List.set_cons_succ] at h)
            exact h
          refine AllReadyH.cons rfl (fun K hK => ?_) ?_
          · rw [if_pos (by rfl)]
            simp only [List.getElem_toArray, List.getElem_cons_succ, List.getElem_cons_zero]
            go_simp
            (try (go_wp2_with fail))
            refine hK.out _ _ (XhW.out.alloc XhW.out.size _) (fun hHeld => ?_)
            clear hK K hHeld
            (try simp only [List.setIfInBounds_toArray, List.set_cons_zero, List.set_cons_succ])
            have h := S001.out (W.alloc (.cells #[.bool false, .slice none 0 0, .bool false, .slice none 0 0] 36)) (XhW.out.alloc XhW.out.size _) W.heap.size (Bx.new XhW.out)
            rw [HO.out, HA.out] at h
            (try simp only [Act.put, List.setIfInBounds_toArray, List.set_cons_zero, List.set_cons_succ] at h)
            exact h
          exact AllReadyH.nil
        exact S000.out _ hHeld
      case rest =>
        obtain ⟨gf, gg, rf, rg, rfl, rfl, hL⟩ := hcut
        have HL := Lib.hid hL
        obtain ⟨c0, c1, c2, c3, c4, c5, c6, c7, c8, c9, c10, c11, c12, c13, c14, c15, c16, c17, c18, c19⟩ := hL.cells
        clear hL
        go_upto_region 7 with fail
        go_cut [12] (fun v wx => v = .bool true ∧ LSt w wx ra rb rc a b c 12)
        case first =>
          as_aux_lemma =>
            refine wp_region_noPanic ?_
            refine wp_region_held_drew (S := (fun W => W.cell? ⟨w.heap.size, 0, none⟩ = some (.bool ra.num.neg) ∧ W.cell? ⟨w.heap.size, 1, none⟩ = some (.slice ra.num.A ra.num.k ra.num.c) ∧ W.cell? ⟨w.heap.size, 2, none⟩ = some (.bool ra.den.neg) ∧ W.cell? ⟨w.heap.size, 3, none⟩ = some (.slice ra.den.A ra.den.k ra.den.c) ∧ W.cell? ⟨w.heap.size + 1, 0, none⟩ = some (.bool rb.num.neg) ∧ W.cell? ⟨w.heap.size + 1, 1, none⟩ = some (.slice rb.num.A rb.num.k rb.num.c) ∧ W.cell? ⟨w.heap.size + 1, 2, none⟩ = some (.bool rb.den.neg) ∧ W.cell? ⟨w.heap.size + 1, 3, none⟩ = some (.slice rb.den.A rb.den.k rb.den.c) ∧ W.cell? ⟨w.heap.size + 1 + 1, 0, none⟩ = some (.bool rc.num.neg) ∧ W.cell? ⟨w.heap.size + 1 + 1, 1, none⟩ = some (.slice rc.num.A rc.num.k rc.num.c) ∧ W.cell? ⟨w.heap.size + 1 + 1, 2, none⟩ = some (.bool rc.den.neg) ∧ W.cell? ⟨w.heap.size + 1 + 1, 3, none⟩ = some (.slice rc.den.A rc.den.k rc.den.c) ∧ W.cell? ⟨gf, 0, none⟩ = some (.bool rf.num.neg) ∧ W.cell? ⟨gf, 1, none⟩ = some (.slice rf.num.A rf.num.k rf.num.c) ∧ W.cell? ⟨gf, 2, none⟩ = some (.bool rf.den.neg) ∧ W.cell? ⟨gf, 3, none⟩ = some (.slice rf.den.A rf.den.k rf.den.c) ∧ W.cell? ⟨gg, 0, none⟩ = some (.bool rg.num.neg) ∧ W.cell? ⟨gg, 1, none⟩ = some (.slice rg.num.A rg.num.k rg.num.c) ∧ W.cell? ⟨gg, 2, none⟩ = some (.bool rg.den.neg) ∧ W.cell? ⟨gg, 3, none⟩ = some (.slice rg.den.A rg.den.k rg.den.c))) (by kernel_rfl) (by first | exact HL.out.cells | exact HL.out.drew.cells) (fun hHeld => ?_)
            refine held_take (i := 0) (v := ?_) (some 115) rfl rfl (by kernel_rfl) (by kernel_rfl) (by kernel_rfl) (fun _ _ _ h => h) (Or.inl ⟨by rfl, ?_⟩) hHeld ?_
            rotate_left 1
            · intro w hSw
              (try dsimp only at hSw)
              (first | (go_simp; done) | (go_simp; with_reducible rfl))
            (try simp only [Act.put, List.setIfInBounds_toArray, List.set_cons_zero, List.set_cons_succ])
            refine held_take (i := 1) (v := ?_) (some 116) rfl rfl (by kernel_rfl) (by kernel_rfl) (by kernel_rfl) (fun _ _ _ h => h) (Or.inl ⟨by rfl, ?_⟩) hHeld ?_
            rotate_left 1
            · intro w hSw
              (try dsimp only at hSw)
              (first | (go_simp; done) | (go_simp; with_reducible rfl))
            (try simp only [Act.put, List.setIfInBounds_toArray, List.set_cons_zero, List.set_cons_succ])
            refine held_call (i := 2) rfl (by kernel_rfl) (by rfl) (fun K hK => ?_)
            clear hHeld
            simp only [List.getElem_toArray, List.getElem_cons_succ, List.getElem_cons_zero]
            go_simp
            refine (Hn1.out _ rf ra (RatN.rat (by first | exact HL.out.hf | exact HL.out.drew.hf) (Sz.up Hzf.out (by decide))) (RatD.mono (n := 12) (by first | exact HL.out.da | exact HL.out.da.drew) (by decide))).mono ?_
            rintro e wx1 ⟨rfl, bx1⟩
            replace HL := Lib.hid (OSt.below (by first | exact HL.out | exact HL.out.drew) bx1)
            clear c0 c1 c2 c3 c4 c5 c6 c7 c8 c9 c10 c11 c12 c13 c14 c15 c16 c17 c18 c19
            obtain ⟨c0, c1, c2, c3, c4, c5, c6, c7, c8, c9, c10, c11, c12, c13, c14, c15, c16, c17, c18, c19⟩ := HL.out.cells
            clear bx1
            (try (go_wp2_with fail))
            refine hK.out _ _ (by first | exact HL.out.cells | exact HL.out.drew.cells) (fun hHeld => ?_)
            clear hK K
            (try simp only [Act.put, List.setIfInBounds_toArray, List.set_cons_zero, List.set_cons_succ])
            refine held_take (i := 3) (v := .bool true) (some 118) rfl rfl (by kernel_rfl) (by kernel_rfl) (by kernel_rfl) (fun _ _ _ h => h) (Or.inl ⟨by rfl, ?_⟩) hHeld ?_
            · intro w hSw
              clear hSw
              go_simp
              (first | done | (simp [Fn1.out]))
            (try simp only [Act.put, List.setIfInBounds_toArray, List.set_cons_zero, List.set_cons_succ])
            refine held_take (i := 4) (v := ?_) (some 119) rfl rfl (by kernel_rfl) (by kernel_rfl) (by kernel_rfl) (fun _ _ _ h => h) (Or.inl ⟨by rfl, ?_⟩) hHeld ?_
            rotate_left 1
            · intro w hSw
              (try dsimp only at hSw)
              (first | (go_simp; done) | (go_simp; with_reducible rfl))
            (try simp only [Act.put, List.setIfInBounds_toArray, List.set_cons_zero, List.set_cons_succ])
            refine held_take (i := 5) (v := ?_) (some 120) rfl rfl (by kernel_rfl) (by kernel_rfl) (by kernel_rfl) (fun _ _ _ h => h) (Or.inl ⟨by rfl, ?_⟩) hHeld ?_
            rotate_left 1
            · intro w hSw
              (try dsimp only at hSw)
              (first | (go_simp; done) | (go_simp; with_reducible rfl))
            (try simp only [Act.put, List.setIfInBounds_toArray, List.set_cons_zero, List.set_cons_succ])
            refine held_take (i := 6) (v := ?_) (some 121) rfl rfl (by kernel_rfl) (by kernel_rfl) (by kernel_rfl) (fun _ _ _ h => h) (Or.inl ⟨by rfl, ?_⟩) hHeld ?_
            rotate_left 1
            · intro w hSw
              (try dsimp only at hSw)
              (first | (go_simp; done) | (go_simp; with_reducible rfl))
            (try simp only [Act.put, List.setIfInBounds_toArray, List.set_cons_zero, List.set_cons_succ])
            refine held_call (i := 7) rfl (by kernel_rfl) (by rfl) (fun K hK => ?_)
            clear hHeld
            simp only [List.getElem_toArray, List.getElem_cons_succ, List.getElem_cons_zero]
            go_simp
            refine (rof_any _ 1 1 (by decide) (by decide) (by decide) (by decide) (by first | exact HL.out.tz | exact HL.out.drew.tz)).mono ?_
            rintro e wx2 ⟨rx2, rfl, hx2, bx2⟩
            replace HL := Lib.hid (OSt.below (by first | exact HL.out | exact HL.out.drew) bx2)
            clear c0 c1 c2 c3 c4 c5 c6 c7 c8 c9 c10 c11 c12 c13 c14 c15 c16 c17 c18 c19
            obtain ⟨c0, c1, c2, c3, c4, c5, c6, c7, c8, c9, c10, c11, c12, c13, c14, c15, c16, c17, c18, c19⟩ := HL.out.cells
            have Hx2 := Lib.hid hx2.now
            clear hx2
            clear bx2
            (try (go_wp2_with fail))
            refine hK.out _ _ (by first | exact HL.out.cells | exact HL.out.drew.cells) (fun hHeld => ?_)
            clear hK K
            (try simp only [Act.put, List.setIfInBounds_toArray, List.set_cons_zero, List.set_cons_succ])
            refine held_call (i := 8) rfl (by kernel_rfl) (by rfl) (fun K hK => ?_)
            clear hHeld
            simp only [List.getElem_toArray, List.getElem_cons_succ, List.getElem_cons_zero]
            go_simp
            refine (radd_any _ rf rx2 (Rat.divInt a.floor 1) (Rat.divInt 1 1) 12 (by decide) (by decide) (RatN.rat (by first | exact HL.out.hf | exact HL.out.drew.hf) (Sz.up Hzf.out (by decide))) (RatN.rat (by first | exact Hx2.out | exact Hx2.out.drew) (Sz.up (sz_of (by decide) (by decide)) (by decide))) (by first | exact HL.out.tz | exact HL.out.drew.tz)).mono ?_
            rintro e wx3 ⟨rx3, rfl, hx3, bx3⟩
            replace HL := Lib.hid (OSt.below (by first | exact HL.out | exact HL.out.drew) bx3)
            clear c0 c1 c2 c3 c4 c5 c6 c7 c8 c9 c10 c11 c12 c13 c14 c15 c16 c17 c18 c19
            obtain ⟨c0, c1, c2, c3, c4, c5, c6, c7, c8, c9, c10, c11, c12, c13, c14, c15, c16, c17, c18, c19⟩ := HL.out.cells
            have Hx3 := Lib.hid hx3.now
            clear hx3
            clear bx3
            (try (go_wp2_with fail))
            refine hK.out _ _ (by first | exact HL.out.cells | exact HL.out.drew.cells) (fun hHeld => ?_)
            clear hK K
            (try simp only [Act.put, List.setIfInBounds_toArray, List.set_cons_zero, List.set_cons_succ])
            refine held_call (i := 9) rfl (by kernel_rfl) (by rfl) (fun K hK => ?_)
            clear hHeld
            simp only [List.getElem_toArray, List.getElem_cons_succ, List.getElem_cons_zero]
            go_simp
            refine (Hn2.out _ ra rx3 (RatD.mono (n := 12) (by first | exact HL.out.da | exact HL.out.da.drew) (by decide)) (RatN.rat (by first | exact Hx3.out | exact Hx3.out.drew) (Sz.up (Sz.add (n := 12) (m := 1) Hzf.out (sz_of (by decide) (by decide))) (by decide)))).mono ?_
            rintro e wx4 ⟨rfl, bx4⟩
            replace HL := Lib.hid (OSt.below (by first | exact HL.out | exact HL.out.drew) bx4)
            clear c0 c1 c2 c3 c4 c5 c6 c7 c8 c9 c10 c11 c12 c13 c14 c15 c16 c17 c18 c19
            obtain ⟨c0, c1, c2, c3, c4, c5, c6, c7, c8, c9, c10, c11, c12, c13, c14, c15, c16, c17, c18, c19⟩ := HL.out.cells
            clear bx4
            (try (go_wp2_with fail))
            refine hK.out _ _ (by first | exact HL.out.cells | exact HL.out.drew.cells) (fun hHeld => ?_)
            clear hK K
            (try simp only [Act.put, List.setIfInBounds_toArray, List.set_cons_zero, List.set_cons_succ])
            refine held_take (i := 10) (v := .bool true) (some 125) rfl rfl (by kernel_rfl) (by kernel_rfl) (by kernel_rfl) (fun _ _ _ h => h) (Or.inl ⟨by rfl, ?_⟩) hHeld ?_
            · intro w hSw
              clear hSw
              go_simp
              (first | done | (simp [Fn2.out]))
            (try simp only [Act.put, List.setIfInBounds_toArray, List.set_cons_zero, List.set_cons_succ])
            refine held_take (i := 11) (v := ?_) (some 126) rfl rfl (by kernel_rfl) (by kernel_rfl) (by kernel_rfl) (fun _ _ _ h => h) (Or.inl ⟨by rfl, ?_⟩) hHeld ?_
            rotate_left 1
            · intro w hSw
              (try dsimp only at hSw)
              (first | (go_simp; done) | (go_simp; with_reducible rfl))
            (try simp only [Act.put, List.setIfInBounds_toArray, List.set_cons_zero, List.set_cons_succ])
            refine held_take (i := 12) (v := ?_) (some 127) rfl rfl (by kernel_rfl) (by kernel_rfl) (by kernel_rfl) (fun _ _ _ h => h) (Or.inl ⟨by rfl, ?_⟩) hHeld ?_
            rotate_left 1
            · intro w hSw
              (try dsimp only at hSw)
              (first | (go_simp; done) | (go_simp; with_reducible rfl))
            (try simp only [Act.put, List.setIfInBounds_toArray, List.set_cons_zero, List.set_cons_succ])
            refine held_take (i := 13) (v := ?_) (some 128) rfl rfl (by kernel_rfl) (by kernel_rfl) (by kernel_rfl) (fun _ _ _ h => h) (Or.inl ⟨by rfl, ?_⟩) hHeld ?_
            rotate_left 1
            · intro w hSw
              (try dsimp only at hSw)
              (first | (go_simp; done) | (go_simp; with_reducible rfl))
            (try simp only [Act.put, List.setIfInBounds_toArray, List.set_cons_zero, List.set_cons_succ])
            refine held_take (i := 14) (v := ?_) (some 129) rfl rfl (by kernel_rfl) (by kernel_rfl) (by kernel_rfl) (fun _ _ _ h => h) (Or.inl ⟨by rfl, ?_⟩) hHeld ?_
            rotate_left 1
            · intro w hSw
              (try dsimp only at hSw)
              (first | (go_simp; done) | (go_simp; with_reducible rfl))
            (try simp only [Act.put, List.setIfInBounds_toArray, List.set_cons_zero, List.set_cons_succ])
            refine held_call (i := 15) rfl (by kernel_rfl) (by rfl) (fun K hK => ?_)
            clear hHeld
            simp only [List.getElem_toArray, List.getElem_cons_succ, List.getElem_cons_zero]
            go_simp
            refine (Hn3.out _ rg ra (RatN.rat (by first | exact HL.out.hg | exact HL.out.drew.hg) (Sz.up Hzg.out (by decide))) (RatD.mono (n := 12) (by first | exact HL.out.da | exact HL.out.da.drew) (by decide))).mono ?_
            rintro e wx5 ⟨rfl, bx5⟩
            replace HL := Lib.hid (OSt.below (by first | exact HL.out | exact HL.out.drew) bx5)
            clear c0 c1 c2 c3 c4 c5 c6 c7 c8 c9 c10 c11 c12 c13 c14 c15 c16 c17 c18 c19
            obtain ⟨c0, c1, c2, c3, c4, c5, c6, c7, c8, c9, c10, c11, c12, c13, c14, c15, c16, c17, c18, c19⟩ := HL.out.cells
            clear bx5
            (try (go_wp2_with fail))
            refine hK.out _ _ (by first | exact HL.out.cells | exact HL.out.drew.cells) (fun hHeld => ?_)
            clear hK K
            (try simp only [Act.put, List.setIfInBounds_toArray, List.set_cons_zero, List.set_cons_succ])
            refine held_take (i := 16) (v := .bool true) (some 131) rfl rfl (by kernel_rfl) (by kernel_rfl) (by kernel_rfl) (fun _ _ _ h => h) (Or.inl ⟨by rfl, ?_⟩) hHeld ?_
            · intro w hSw
              clear hSw
              go_simp
              (first | done | (simp [Fn3.out]))
            (try simp only [Act.put, List.setIfInBounds_toArray, List.set_cons_zero, List.set_cons_succ])
            refine held_take (i := 17) (v := ?_) (some 132) rfl rfl (by kernel_rfl) (by kernel_rfl) (by kernel_rfl) (fun _ _ _ h => h) (Or.inl ⟨by rfl, ?_⟩) hHeld ?_
            rotate_left 1
            · intro w hSw
              (try dsimp only at hSw)
              (first | (go_simp; done) | (go_simp; with_reducible rfl))
            (try simp only [Act.put, List.setIfInBounds_toArray, List.set_cons_zero, List.set_cons_succ])
            refine held_take (i := 18) (v := ?_) (some 133) rfl rfl (by kernel_rfl) (by kernel_rfl) (by kernel_rfl) (fun _ _ _ h => h) (Or.inl ⟨by rfl, ?_⟩) hHeld ?_
            rotate_left 1
            · intro w hSw
              (try dsimp only at hSw)
              (first | (go_simp; done) | (go_simp; with_reducible rfl))
            (try simp only [Act.put, List.setIfInBounds_toArray, List.set_cons_zero, List.set_cons_succ])
            refine held_take (i := 19) (v := ?_) (some 134) rfl rfl (by kernel_rfl) (by kernel_rfl) (by kernel_rfl) (fun _ _ _ h => h) (Or.inl ⟨by rfl, ?_⟩) hHeld ?_
            rotate_left 1
            · intro w hSw
              (try dsimp only at hSw)
              (first | (go_simp; done) | (go_simp; with_reducible rfl))
            (try simp only [Act.put, List.setIfInBounds_toArray, List.set_cons_zero, List.set_cons_succ])
            refine held_take (i := 22) (v := ?_) (some 137) rfl rfl (by kernel_rfl) (by kernel_rfl) (by kernel_rfl) (fun _ _ _ h => h) (Or.inl ⟨by rfl, ?_⟩) hHeld ?_
            rotate_left 1
            · intro w hSw
              (try dsimp only at hSw)
              (first | (go_simp; done) | (go_simp; with_reducible rfl))
            (try simp only [Act.put, List.setIfInBounds_toArray, List.set_cons_zero, List.set_cons_succ])
            refine held_call (i := 20) rfl (by kernel_rfl) (by rfl) (fun K hK => ?_)
            clear hHeld
            simp only [List.getElem_toArray, List.getElem_cons_succ, List.getElem_cons_zero]
            go_simp
            refine (rof_any _ 1 1 (by decide) (by decide) (by decide) (by decide) (by first | exact HL.out.tz | exact HL.out.drew.tz)).mono ?_
            rintro e wx6 ⟨rx6, rfl, hx6, bx6⟩
            replace HL := Lib.hid (OSt.below (by first | exact HL.out | exact HL.out.drew) bx6)
            clear c0 c1 c2 c3 c4 c5 c6 c7 c8 c9 c10 c11 c12 c13 c14 c15 c16 c17 c18 c19
            obtain ⟨c0, c1, c2, c3, c4, c5, c6, c7, c8, c9, c10, c11, c12, c13, c14, c15, c16, c17, c18, c19⟩ := HL.out.cells
            have Hx6 := Lib.hid hx6.now
            clear hx6
            clear bx6
            (try (go_wp2_with fail))
            refine hK.out _ _ (by first | exact HL.out.cells | exact HL.out.drew.cells) (fun hHeld => ?_)
            clear hK K
            (try simp only [Act.put, List.setIfInBounds_toArray, List.set_cons_zero, List.set_cons_succ])
            refine held_call (i := 21) rfl (by kernel_rfl) (by rfl) (fun K hK => ?_)
            clear hHeld
            simp only [List.getElem_toArray, List.getElem_cons_succ, List.getElem_cons_zero]
            go_simp
            refine (rsub_any _ rg rx6 (Rat.divInt (ceilQ a) 1) (Rat.divInt 1 1) 12 (by decide) (by decide) (RatN.rat (by first | exact HL.out.hg | exact HL.out.drew.hg) (Sz.up Hzg.out (by decide))) (RatN.rat (by first | exact Hx6.out | exact Hx6.out.drew) (Sz.up (sz_of (by decide) (by decide)) (by decide))) (by first | exact HL.out.tz | exact HL.out.drew.tz)).mono ?_
            rintro e wx7 ⟨rx7, rfl, hx7, bx7⟩
            replace HL := Lib.hid (OSt.below (by first | exact HL.out | exact HL.out.drew) bx7)
            clear c0 c1 c2 c3 c4 c5 c6 c7 c8 c9 c10 c11 c12 c13 c14 c15 c16 c17 c18 c19
            obtain ⟨c0, c1, c2, c3, c4, c5, c6, c7, c8, c9, c10, c11, c12, c13, c14, c15, c16, c17, c18, c19⟩ := HL.out.cells
            have Hx7 := Lib.hid hx7.now
            clear hx7
            clear bx7
            (try (go_wp2_with fail))
            refine hK.out _ _ (by first | exact HL.out.cells | exact HL.out.drew.cells) (fun hHeld => ?_)
            clear hK K
            (try simp only [Act.put, List.setIfInBounds_toArray, List.set_cons_zero, List.set_cons_succ])
            refine held_call (i := 23) rfl (by kernel_rfl) (by rfl) (fun K hK => ?_)
            clear hHeld
            simp only [List.getElem_toArray, List.getElem_cons_succ, List.getElem_cons_zero]
            go_simp
            refine (Hn4.out _ rx7 ra (RatN.rat (by first | exact Hx7.out | exact Hx7.out.drew) (Sz.up (Sz.sub (n := 12) (m := 1) Hzg.out (sz_of (by decide) (by decide))) (by decide))) (RatD.mono (n := 12) (by first | exact HL.out.da | exact HL.out.da.drew) (by decide))).mono ?_
            rintro e wx8 ⟨rfl, bx8⟩
            replace HL := Lib.hid (OSt.below (by first | exact HL.out | exact HL.out.drew) bx8)
            clear c0 c1 c2 c3 c4 c5 c6 c7 c8 c9 c10 c11 c12 c13 c14 c15 c16 c17 c18 c19
            obtain ⟨c0, c1, c2, c3, c4, c5, c6, c7, c8, c9, c10, c11, c12, c13, c14, c15, c16, c17, c18, c19⟩ := HL.out.cells
            clear bx8
            (try (go_wp2_with fail))
            refine hK.out _ _ (by first | exact HL.out.cells | exact HL.out.drew.cells) (fun hHeld => ?_)
            clear hK K
            (try simp only [Act.put, List.setIfInBounds_toArray, List.set_cons_zero, List.set_cons_succ])
            refine held_take (i := 24) (v := .bool true) (some 139) rfl rfl (by kernel_rfl) (by kernel_rfl) (by kernel_rfl) (fun _ _ _ h => h) (Or.inl ⟨by rfl, ?_⟩) hHeld ?_
            · intro w hSw
              clear hSw
              go_simp
              (first | done | (simp [Fn4.out]))
            (try simp only [Act.put, List.setIfInBounds_toArray, List.set_cons_zero, List.set_cons_succ])
            refine held_take (i := 25) (v := ?_) (some 140) rfl rfl (by kernel_rfl) (by kernel_rfl) (by kernel_rfl) (fun _ _ _ h => h) (Or.inl ⟨by rfl, ?_⟩) hHeld ?_
            rotate_left 1
            · intro w hSw
              (try dsimp only at hSw)
              (first | (go_simp; done) | (go_simp; with_reducible rfl))
            (try simp only [Act.put, List.setIfInBounds_toArray, List.set_cons_zero, List.set_cons_succ])
            refine held_take (i := 26) (v := ?_) (some 141) rfl rfl (by kernel_rfl) (by kernel_rfl) (by kernel_rfl) (fun _ _ _ h => h) (Or.inl ⟨by rfl, ?_⟩) hHeld ?_
            rotate_left 1
            · intro w hSw
              (try dsimp only at hSw)
              (first | (go_simp; done) | (go_simp; with_reducible rfl))
            (try simp only [Act.put, List.setIfInBounds_toArray, List.set_cons_zero, List.set_cons_succ])
            refine held_take (i := 27) (v := ?_) (some 142) rfl rfl (by kernel_rfl) (by kernel_rfl) (by kernel_rfl) (fun _ _ _ h => h) (Or.inl ⟨by rfl, ?_⟩) hHeld ?_
            rotate_left 1
            · intro w hSw
              (try dsimp only at hSw)
              (first | (go_simp; done) | (go_simp; with_reducible rfl))
            (try simp only [Act.put, List.setIfInBounds_toArray, List.set_cons_zero, List.set_cons_succ])
            refine held_take (i := 28) (v := ?_) (some 143) rfl rfl (by kernel_rfl) (by kernel_rfl) (by kernel_rfl) (fun _ _ _ h => h) (Or.inl ⟨by rfl, ?_⟩) hHeld ?_
            rotate_left 1
            · intro w hSw
              (try dsimp only at hSw)
              (first | (go_simp; done) | (go_simp; with_reducible rfl))
            (try simp only [Act.put, List.setIfInBounds_toArray, List.set_cons_zero, List.set_cons_succ])
            refine held_take (i := 30) (v := ?_) (some 145) rfl rfl (by kernel_rfl) (by kernel_rfl) (by kernel_rfl) (fun _ _ _ h => h) (Or.inl ⟨by rfl, ?_⟩) hHeld ?_
            rotate_left 1
            · intro w hSw
              (try dsimp only at hSw)
              (first | (go_simp; done) | (go_simp; with_reducible rfl))
            (try simp only [Act.put, List.setIfInBounds_toArray, List.set_cons_zero, List.set_cons_succ])
            refine held_call (i := 29) rfl (by kernel_rfl) (by rfl) (fun K hK => ?_)
            clear hHeld
            simp only [List.getElem_toArray, List.getElem_cons_succ, List.getElem_cons_zero]
            go_simp
            refine (Hsw.out _ rf rg (RatN.rat (by first | exact HL.out.hf | exact HL.out.drew.hf) (Sz.up Hzf.out (by decide))) (RatN.rat (by first | exact HL.out.hg | exact HL.out.drew.hg) (Sz.up Hzg.out (by decide)))).mono ?_
            rintro e wx9 ⟨rfl, bx9⟩
            replace HL := Lib.hid (OSt.below (by first | exact HL.out | exact HL.out.drew) bx9)
            clear c0 c1 c2 c3 c4 c5 c6 c7 c8 c9 c10 c11 c12 c13 c14 c15 c16 c17 c18 c19
            obtain ⟨c0, c1, c2, c3, c4, c5, c6, c7, c8, c9, c10, c11, c12, c13, c14, c15, c16, c17, c18, c19⟩ := HL.out.cells
            clear bx9
            (try (go_wp2_with fail))
            refine hK.out _ _ (by first | exact HL.out.cells | exact HL.out.drew.cells) (fun hHeld => ?_)
            clear hK K
            (try simp only [Act.put, List.setIfInBounds_toArray, List.set_cons_zero, List.set_cons_succ])
            refine held_call (i := 31) rfl (by kernel_rfl) (by rfl) (fun K hK => ?_)
            clear hHeld
            simp only [List.getElem_toArray, List.getElem_cons_succ, List.getElem_cons_zero]
            go_simp
            refine (Hiw.out _ (RatD.mono (n := 12) (by first | exact HL.out.da | exact HL.out.da.drew) (by decide))).mono ?_
            rintro e wx10 ⟨rfl, bx10⟩
            replace HL := Lib.hid (OSt.below (by first | exact HL.out | exact HL.out.drew) bx10)
            clear c0 c1 c2 c3 c4 c5 c6 c7 c8 c9 c10 c11 c12 c13 c14 c15 c16 c17 c18 c19
            obtain ⟨c0, c1, c2, c3, c4, c5, c6, c7, c8, c9, c10, c11, c12, c13, c14, c15, c16, c17, c18, c19⟩ := HL.out.cells
            clear bx10
            (try (go_wp2_with fail))
            refine hK.out _ _ (by first | exact HL.out.cells | exact HL.out.drew.cells) (fun hHeld => ?_)
            clear hK K
            (try simp only [Act.put, List.setIfInBounds_toArray, List.set_cons_zero, List.set_cons_succ])
            refine held_take (i := 32) (v := ?_) (some 147) rfl rfl (by kernel_rfl) (by kernel_rfl) (by kernel_rfl) (fun _ _ _ h => h) (Or.inl ⟨by rfl, ?_⟩) hHeld ?_
            rotate_left 1
            · intro w hSw
              (try dsimp only at hSw)
              (first | (go_simp; done) | (go_simp; with_reducible rfl))
            (try simp only [Act.put, List.setIfInBounds_toArray, List.set_cons_zero, List.set_cons_succ])
            refine held_take (i := 33) (v := ?_) (some 148) rfl rfl (by kernel_rfl) (by kernel_rfl) (by kernel_rfl) (fun _ _ _ h => h) (Or.inl ⟨by rfl, ?_⟩) hHeld ?_
            rotate_left 1
            · intro w hSw
              (try dsimp only at hSw)
              (first | (go_simp; done) | (go_simp; with_reducible rfl))
            (try simp only [Act.put, List.setIfInBounds_toArray, List.set_cons_zero, List.set_cons_succ])
            refine held_take (i := 34) (v := ?_) (some 12) rfl rfl (by kernel_rfl) (by kernel_rfl) (by kernel_rfl) (fun _ _ _ h => h) (Or.inl ⟨by rfl, ?_⟩) hHeld ?_
            rotate_left 1
            · intro w hSw
              (try dsimp only at hSw)
              (first | (go_simp; done) | (go_simp; with_reducible rfl))
            (try simp only [Act.put, List.setIfInBounds_toArray, List.set_cons_zero, List.set_cons_succ])
            refine wpAnyH_done (by kernel_rfl) ?_ _
            refine NoPanic.normal ?_
            all_goals
              go_wp2_with fail
              go_meet
              exact ⟨rfl, by first | exact HL.out.l | exact HL.out.drew.l⟩
        case rest =>
          obtain ⟨rfl, hL⟩ := hcut
          have HL := Lib.hid hL
          obtain ⟨c0, c1, c2, c3, c4, c5, c6, c7, c8, c9, c10, c11⟩ := hL.cells
          clear hL
          go_wp2_with fail
          refine (rtext_any _ ra a 12 (by decide) (by decide) HL.out.da HL.out.tz HL.out.tab).mono ?_
          rintro e w8 ⟨rfl, hb8⟩
          replace HL := Lib.hid (HL.out.below hb8)
          clear hb8 c0 c1 c2 c3 c4 c5 c6 c7 c8 c9 c10 c11
          go_wp2_with fail
          refine (Hpp.out _ HL.out.tz).mono ?_
          rintro e w9 ⟨rp, rfl, hp9, hb9⟩
          replace HL := Lib.hid (HL.out.below hb9)
          have HPr := Lib.hid hp9.now
          clear hp9 hb9
          replace HL := Lib.hid (PSt.mk (HL.out.alloc (.cells #[.bool rp.num.neg, .slice rp.num.A rp.num.k rp.num.c, .bool rp.den.neg, .slice rp.den.A rp.den.k rp.den.c] 36)) (Blk.new w9 36 #[.bool rp.num.neg, .slice rp.num.A rp.num.k rp.num.c, .bool rp.den.neg, .slice rp.den.A rp.den.k rp.den.c]) ((RatN.old HPr.out).alloc (.cells #[.bool rp.num.neg, .slice rp.num.A rp.num.k rp.num.c, .bool rp.den.neg, .slice rp.den.A rp.den.k rp.den.c] 36)).now)
          clear HPr
          go_upto_region 9 with fail
          generalize hW9 : w9.alloc (.cells #[.bool rp.num.neg, .slice rp.num.A rp.num.k rp.num.c, .bool rp.den.neg, .slice rp.den.A rp.den.k rp.den.c] 36) = W9 at *
          generalize hgp : w9.heap.size = gp at *
          clear hW9 hgp
          obtain ⟨c0, c1, c2, c3, c4, c5, c6, c7, c8, c9, c10, c11, c12, c13, c14, c15⟩ := HL.out.cells
          as_aux_lemma =>
            refine wp_region_noPanic ?_
            refine wp_region_held_drew (S := (fun W => W.cell? ⟨w.heap.size, 0, none⟩ = some (.bool ra.num.neg) ∧ W.cell? ⟨w.heap.size, 1, none⟩ = some (.slice ra.num.A ra.num.k ra.num.c) ∧ W.cell? ⟨w.heap.size, 2, none⟩ = some (.bool ra.den.neg) ∧ W.cell? ⟨w.heap.size, 3, none⟩ = some (.slice ra.den.A ra.den.k ra.den.c) ∧ W.cell? ⟨w.heap.size + 1, 0, none⟩ = some (.bool rb.num.neg) ∧ W.cell? ⟨w.heap.size + 1, 1, none⟩ = some (.slice rb.num.A rb.num.k rb.num.c) ∧ W.cell? ⟨w.heap.size + 1, 2, none⟩ = some (.bool rb.den.neg) ∧ W.cell? ⟨w.heap.size + 1, 3, none⟩ = some (.slice rb.den.A rb.den.k rb.den.c) ∧ W.cell? ⟨w.heap.size + 1 + 1, 0, none⟩ = some (.bool rc.num.neg) ∧ W.cell? ⟨w.heap.size + 1 + 1, 1, none⟩ = some (.slice rc.num.A rc.num.k rc.num.c) ∧ W.cell? ⟨w.heap.size + 1 + 1, 2, none⟩ = some (.bool rc.den.neg) ∧ W.cell? ⟨w.heap.size + 1 + 1, 3, none⟩ = some (.slice rc.den.A rc.den.k rc.den.c) ∧ W.cell? ⟨gp, 0, none⟩ = some (.bool rp.num.neg) ∧ W.cell? ⟨gp, 1, none⟩ = some (.slice rp.num.A rp.num.k rp.num.c) ∧ W.cell? ⟨gp, 2, none⟩ = some (.bool rp.den.neg) ∧ W.cell? ⟨gp, 3, none⟩ = some (.slice rp.den.A rp.den.k rp.den.c))) (by kernel_rfl) (by first | exact HL.out.cells | exact HL.out.drew.cells) (fun hHeld => ?_)
            refine held_take (i := 0) (v := ?_) (some 155) rfl rfl (by kernel_rfl) (by kernel_rfl) (by kernel_rfl) (fun _ _ _ h => h) (Or.inl ⟨by rfl, ?_⟩) hHeld ?_
            rotate_left 1
            · intro w hSw
              (try dsimp only at hSw)
              (first | (go_simp; done) | (go_simp; with_reducible rfl))
            (try simp only [Act.put, List.setIfInBounds_toArray, List.set_cons_zero, List.set_cons_succ])
            refine held_take (i := 1) (v := ?_) (some 156) rfl rfl (by kernel_rfl) (by kernel_rfl) (by kernel_rfl) (fun _ _ _ h => h) (Or.inl ⟨by rfl, ?_⟩) hHeld ?_
            rotate_left 1
            · intro w hSw
              (try dsimp only at hSw)
              (first | (go_simp; done) | (go_simp; with_reducible rfl))
            (try simp only [Act.put, List.setIfInBounds_toArray, List.set_cons_zero, List.set_cons_succ])
            refine held_take (i := 2) (v := ?_) (some 157) rfl rfl (by kernel_rfl) (by kernel_rfl) (by kernel_rfl) (fun _ _ _ h => h) (Or.inl ⟨by rfl, ?_⟩) hHeld ?_
            rotate_left 1
            · intro w hSw
              (try dsimp only at hSw)
              (first | (go_simp; done) | (go_simp; with_reducible rfl))
            (try simp only [Act.put, List.setIfInBounds_toArray, List.set_cons_zero, List.set_cons_succ])
            refine held_take (i := 3) (v := ?_) (some 158) rfl rfl (by kernel_rfl) (by kernel_rfl) (by kernel_rfl) (fun _ _ _ h => h) (Or.inl ⟨by rfl, ?_⟩) hHeld ?_
            rotate_left 1
            · intro w hSw
              (try dsimp only at hSw)
              (first | (go_simp; done) | (go_simp; with_reducible rfl))
            (try simp only [Act.put, List.setIfInBounds_toArray, List.set_cons_zero, List.set_cons_succ])
            refine held_take (i := 4) (v := ?_) (some 159) rfl rfl (by kernel_rfl) (by kernel_rfl) (by kernel_rfl) (fun _ _ _ h => h) (Or.inl ⟨by rfl, ?_⟩) hHeld ?_
            rotate_left 1
            · intro w hSw
              (try dsimp only at hSw)
              (first | (go_simp; done) | (go_simp; with_reducible rfl))
            (try simp only [Act.put, List.setIfInBounds_toArray, List.set_cons_zero, List.set_cons_succ])
            refine held_take (i := 5) (v := ?_) (some 160) rfl rfl (by kernel_rfl) (by kernel_rfl) (by kernel_rfl) (fun _ _ _ h => h) (Or.inl ⟨by rfl, ?_⟩) hHeld ?_
            rotate_left 1
            · intro w hSw
              (try dsimp only at hSw)
              (first | (go_simp; done) | (go_simp; with_reducible rfl))
            (try simp only [Act.put, List.setIfInBounds_toArray, List.set_cons_zero, List.set_cons_succ])
            refine held_take (i := 6) (v := ?_) (some 161) rfl rfl (by kernel_rfl) (by kernel_rfl) (by kernel_rfl) (fun _ _ _ h => h) (Or.inl ⟨by rfl, ?_⟩) hHeld ?_
            rotate_left 1
            · intro w hSw
              (try dsimp only at hSw)
              (first | (go_simp; done) | (go_simp; with_reducible rfl))
            (try simp only [Act.put, List.setIfInBounds_toArray, List.set_cons_zero, List.set_cons_succ])
            refine held_take (i := 7) (v := ?_) (some 162) rfl rfl (by kernel_rfl) (by kernel_rfl) (by kernel_rfl) (fun _ _ _ h => h) (Or.inl ⟨by rfl, ?_⟩) hHeld ?_
            rotate_left 1
            · intro w hSw
              (try dsimp only at hSw)
              (first | (go_simp; done) | (go_simp; with_reducible rfl))
            (try simp only [Act.put, List.setIfInBounds_toArray, List.set_cons_zero, List.set_cons_succ])
            refine held_take (i := 8) (v := ?_) (some 163) rfl rfl (by kernel_rfl) (by kernel_rfl) (by kernel_rfl) (fun _ _ _ h => h) (Or.inl ⟨by rfl, ?_⟩) hHeld ?_
            rotate_left 1
            · intro w hSw
              (try dsimp only at hSw)
              (first | (go_simp; done) | (go_simp; with_reducible rfl))
            (try simp only [Act.put, List.setIfInBounds_toArray, List.set_cons_zero, List.set_cons_succ])
            refine held_take (i := 9) (v := ?_) (some 164) rfl rfl (by kernel_rfl) (by kernel_rfl) (by kernel_rfl) (fun _ _ _ h => h) (Or.inl ⟨by rfl, ?_⟩) hHeld ?_
            rotate_left 1
            · intro w hSw
              (try dsimp only at hSw)
              (first | (go_simp; done) | (go_simp; with_reducible rfl))
            (try simp only [Act.put, List.setIfInBounds_toArray, List.set_cons_zero, List.set_cons_succ])
            refine held_take (i := 10) (v := ?_) (some 165) rfl rfl (by kernel_rfl) (by kernel_rfl) (by kernel_rfl) (fun _ _ _ h => h) (Or.inl ⟨by rfl, ?_⟩) hHeld ?_
            rotate_left 1
            · intro w hSw
              (try dsimp only at hSw)
              (first | (go_simp; done) | (go_simp; with_reducible rfl))
            (try simp only [Act.put, List.setIfInBounds_toArray, List.set_cons_zero, List.set_cons_succ])
            refine held_take (i := 11) (v := ?_) (some 166) rfl rfl (by kernel_rfl) (by kernel_rfl) (by kernel_rfl) (fun _ _ _ h => h) (Or.inl ⟨by rfl, ?_⟩) hHeld ?_
            rotate_left 1
            · intro w hSw
              (try dsimp only at hSw)
              (first | (go_simp; done) | (go_simp; with_reducible rfl))
            (try simp only [Act.put, List.setIfInBounds_toArray, List.set_cons_zero, List.set_cons_succ])
            refine held_take (i := 12) (v := ?_) (some 167) rfl rfl (by kernel_rfl) (by kernel_rfl) (by kernel_rfl) (fun _ _ _ h => h) (Or.inl ⟨by rfl, ?_⟩) hHeld ?_
            rotate_left 1
            · intro w hSw
              (try dsimp only at hSw)
              (first | (go_simp; done) | (go_simp; with_reducible rfl))
            (try simp only [Act.put, List.setIfInBounds_toArray, List.set_cons_zero, List.set_cons_succ])
            refine held_take (i := 13) (v := ?_) (some 168) rfl rfl (by kernel_rfl) (by kernel_rfl) (by kernel_rfl) (fun _ _ _ h => h) (Or.inl ⟨by rfl, ?_⟩) hHeld ?_
            rotate_left 1
            · intro w hSw
              (try dsimp only at hSw)
              (first | (go_simp; done) | (go_simp; with_reducible rfl))
            (try simp only [Act.put, List.setIfInBounds_toArray, List.set_cons_zero, List.set_cons_succ])
            refine held_call (i := 14) rfl (by kernel_rfl) (by rfl) (fun K hK => ?_)
            clear hHeld
            simp only [List.getElem_toArray, List.getElem_cons_succ, List.getElem_cons_zero]
            go_simp
            refine (rnorm_any _ ra a 12 (by decide) (by decide) (RatD.mono (n := 12) (by first | exact HL.out.da | exact HL.out.da.drew) (by decide)) (by first | exact HL.out.tz | exact HL.out.drew.tz)).mono ?_
            rintro e wz1 ⟨rz1, rfl, hz1, bz1⟩
            replace HL := Lib.hid (PSt.below (by first | exact HL.out | exact HL.out.drew) bz1)
            clear c0 c1 c2 c3 c4 c5 c6 c7 c8 c9 c10 c11 c12 c13 c14 c15
            obtain ⟨c0, c1, c2, c3, c4, c5, c6, c7, c8, c9, c10, c11, c12, c13, c14, c15⟩ := HL.out.cells
            have Hz1 := Lib.hid hz1.now
            clear hz1
            clear bz1
            (try (go_wp2_with fail))
            refine hK.out _ _ (by first | exact HL.out.cells | exact HL.out.drew.cells) (fun hHeld => ?_)
            clear hK K
            (try simp only [Act.put, List.setIfInBounds_toArray, List.set_cons_zero, List.set_cons_succ])
            refine held_call (i := 15) rfl (by kernel_rfl) (by rfl) (fun K hK => ?_)
            clear hHeld
            simp only [List.getElem_toArray, List.getElem_cons_succ, List.getElem_cons_zero]
            go_simp
            refine (sameRat_true _ rp rz1 a a 12 (by decide) HSa.out (by first | exact HL.out.hp | exact HL.out.drew.hp) (by first | exact Hz1.out | exact Hz1.out.drew) rfl).mono ?_
            rintro e wz2 ⟨rfl, bz2⟩
            replace HL := Lib.hid (PSt.below (by first | exact HL.out | exact HL.out.drew) bz2)
            clear c0 c1 c2 c3 c4 c5 c6 c7 c8 c9 c10 c11 c12 c13 c14 c15
            obtain ⟨c0, c1, c2, c3, c4, c5, c6, c7, c8, c9, c10, c11, c12, c13, c14, c15⟩ := HL.out.cells
            clear bz2
            (try (go_wp2_with fail))
            refine hK.out _ _ (by first | exact HL.out.cells | exact HL.out.drew.cells) (fun hHeld => ?_)
            clear hK K
            (try simp only [Act.put, List.setIfInBounds_toArray, List.set_cons_zero, List.set_cons_succ])
            refine held_take (i := 16) (v := ?_) (some 171) rfl rfl (by kernel_rfl) (by kernel_rfl) (by kernel_rfl) (fun _ _ _ h => h) (Or.inl ⟨by rfl, ?_⟩) hHeld ?_
            rotate_left 1
            · intro w hSw
              (try dsimp only at hSw)
              (first | (go_simp; done) | (go_simp; with_reducible rfl))
            (try simp only [Act.put, List.setIfInBounds_toArray, List.set_cons_zero, List.set_cons_succ])
            refine held_take (i := 17) (v := ?_) (some 172) rfl rfl (by kernel_rfl) (by kernel_rfl) (by kernel_rfl) (fun _ _ _ h => h) (Or.inl ⟨by rfl, ?_⟩) hHeld ?_
            rotate_left 1
            · intro w hSw
              (try dsimp only at hSw)
              (first | (go_simp; done) | (go_simp; with_reducible rfl))
            (try simp only [Act.put, List.setIfInBounds_toArray, List.set_cons_zero, List.set_cons_succ])
            refine held_call (i := 18) rfl (by kernel_rfl) (by rfl) (fun K hK => ?_)
            clear hHeld
            simp only [List.getElem_toArray, List.getElem_cons_succ, List.getElem_cons_zero]
            go_simp
            refine (awake_any _ (by first | exact HL.out.tz | exact HL.out.drew.tz) (by first | exact HL.out.tab | exact HL.out.drew.tab)).mono ?_
            rintro e wz3 ⟨rfl, bz3⟩
            replace HL := Lib.hid (PSt.below (by first | exact HL.out | exact HL.out.drew) bz3)
            clear c0 c1 c2 c3 c4 c5 c6 c7 c8 c9 c10 c11 c12 c13 c14 c15
            obtain ⟨c0, c1, c2, c3, c4, c5, c6, c7, c8, c9, c10, c11, c12, c13, c14, c15⟩ := HL.out.cells
            clear bz3
            (try (go_wp2_with fail))
            refine hK.out _ _ (by first | exact HL.out.cells | exact HL.out.drew.cells) (fun hHeld => ?_)
            clear hK K
            (try simp only [Act.put, List.setIfInBounds_toArray, List.set_cons_zero, List.set_cons_succ])
            refine held_take (i := 19) (v := ?_) (some 174) rfl rfl (by kernel_rfl) (by kernel_rfl) (by kernel_rfl) (fun _ _ _ h => h) (Or.inl ⟨by rfl, ?_⟩) hHeld ?_
            rotate_left 1
            · intro w hSw
              (try dsimp only at hSw)
              (first | (go_simp; done) | (go_simp; with_reducible rfl))
            (try simp only [Act.put, List.setIfInBounds_toArray, List.set_cons_zero, List.set_cons_succ])
            refine held_take (i := 20) (v := ?_) (some 6) rfl rfl (by kernel_rfl) (by kernel_rfl) (by kernel_rfl) (fun _ _ _ h => h) (Or.inl ⟨by rfl, ?_⟩) hHeld ?_
            rotate_left 1
            · intro w hSw
              (try dsimp only at hSw)
              (first | (go_simp; done) | (go_simp; with_reducible rfl))
            (try simp only [Act.put, List.setIfInBounds_toArray, List.set_cons_zero, List.set_cons_succ])
            refine wpAnyH_done (by kernel_rfl) ?_ _
            refine NoPanic.normal ?_
            all_goals
              go_wp2_with fail
              go_ret
              exact ⟨rfl, by first | exact HL.out.bel | exact HL.out.drew.bel⟩

set_option maxRecDepth 100000 in
set_option maxHeartbeats 2000000 in
theorem order_long (w : World) (ra rb rc : RV) (hz : Tz w) (ht : Tab w) (hsh : (shortR ra 12 && (shortR rb 12 && shortR rc 12)) = false) :
    Calls Tryz.prog 7 #[.agg #[.bool ra.num.neg, .slice ra.num.A ra.num.k ra.num.c, .bool ra.den.neg, .slice ra.den.A ra.den.k ra.den.c], .agg #[.bool rb.num.neg, .slice rb.num.A rb.num.k rb.num.c, .bool rb.den.neg, .slice rb.den.A rb.den.k rb.den.c], .agg #[.bool rc.num.neg, .slice rc.num.A rc.num.k rc.num.c, .bool rc.den.neg, .slice rc.den.A rc.den.k rc.den.c]] w fun e w' => e = .returned (.bool true) ∧ Below w.heap.size w w' := by
  have Hsh := Lib.hid (fun (W : World) => (by have h4 := lshort_any W ra rb rc; rw [hsh] at h4; exact h4 : Calls Tryz.prog 18 #[.agg #[.bool ra.num.neg, .slice ra.num.A ra.num.k ra.num.c, .bool ra.den.neg, .slice ra.den.A ra.den.k ra.den.c], .agg #[.bool rb.num.neg, .slice rb.num.A rb.num.k rb.num.c, .bool rb.den.neg, .slice rb.den.A rb.den.k rb.den.c], .agg #[.bool rc.num.neg, .slice rc.num.A rc.num.k rc.num.c, .bool rc.den.neg, .slice rc.den.A rc.den.k rc.den.c]] W fun e w' => e = .returned (.bool false) ∧ Below W.heap.size W w'))
  have HL := Lib.hid ((((TSt.start hz ht).alloc (.cells #[.bool ra.num.neg, .slice ra.num.A ra.num.k ra.num.c, .bool ra.den.neg, .slice ra.den.A ra.den.k ra.den.c] 36)).alloc (.cells #[.bool rb.num.neg, .slice rb.num.A rb.num.k rb.num.c, .bool rb.den.neg, .slice rb.den.A rb.den.k rb.den.c] 36)).alloc (.cells #[.bool rc.num.neg, .slice rc.num.A rc.num.k rc.num.c, .bool rc.den.neg, .slice rc.den.A rc.den.k rc.den.c] 36))
  clear hz ht hsh
  go_enter Tryz.func7, Tryz.ntmps7
  go_wp2_with fail
  refine (Hsh.out _).mono ?_
  rintro e w0 ⟨rfl, hb1⟩
  replace HL := Lib.hid (HL.out.below hb1)
  clear hb1
  go_wp2_with fail
  refine (awake_any _ HL.out.tz HL.out.tab).mono ?_
  rintro e w2 ⟨rfl, hb2⟩
  replace HL := Lib.hid (HL.out.below hb2)
  clear hb2
  go_wp2_with fail
  go_ret
  exact ⟨rfl, HL.out.bel⟩
/-- the law at whatever three fractions -/
theorem ratioOrder_any (w : World) (ra : RV) (xa ya : Int) (ha : IntD ra.num xa ra.num.k w) (ha' : IntD ra.den ya ra.den.k w) (rb : RV) (xb yb : Int) (hb : IntD rb.num xb rb.num.k w) (hb' : IntD rb.den yb rb.den.k w) (rc : RV) (xc yc : Int) (hc : IntD rc.num xc rc.num.k w) (hc' : IntD rc.den yc rc.den.k w) (hz : Tz w) (ht : Tab w) :
    Calls Tryz.prog 7 #[.agg #[.bool ra.num.neg, .slice ra.num.A ra.num.k ra.num.c, .bool ra.den.neg, .slice ra.den.A ra.den.k ra.den.c], .agg #[.bool rb.num.neg, .slice rb.num.A rb.num.k rb.num.c, .bool rb.den.neg, .slice rb.den.A rb.den.k rb.den.c], .agg #[.bool rc.num.neg, .slice rc.num.A rc.num.k rc.num.c, .bool rc.den.neg, .slice rc.den.A rc.den.k rc.den.c]] w fun e w' => e = .returned (.bool true) ∧ Below w.heap.size w w' := by
  cases hsh : (shortR ra 12 && (shortR rb 12 && shortR rc 12))
  · exact order_long w ra rb rc hz ht hsh
  · have h := hsh
    unfold shortR at h
    simp only [Bool.and_eq_true, decide_eq_true_eq] at h
    obtain ⟨⟨a1, a2⟩, ⟨b1, b2⟩, c1, c2⟩ := h
    exact order_short w ra rb rc _ _ _ ⟨xa, ya, ha.mono a1, ha'.mono a2, rfl⟩ ⟨xb, yb, hb.mono b1, hb'.mono b2, rfl⟩ ⟨xc, yc, hc.mono c1, hc'.mono c2, rfl⟩ hz ht hsh
end Go.Proofs.YthffandpjjnkhaaGreatDoor
