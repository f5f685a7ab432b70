/-
  tripwirelaw09.TokensBoth: the walk. TokensBoth returns true, whatever the input; no conditions: the row and its card.
-/
import Derived.Test.YtgghdedabpohbaaDoorTW
import Derived.Test.YtgghdedabpohbaaDoorShelf
import Derived.Test.YtgghdedabpohbaaDoorTR
import Derived.ChangeMaps5
namespace Go.Proofs.YtgghdedabpohbaaDoor
open Go.RowKit

theorem cat_list (a b : ByteArray) : (a ++ ⟨#[10]⟩ ++ b).data.toList = a.data.toList ++ 10 :: b.data.toList := by
  rw [ByteArray.data_append, ByteArray.data_append, Array.toList_append, Array.toList_append, List.append_assoc]
  rfl
theorem toks_bad (f : Nat) (l : List UInt8) (n : Nat) (h : (toks parseR f l n).1 ≠ 0) : (toks parseR f l n).2.2 = [] := by
  induction f generalizing l n with
  | zero => rfl
  | succ f ih =>
    simp only [toks] at h ⊢
    generalize skipG false l n = s at *
    obtain ⟨s1, m⟩ := s
    match s1, h with
    | [], h => exact absurd rfl h
    | b :: t, h =>
      simp only at h ⊢
      by_cases h0 : (tok1 parseR b t m).1 = 0
      · simp only [h0, if_pos] at h ⊢
        rw [cons1_fault] at h
        unfold cons1
        rw [if_neg h]
        exact ih _ _ h
      · simp only [if_neg h0]
/-- what two texts one behind the other come to -/
def BothP (a b ab : Nat × Nat × List Tk) (k : Nat) : Prop :=
  (∃ e n, e ≠ 0 ∧ a = (e, n, []) ∧ ab = (e, n, [])) ∨
  (∃ e n ts, e ≠ 0 ∧ ts ≠ [] ∧ a = (0, 0, ts) ∧ b = (e, n, []) ∧ ab = (e, n + k, [])) ∨
  (∃ ts us, ts ≠ [] ∧ a = (0, 0, ts) ∧ b = (0, 0, us) ∧ ab = (0, 0, ts.dropLast ++ us.map (upT k)))
theorem both_p (a b : ByteArray) (ha : a.size ≤ 2000) (hb : b.size ≤ 2000) : BothP (tokens parseR a.data.toList) (tokens parseR b.data.toList) (tokens parseR (a ++ ⟨#[10]⟩ ++ b).data.toList) (a.data.toList.count 10 + 1) := by
  have la : a.data.toList.length = a.size := by simp
  have lb : b.data.toList.length = b.size := by simp
  rw [cat_list]
  unfold tokens
  rw [if_neg (by omega), if_neg (by omega), if_neg (by simp; omega)]
  generalize a.data.toList = x at *
  generalize b.data.toList = y at *
  rw [toks_both (P := parseR) (x.length + 1) x y 1 (y.length + 1) _ (by omega) (by omega) (by omega), show 1 + x.count 10 + 1 = 1 + (x.count 10 + 1) from by omega, toks_line]
  have z1 := toks_zero (P := parseR) (x.length + 1) x 1
  have z2 := toks_zero (P := parseR) (y.length + 1) y 1
  have b1 := toks_bad (x.length + 1) x 1
  have b2 := toks_bad (y.length + 1) y 1
  have n1 := toks_ne (P := parseR) (x.length + 1) x 1 (by omega)
  generalize toks parseR (x.length + 1) x 1 = T at *
  generalize toks parseR (y.length + 1) y 1 = U at *
  obtain ⟨e, n, ts⟩ := T
  obtain ⟨f, m, us⟩ := U
  simp only at *
  by_cases h : e = 0
  · have hz := z1 h
    subst h hz
    by_cases h' : f = 0
    · have hz' := z2 h'
      subst h' hz'
      exact .inr (.inr ⟨ts, us, n1 rfl, rfl, rfl, by simp [glue, upR]⟩)
    · have hu := b2 h'
      subst hu
      exact .inr (.inl ⟨f, m, ts, h', n1 rfl, rfl, rfl, by simp [glue, upR, h']⟩)
  · have ht := b1 h
    subst ht
    exact .inl ⟨e, n, h, rfl, by simp [h]⟩
theorem tokens_len2 (l : List UInt8) : (tokens parseR l).2.2.length ≤ l.length + 1 := by
  unfold tokens
  split
  · simp
  · exact toks_len _ _ _
theorem Blk.rests {w : World} {g : Nat} {t : TypeId} {cs : Array Value} {F : Nat → Prop} (h : Blk w g t cs) (hF : F g) : Rests w F (fun W => Blk W g t cs) := ⟨h, fun _ hw => (hw g hF h.lt).trans h⟩
/-- an empty list in a block of its own -/
theorem TokO.made (W : World) {B : Nat} (hB : B ≤ W.heap.size) : TokO (W.alloc (.cells #[] 37)) B (.slice (some ⟨W.heap.size, 0, none⟩) 0 0) [] :=
  ⟨⟨by simp [cellsT], by simp [cellsT, flatC], .inr ⟨W.heap.size, 0, #[], rfl, hB, heap_alloc_new W _, Nat.le_refl _, by simp [maxLen], rfl, rfl⟩⟩, by simp⟩
theorem fresh_own {W : World} {B : Nat} {φ : World → Prop} {o : Obj} (h : Rests W (B ≤ ·) φ) : Rests (W.alloc o) (fun b => B ≤ b ∧ some b ≠ (Value.slice (some ⟨W.heap.size, 0, none⟩) 0 0).ownBlock) φ :=
  ((h.lt).alloc o).mono fun b hb => ⟨hb.1, fun e => by
    have e' : b = W.heap.size := by simpa [Value.ownBlock] using e
    have := hb.2; omega⟩
/-- in the middle of the law's list -/
structure WI (B : Nat) (W : World) (v : Value) (ys : List (Tk × RV)) (φ : World → Prop) : Prop where
  tok : TokO W B v ys
  rest : Rests W (fun b => B ≤ b ∧ some b ≠ v.ownBlock) φ
theorem WI.below {B : Nat} {W W' : World} {v : Value} {ys : List (Tk × RV)} {φ : World → Prop} (h : WI B W v ys φ) (hb : Below W.heap.size W W') : WI B W' v ys φ := ⟨h.tok.below hb, h.rest.below hb⟩
theorem WI.app {B : Nat} {W : World} {v : Value} {ys : List (Tk × RV)} {φ : World → Prop} (h : WI B W v ys φ) (k : Tk) (r : RV) (hr : ∀ W, φ W → RatN r k.x W) (hl : ys.length + 1 ≤ 1000000) (hB : B ≤ W.heap.size) :
    ∃ v' w', (Builtin.append_ #[23, 23] 23 #[v, .slice (some ⟨W.heap.size, 0, none⟩) 1 1]).run Tryd.prog (W.alloc (.cells (tcells k r) 37)) = .ok v' w' ∧ WI B w' v' (ys ++ [(k, r)]) φ ∧ Below B W w' := by
  obtain ⟨v', w', hrun, ho, hb, -, -, hφ⟩ := h.tok.app k r (h.rest.imp hr) hl hB
  exact ⟨v', w', hrun, ⟨ho, hφ _ h.rest⟩, hb⟩
theorem WI.start {B : Nat} {W : World} {φ : World → Prop} {ps : List (Tk × RV)} {b o c m : Nat} (hm : ps.length = m + 1) (h : Rests W (B ≤ ·) (fun W => TokR W (some ⟨b, o, none⟩) ps)) (hφ : Rests W (B ≤ ·) φ) (hB : B ≤ W.heap.size) (hl : m ≤ 1000000) :
    ∃ v' w', (Builtin.append_ #[23, 23] 23 #[.slice (some ⟨W.heap.size, 0, none⟩) 0 0, .slice (some ⟨b, o, none⟩) m c]).run Tryd.prog (W.alloc (.cells #[] 37)) = .ok v' w' ∧ WI B w' v' (ps.take m) φ ∧ Below B W w' := by
  have hT := h.alloc (.cells #[] 37)
  have hel := hT.now.el.take m
  have e : (cellsT ps).take m = cellsT (ps.take m) := by simp [cellsT, List.map_take]
  rw [e] at hel
  have hlen : (ps.take m).length = m := by simp; omega
  obtain ⟨v', w', hrun, ho, hb, -, -, hk⟩ := (TokO.made W hB).apps (c := c) hel (fun q hq => fresh_own (h.imp fun W hW => hW.num q (List.mem_of_mem_take hq))) (by rw [hlen]; simpa using hl) (by simp; omega)
  rw [hlen] at hrun
  exact ⟨v', w', hrun, ⟨by simpa using ho, hk _ (fresh_own hφ)⟩, ((Below.refl B W).alloc hB _).trans hb⟩
theorem skip_room (r : Bool) (l : List UInt8) (n : Nat) : (skipG r l n).2 + (skipG r l n).1.length ≤ n + l.length := by
  induction l generalizing r n with
  | nil => simp [skipG]
  | cons b t ih =>
    unfold skipG
    split
    · have := ih false (n + 1); simp only [List.length_cons]; omega
    · split
      · have := ih (r || b == 35) n; simp only [List.length_cons]; omega
      · exact Nat.le_refl _
theorem toks_le (f : Nat) (l : List UInt8) (n : Nat) : (toks parseR f l n).2.1 ≤ n + l.length ∧ ∀ k ∈ (toks parseR f l n).2.2, k.line ≤ n + l.length := by
  induction f generalizing l n with
  | zero => simp [toks]
  | succ f ih =>
    have hr := skip_room false l n
    simp only [toks]
    generalize skipG false l n = s at *
    obtain ⟨s1, m⟩ := s
    match s1, hr with
    | [], hr => simp at hr ⊢; exact hr
    | b :: t, hr =>
      simp only [List.length_cons] at hr ⊢
      have hl := tok1_len (P := parseR) b t m
      have hi := ih (tok1 parseR b t m).2.2 m
      have hm : (tok1 parseR b t m).2.1.line = m := by
        unfold tok1
        split
        · rfl
        · split
          · rfl
          · split <;> rfl
      split
      · unfold cons1
        split
        · refine ⟨Nat.zero_le _, fun k hk => ?_⟩
          rcases List.mem_cons.1 hk with rfl | hk
          · rw [hm]; omega
          · have := hi.2 k hk; omega
        · exact ⟨by have := hi.1; omega, fun k hk => by have := hi.2 k hk; omega⟩
      · exact ⟨by simp only; omega, by simp⟩
theorem tokens_le (l : List UInt8) : (tokens parseR l).2.1 ≤ 1 + l.length ∧ ∀ k ∈ (tokens parseR l).2.2, k.line ≤ 1 + l.length := by
  unfold tokens
  split
  · simp
  · exact toks_le _ _ _
theorem tokens_some (s : ByteArray) (w : World) (hs : s.size ≤ 9223372036854775807) (hT : Tz w) :
    Calls Tryd.prog 6 #[.string s] w fun e w' => ∃ v x y, e = .returned (.tuple #[v, .agg #[.int .i64 x, .int .i64 y]]) ∧ Below w.heap.size w w' := by
  refine (tokens_any s w hs hT).mono ?_
  rintro e w' ⟨v, ps, rfl, -, -, -, hb⟩
  exact ⟨v, _, _, rfl, hb⟩

set_option maxRecDepth 100000 in
set_option maxHeartbeats 4000000 in
theorem both_la (w : World) (a b : ByteArray) (hT : Tz w) (h : 2000 < a.size) :
    Calls Tryd.prog 3 #[.string a, .string b] w fun e w' => e = .returned (.bool true) ∧ Below w.heap.size w w' := by
  have t1 : (2000 : Int) < (a.size : Int) := by omega
  clear h
  have HT := Lib.hid hT
  have Hbel := Lib.hid (Below.refl w.heap.size w)
  clear hT
  go_enter Tryd.func3, Tryd.ntmps3
  go_wp2_with fail
  refine (awake_tok _ (tz_after HT.out Hbel.out)).mono ?_
  rintro e w9 ⟨rfl, hb⟩
  replace Hbel := Lib.hid (Below.after Hbel.out hb)
  clear hb
  go_wp2_with fail
  go_ret
  exact ⟨rfl, Hbel.out⟩

set_option maxRecDepth 100000 in
set_option maxHeartbeats 4000000 in
theorem both_lb (w : World) (a b : ByteArray) (hT : Tz w) (h : ¬ 2000 < a.size) (h' : 2000 < b.size) :
    Calls Tryd.prog 3 #[.string a, .string b] w fun e w' => e = .returned (.bool true) ∧ Below w.heap.size w w' := by
  have t1 : ¬ (2000 : Int) < (a.size : Int) := by omega
  have t2 : (2000 : Int) < (b.size : Int) := by omega
  clear h h'
  have HT := Lib.hid hT
  have Hbel := Lib.hid (Below.refl w.heap.size w)
  clear hT
  go_enter Tryd.func3, Tryd.ntmps3
  go_wp2_with fail
  refine (awake_tok _ (tz_after HT.out Hbel.out)).mono ?_
  rintro e w9 ⟨rfl, hb⟩
  replace Hbel := Lib.hid (Below.after Hbel.out hb)
  clear hb
  go_wp2_with fail
  go_ret
  exact ⟨rfl, Hbel.out⟩

set_option maxRecDepth 100000 in
set_option maxHeartbeats 4000000 in
theorem both_first (w : World) (a b : ByteArray) (hT : Tz w) (ha : a.size ≤ 2000) (hb : b.size ≤ 2000) (k n : Nat) (h0 : k ≠ 0) (h1 : tokens parseR a.data.toList = (k, n, [])) (h3 : tokens parseR (a ++ ⟨#[10]⟩ ++ b).data.toList = (k, n, [])) :
    Calls Tryd.prog 3 #[.string a, .string b] w fun e w' => e = .returned (.bool true) ∧ Below w.heap.size w w' := by
  have t1 : ¬ (2000 : Int) < (a.size : Int) := by omega
  have t2 : ¬ (2000 : Int) < (b.size : Int) := by omega
  have hs3 : (a ++ ⟨#[10]⟩ ++ b).size ≤ 9223372036854775807 := (by rw [ByteArray.size_append, ByteArray.size_append, show (⟨#[10]⟩ : ByteArray).size = 1 from rfl]; omega)
  have K1 := Lib.hid (fun W hW => tokens_bad a W k n (by omega) hW h1 h0)
  have K2 := Lib.hid (fun W hW => tokens_some b W (by omega) hW)
  have K3 := Lib.hid (fun W hW => tokens_bad (a ++ ⟨#[10]⟩ ++ b) W k n hs3 hW h3 h0)
  have k0 : ((k : Int) == 0) = false := is_not (by omega)
  clear ha hb h0 h1 h3 hs3
  have HT := Lib.hid hT
  have Hbel := Lib.hid (Below.refl w.heap.size w)
  clear hT
  go_enter Tryd.func3, Tryd.ntmps3
  go_wp2_with fail
  refine (K1.out _ (tz_after HT.out Hbel.out)).mono ?_
  rintro e w1 ⟨rfl, hb⟩
  replace Hbel := Lib.hid (Below.after Hbel.out hb)
  clear hb
  go_upto_region 4 with fail
  have HX1 := Lib.hid (Blk.new w1 26 #[.int .i64 k, .int .i64 n])
  replace Hbel := Lib.hid (Hbel.out.alloc Hbel.out.size (.cells #[.int .i64 k, .int .i64 n] 26))
  generalize hW : w1.alloc (.cells #[.int .i64 k, .int .i64 n] 26) = V1 at *
  generalize hg : w1.heap.size = g1 at *
  clear hW hg
  go_wp2_with fail
  refine (K2.out _ (tz_after HT.out Hbel.out)).mono ?_
  rintro e w2 ⟨v2, p2, q2, rfl, hb⟩
  replace HX1 := Lib.hid (HX1.out.below hb HX1.out.lt)
  replace Hbel := Lib.hid (Below.after Hbel.out hb)
  clear hb
  go_upto_region 5 with fail
  replace HX1 := Lib.hid (HX1.out.alloc (.cells #[.int .i64 p2, .int .i64 q2] 26))
  have HX2 := Lib.hid (Blk.new w2 26 #[.int .i64 p2, .int .i64 q2])
  replace Hbel := Lib.hid (Hbel.out.alloc Hbel.out.size (.cells #[.int .i64 p2, .int .i64 q2] 26))
  generalize hW : w2.alloc (.cells #[.int .i64 p2, .int .i64 q2] 26) = V2 at *
  generalize hg : w2.heap.size = g2 at *
  clear hW hg
  go_wp2_with fail
  refine (K3.out _ (tz_after HT.out Hbel.out)).mono ?_
  rintro e w3 ⟨rfl, hb⟩
  replace HX1 := Lib.hid (HX1.out.below hb HX1.out.lt)
  replace HX2 := Lib.hid (HX2.out.below hb HX2.out.lt)
  replace Hbel := Lib.hid (Below.after Hbel.out hb)
  clear hb
  go_upto_region 6 with fail
  replace HX1 := Lib.hid (HX1.out.alloc (.cells #[.int .i64 k, .int .i64 n] 26))
  replace HX2 := Lib.hid (HX2.out.alloc (.cells #[.int .i64 k, .int .i64 n] 26))
  have HX3 := Lib.hid (Blk.new w3 26 #[.int .i64 k, .int .i64 n])
  replace Hbel := Lib.hid (Hbel.out.alloc Hbel.out.size (.cells #[.int .i64 k, .int .i64 n] 26))
  generalize hW : w3.alloc (.cells #[.int .i64 k, .int .i64 n] 26) = V3 at *
  generalize hg : w3.heap.size = g3 at *
  clear hW hg
  obtain ⟨x1, y1⟩ := Blk.c2 HX1.out
  obtain ⟨x3, y3⟩ := Blk.c2 HX3.out
  go_wp2_with fail
  refine (awake_tok _ (tz_after HT.out Hbel.out)).mono ?_
  rintro e w9 ⟨rfl, hb⟩
  replace Hbel := Lib.hid (Below.after Hbel.out hb)
  clear hb
  go_wp2_with fail
  go_ret
  exact ⟨rfl, Hbel.out⟩

set_option maxRecDepth 100000 in
set_option maxHeartbeats 4000000 in
theorem both_second (w : World) (a b : ByteArray) (hT : Tz w) (ha : a.size ≤ 2000) (hb : b.size ≤ 2000) (k n : Nat) (ts : List Tk) (h0 : k ≠ 0) (hne : ts ≠ []) (h1 : tokens parseR a.data.toList = (0, 0, ts)) (h2 : tokens parseR b.data.toList = (k, n, [])) (h3 : tokens parseR (a ++ ⟨#[10]⟩ ++ b).data.toList = (k, n + (a.data.toList.count 10 + 1), [])) :
    Calls Tryd.prog 3 #[.string a, .string b] w fun e w' => e = .returned (.bool true) ∧ Below w.heap.size w w' := by
  have t1 : ¬ (2000 : Int) < (a.size : Int) := by omega
  have t2 : ¬ (2000 : Int) < (b.size : Int) := by omega
  have hs3 : (a ++ ⟨#[10]⟩ ++ b).size ≤ 9223372036854775807 := (by rw [ByteArray.size_append, ByteArray.size_append, show (⟨#[10]⟩ : ByteArray).size = 1 from rfl]; omega)
  have KC := Lib.hid (fun W => show Calls Tryd.prog 7 #[.string a, .string ⟨#[10]⟩] W fun e w' => e = .returned (.int .i64 (a.data.toList.count 10 : Nat)) ∧ w' = W from Tryd.strings_Count_one a 10 W)
  have hcn : a.data.toList.count 10 ≤ 2000 := by have h1 := List.count_le_length (a := (10 : UInt8)) (l := a.data.toList); have h2 : a.data.toList.length = a.size := by simp
                                                 omega
  have hn : n ≤ 2001 := by have := (tokens_le b.data.toList).1; rw [h2] at this; simp at this; omega
  generalize a.data.toList.count 10 = cnt at *
  obtain ⟨L, hL⟩ : ∃ L, L = n + (cnt + 1) := ⟨_, rfl⟩
  rw [← hL] at h3
  have kn : (n : Int) + ((cnt : Int) + 1) = (L : Int) := by omega
  clear hL
  have K1 := Lib.hid (fun W hW => tokens_ok a W ts (by omega) hW h1)
  have K2 := Lib.hid (fun W hW => tokens_bad b W k n (by omega) hW h2 h0)
  have K3 := Lib.hid (fun W hW => tokens_bad (a ++ ⟨#[10]⟩ ++ b) W k L hs3 hW h3 h0)
  have k0 : ((k : Int) == 0) = false := is_not (by omega)
  clear ha hb h0 h1 h2 h3 hs3
  have HT := Lib.hid hT
  have Hbel := Lib.hid (Below.refl w.heap.size w)
  clear hT
  go_enter Tryd.func3, Tryd.ntmps3
  go_wp2_with fail
  refine (K1.out _ (tz_after HT.out Hbel.out)).mono ?_
  rintro e w1 ⟨A1, c1, ps, rfl, hps, hr1, -, hb⟩
  replace Hbel := Lib.hid (Below.after Hbel.out hb)
  have hm : 0 < ps.length := by have := congrArg List.length hps; have h9 := List.length_pos_iff.2 hne; simp at this; omega
  have tm : ((ps.length : Int) == 0) = false := is_not (by omega)
  clear hps hr1 hne hm
  generalize ps.length = m at *
  clear hb
  go_upto_region 4 with fail
  have HX1 := Lib.hid (Blk.new w1 26 #[.int .i64 0, .int .i64 0])
  replace Hbel := Lib.hid (Hbel.out.alloc Hbel.out.size (.cells #[.int .i64 0, .int .i64 0] 26))
  generalize hW : w1.alloc (.cells #[.int .i64 0, .int .i64 0] 26) = V1 at *
  generalize hg : w1.heap.size = g1 at *
  clear hW hg
  go_wp2_with fail
  refine (K2.out _ (tz_after HT.out Hbel.out)).mono ?_
  rintro e w2 ⟨rfl, hb⟩
  replace HX1 := Lib.hid (HX1.out.below hb HX1.out.lt)
  replace Hbel := Lib.hid (Below.after Hbel.out hb)
  clear hb
  go_upto_region 5 with fail
  replace HX1 := Lib.hid (HX1.out.alloc (.cells #[.int .i64 k, .int .i64 n] 26))
  have HX2 := Lib.hid (Blk.new w2 26 #[.int .i64 k, .int .i64 n])
  replace Hbel := Lib.hid (Hbel.out.alloc Hbel.out.size (.cells #[.int .i64 k, .int .i64 n] 26))
  generalize hW : w2.alloc (.cells #[.int .i64 k, .int .i64 n] 26) = V2 at *
  generalize hg : w2.heap.size = g2 at *
  clear hW hg
  go_wp2_with fail
  refine (K3.out _ (tz_after HT.out Hbel.out)).mono ?_
  rintro e w3 ⟨rfl, hb⟩
  replace HX1 := Lib.hid (HX1.out.below hb HX1.out.lt)
  replace HX2 := Lib.hid (HX2.out.below hb HX2.out.lt)
  replace Hbel := Lib.hid (Below.after Hbel.out hb)
  clear hb
  go_upto_region 6 with fail
  replace HX1 := Lib.hid (HX1.out.alloc (.cells #[.int .i64 k, .int .i64 L] 26))
  replace HX2 := Lib.hid (HX2.out.alloc (.cells #[.int .i64 k, .int .i64 L] 26))
  have HX3 := Lib.hid (Blk.new w3 26 #[.int .i64 k, .int .i64 L])
  replace Hbel := Lib.hid (Hbel.out.alloc Hbel.out.size (.cells #[.int .i64 k, .int .i64 L] 26))
  generalize hW : w3.alloc (.cells #[.int .i64 k, .int .i64 L] 26) = V3 at *
  generalize hg : w3.heap.size = g3 at *
  clear hW hg
  obtain ⟨x1, y1⟩ := Blk.c2 HX1.out
  obtain ⟨x2, y2⟩ := Blk.c2 HX2.out
  obtain ⟨x3, y3⟩ := Blk.c2 HX3.out
  go_wp2_with fail
  refine (KC.out _).mono ?_
  rintro e wk ⟨rfl, hw⟩
  clear KC
  subst hw
  go_wp2_with fail
  refine (awake_tok _ (tz_after HT.out Hbel.out)).mono ?_
  rintro e w9 ⟨rfl, hb⟩
  replace Hbel := Lib.hid (Below.after Hbel.out hb)
  clear hb
  go_wp2_with fail
  go_ret
  exact ⟨rfl, Hbel.out⟩

set_option maxRecDepth 100000 in
set_option maxHeartbeats 4000000 in
theorem both_both (w : World) (a b : ByteArray) (hT : Tz w) (ha : a.size ≤ 2000) (hb : b.size ≤ 2000) (ts us : List Tk) (hne : ts ≠ []) (h1 : tokens parseR a.data.toList = (0, 0, ts)) (h2 : tokens parseR b.data.toList = (0, 0, us)) (h3 : tokens parseR (a ++ ⟨#[10]⟩ ++ b).data.toList = (0, 0, ts.dropLast ++ us.map (upT (a.data.toList.count 10 + 1)))) :
    Calls Tryd.prog 3 #[.string a, .string b] w fun e w' => e = .returned (.bool true) ∧ Below w.heap.size w w' := by
  have t1 : ¬ (2000 : Int) < (a.size : Int) := by omega
  have t2 : ¬ (2000 : Int) < (b.size : Int) := by omega
  have hs3 : (a ++ ⟨#[10]⟩ ++ b).size ≤ 9223372036854775807 := (by rw [ByteArray.size_append, ByteArray.size_append, show (⟨#[10]⟩ : ByteArray).size = 1 from rfl]; omega)
  have KC := Lib.hid (fun W => show Calls Tryd.prog 7 #[.string a, .string ⟨#[10]⟩] W fun e w' => e = .returned (.int .i64 (a.data.toList.count 10 : Nat)) ∧ w' = W from Tryd.strings_Count_one a 10 W)
  have hcn : a.data.toList.count 10 ≤ 2000 := by have h1 := List.count_le_length (a := (10 : UInt8)) (l := a.data.toList); have h2 : a.data.toList.length = a.size := by simp
                                                 omega
  have hln := (tokens_le b.data.toList).2
  rw [h2] at hln
  have hsz := tokens_sz (a ++ ⟨#[10]⟩ ++ b).data.toList
  rw [h3] at hsz
  generalize a.data.toList.count 10 = cnt at *
  have K1 := Lib.hid (fun W hW => tokens_ok a W ts (by omega) hW h1)
  have K2 := Lib.hid (fun W hW => tokens_ok b W us (by omega) hW h2)
  have K3 := Lib.hid (fun W hW => tokens_ok (a ++ ⟨#[10]⟩ ++ b) W _ hs3 hW h3)
  have Hln := Lib.hid (show ∀ k ∈ us, k.line ≤ 2001 from fun k hk => by have := hln k hk; simp at this; omega)
  have Hsz := Lib.hid hsz
  have H2e := Lib.hid h2
  have H1e := Lib.hid h1
  clear ha hb h1 h2 h3 hs3 hln hsz
  have HT := Lib.hid hT
  have Hbel := Lib.hid (Below.refl w.heap.size w)
  clear hT
  go_enter Tryd.func3, Tryd.ntmps3
  go_wp2_with fail
  refine (K1.out _ (tz_after HT.out Hbel.out)).mono ?_
  rintro e w1 ⟨A1, c1, ps, rfl, hps, hr1, hc1, hb⟩
  replace Hbel := Lib.hid (Below.after Hbel.out hb)
  have HR1 := Lib.hid hr1
  have Hps := Lib.hid hps
  obtain ⟨m, hm⟩ : ∃ m, ps.length = m + 1 := ⟨ps.length - 1, by have := congrArg List.length hps; have h9 := List.length_pos_iff.2 hne; simp at this; omega⟩
  have hsl := hr1.now.sl
  rw [hm] at hsl hc1 ⊢
  replace hc1 : m ≤ c1 := by omega
  obtain ⟨b1, o1, rfl⟩ := hsl (Nat.succ_pos _)
  have Hm := Lib.hid hm
  clear hps hr1 K1 hne hm hsl
  clear hb
  go_upto_region 4 with fail
  replace HR1 := Lib.hid (HR1.out.alloc (.cells #[.int .i64 0, .int .i64 0] 26))
  have HX1 := Lib.hid (Blk.new w1 26 #[.int .i64 0, .int .i64 0])
  replace Hbel := Lib.hid (Hbel.out.alloc Hbel.out.size (.cells #[.int .i64 0, .int .i64 0] 26))
  generalize hW : w1.alloc (.cells #[.int .i64 0, .int .i64 0] 26) = V1 at *
  generalize hg : w1.heap.size = g1 at *
  clear hW hg
  go_wp2_with fail
  have hz := Hbel.out.size
  refine (K2.out _ (tz_after HT.out Hbel.out)).mono ?_
  rintro e w2 ⟨A2, c2, qs, rfl, hqs, hr2, -, hb⟩
  replace HX1 := Lib.hid (HX1.out.below hb HX1.out.lt)
  replace HR1 := Lib.hid (HR1.out.below hb)
  replace Hbel := Lib.hid (Below.after Hbel.out hb)
  have HR2 := Lib.hid (hr2.mono (G := (w.heap.size ≤ ·)) (fun b hb' => Nat.le_trans hz hb'))
  have Hqs := Lib.hid hqs
  have hn2 : qs.length ≤ 2001 := by have h1 := congrArg List.length hqs; have h2 := tokens_len2 b.data.toList; rw [H2e.out] at h2; simp at h1 h2; omega
  clear hqs hr2 K2 hz
  clear hb
  go_upto_region 5 with fail
  replace HX1 := Lib.hid (HX1.out.alloc (.cells #[.int .i64 0, .int .i64 0] 26))
  replace HR1 := Lib.hid (HR1.out.alloc (.cells #[.int .i64 0, .int .i64 0] 26))
  replace HR2 := Lib.hid (HR2.out.alloc (.cells #[.int .i64 0, .int .i64 0] 26))
  have HX2 := Lib.hid (Blk.new w2 26 #[.int .i64 0, .int .i64 0])
  replace Hbel := Lib.hid (Hbel.out.alloc Hbel.out.size (.cells #[.int .i64 0, .int .i64 0] 26))
  generalize hW : w2.alloc (.cells #[.int .i64 0, .int .i64 0] 26) = V2 at *
  generalize hg : w2.heap.size = g2 at *
  clear hW hg
  go_wp2_with fail
  have hz := Hbel.out.size
  refine (K3.out _ (tz_after HT.out Hbel.out)).mono ?_
  rintro e w3 ⟨A3, c3, rs, rfl, hrs, hr3, -, hb⟩
  replace HX1 := Lib.hid (HX1.out.below hb HX1.out.lt)
  replace HX2 := Lib.hid (HX2.out.below hb HX2.out.lt)
  replace HR1 := Lib.hid (HR1.out.below hb)
  replace HR2 := Lib.hid (HR2.out.below hb)
  replace Hbel := Lib.hid (Below.after Hbel.out hb)
  have HR3 := Lib.hid (hr3.mono (G := (w.heap.size ≤ ·)) (fun b hb' => Nat.le_trans hz hb'))
  have Hrs := Lib.hid hrs
  clear hrs hr3 K3 hz
  clear hb
  go_upto_region 6 with fail
  replace HX1 := Lib.hid (HX1.out.alloc (.cells #[.int .i64 0, .int .i64 0] 26))
  replace HX2 := Lib.hid (HX2.out.alloc (.cells #[.int .i64 0, .int .i64 0] 26))
  replace HR1 := Lib.hid (HR1.out.alloc (.cells #[.int .i64 0, .int .i64 0] 26))
  replace HR2 := Lib.hid (HR2.out.alloc (.cells #[.int .i64 0, .int .i64 0] 26))
  replace HR3 := Lib.hid (HR3.out.alloc (.cells #[.int .i64 0, .int .i64 0] 26))
  have hz3 := Hbel.out.size
  have HX3 := Lib.hid (Blk.new w3 26 #[.int .i64 0, .int .i64 0])
  replace Hbel := Lib.hid (Hbel.out.alloc Hbel.out.size (.cells #[.int .i64 0, .int .i64 0] 26))
  have HB3 := Lib.hid (show w.heap.size ≤ w3.heap.size from hz3)
  clear hz3
  generalize hW : w3.alloc (.cells #[.int .i64 0, .int .i64 0] 26) = V3 at *
  generalize hg : w3.heap.size = g3 at *
  clear hW hg
  obtain ⟨x1, y1⟩ := Blk.c2 HX1.out
  obtain ⟨x2, y2⟩ := Blk.c2 HX2.out
  obtain ⟨x3, y3⟩ := Blk.c2 HX3.out
  have tm : ((m : Int) + 1 == 0) = false := is_not (by omega)
  go_wp2_with fail
  refine (KC.out _).mono ?_
  rintro e wk ⟨rfl, hw⟩
  clear KC
  subst hw
  go_upto_region 13 with fail
  have HXR := Lib.hid (Blk.rests (F := (w.heap.size ≤ ·)) HX3.out HB3.out)
  have hml : m ≤ 2001 := by have h1 := congrArg List.length Hps.out; have h2 := tokens_len2 a.data.toList; rw [H1e.out] at h2; have h3 := Hm.out; simp at h1 h2; omega
  obtain ⟨v', w', hrun, hwi, hbw⟩ := WI.start (c := c1) Hm.out HR1.out ((HR2.out.and HR3.out).and HXR.out) Hbel.out.size (by omega)
  have Hrun := Lib.hid hrun
  have HW := Lib.hid hwi
  replace Hbel := Lib.hid (Hbel.out.trans hbw)
  clear hrun hwi hbw HX1 HX2 HX3 HR1 HR2 HR3 HXR x1 y1 x2 y2 x3 y3
  go_wp2_with (at_builtin; refine wpList_append_eq rfl (.tmp 82) (.tmp 87) 23 _ _ _ rfl rfl rfl Hrun.out ?_)
  clear Hrun
  have sl2 := HW.out.rest.now.1.1.sl
  have hsz1 := size_tok
  have hadd := adr_add
  go_loopw [12, 13] (fun wv iv wr => ∃ (v : Value) (i : Nat) (ys : List (Tk × RV)), v = wv ∧ iv = .int .i64 i ∧ i ≤ qs.length ∧ ys.length = m + i ∧ Hid (ys.map Prod.fst = ts.dropLast ++ (us.take i).map (upT (cnt + 1))) ∧ Hid (WI w.heap.size wr v ys (fun W => (TokR W A2 qs ∧ TokR W A3 rs) ∧ Blk W g3 26 #[.int .i64 0, .int .i64 0])) ∧ Hid (Below w.heap.size w wr)) (fun _ iv _ => qs.length - (intOf iv).toNat)
  case atStart => exact ⟨_, 0, _, rfl, rfl, Nat.zero_le _, by have := Hm.out; simp; omega, Lib.hid (by rw [List.map_take, Hps.out]; have h1 := congrArg List.length Hps.out; have h2 := Hm.out; simp at h1; rw [List.dropLast_eq_take]; simp; congr 1; omega), HW, Hbel⟩
  case round =>
    clear HW Hbel
    obtain ⟨v, i, ys, rfl, rfl, hi, hyl, HY, HW, Hbel⟩ := hrel
    by_cases hlt : i < qs.length
    · obtain ⟨x0, x1, x2, x3, x4, x5, x6⟩ := HW.out.rest.now.1.1.cells i hlt
      have hiu : i < us.length := by have h1 := congrArg List.length Hqs.out; simp at h1; omega
      have hpk : (qs[i]).1 = us[i] := by have h1 := Hqs.out; subst h1; simp
      have hnum : ∀ W : World, (TokR W A2 qs ∧ TokR W A3 rs) ∧ Blk W g3 26 #[.int .i64 0, .int .i64 0] → RatN (qs[i]).2 (us[i]).x W := fun W hW => by have := hW.1.1.num _ (List.getElem_mem hlt); rwa [hpk] at this
      rw [hpk] at x0 x1 x6
      have hll := Hln.out _ (List.getElem_mem hiu)
      obtain ⟨L, hL⟩ : ∃ L, L = (us[i]).line + (cnt + 1) := ⟨_, rfl⟩
      have hadd1 : ((us[i]).line : Int) + ((cnt : Int) + 1) = (L : Int) := by omega
      have hup : upT (cnt + 1) us[i] = ⟨(us[i]).kind, (us[i]).s, (us[i]).x, L⟩ := by rw [hL]; rfl
      obtain ⟨wq, hwq⟩ : ∃ wq, wq = wr := ⟨_, rfl⟩
      have Hnx := Lib.hid (show (ys.map Prod.fst) ++ [upT (cnt + 1) us[i]] = ts.dropLast ++ (us.take (i + 1)).map (upT (cnt + 1)) by
        rw [HY.out, List.take_succ_eq_append_getElem hiu, List.map_append, List.append_assoc]; rfl)
      rw [hup] at Hnx
      clear hup hL
      generalize us[i] = p at *
      generalize (qs[i]).2 = r at *
      clear hpk hwq
      go_upto_region 19 with fail
      have HB2 := Lib.hid (Blk.new wr 37 #[.int .u8 (p.kind : Nat), .string ⟨p.s.toArray⟩, .bool r.num.neg, .slice r.num.A r.num.k r.num.c, .bool r.den.neg, .slice r.den.A r.den.k r.den.c, .int .i64 (L : Nat)])
      have HW2 := Lib.hid (HW.out.below (Below.of_alloc wr (.cells #[.int .u8 (p.kind : Nat), .string ⟨p.s.toArray⟩, .bool r.num.neg, .slice r.num.A r.num.k r.num.c, .bool r.den.neg, .slice r.den.A r.den.k r.den.c, .int .i64 (L : Nat)] 37)))
      have Hb2 := Lib.hid (Hbel.out.alloc Hbel.out.size (.cells #[.int .u8 (p.kind : Nat), .string ⟨p.s.toArray⟩, .bool r.num.neg, .slice r.num.A r.num.k r.num.c, .bool r.den.neg, .slice r.den.A r.den.k r.den.c, .int .i64 (L : Nat)] 37))
      generalize hW2 : wr.alloc (.cells #[.int .u8 (p.kind : Nat), .string ⟨p.s.toArray⟩, .bool r.num.neg, .slice r.num.A r.num.k r.num.c, .bool r.den.neg, .slice r.den.A r.den.k r.den.c, .int .i64 (L : Nat)] 37) = W2 at *
      generalize hg2 : wr.heap.size = gt at *
      obtain ⟨v', w4, hrun, hwi, hbw⟩ := HW2.out.app ⟨p.kind, p.s, p.x, L⟩ r hnum (by omega) Hb2.out.size
      have Hrun := Lib.hid hrun
      have HW3 := Lib.hid hwi
      have Hb3 := Lib.hid (Hb2.out.trans hbw)
      obtain ⟨z0, z1, z2, z3, z4, z5, z6⟩ := Blk.c7 HB2.out
      clear hW2 hg2 hrun hwi hbw HW2 Hb2 HW HB2 hnum x0 x1 x2 x3 x4 x5 x6
      go_wp2_with (at_builtin; refine wpList_append_eq rfl (.tmp 104) (.tmp 106) 23 _ _ _ rfl rfl rfl Hrun.out ?_)
      go_roundw
      case rel => exact ⟨v', i + 1, _, rfl, by go_num, by omega, by simp; omega, Lib.hid (by rw [List.map_append]; exact Hnx.out), HW3, Hb3⟩
      case measure => simp [intOf]; omega
    · obtain rfl : i = qs.length := by omega
      have hul : us.length = qs.length := by have h1 := congrArg List.length Hqs.out; simp at h1; omega
      have HE := Lib.hid (show rs.map Prod.fst = ys.map Prod.fst by rw [HY.out, Hrs.out, ← hul, List.take_length])
      have Hsr : Hid (∀ p ∈ rs, Sz p.1.x 100) := Lib.hid (fun p hp => Hsz.out _ (by rw [← Hrs.out]; exact List.mem_map_of_mem hp))
      obtain ⟨Ay, cy, hv, -, hry⟩ := HW.out.tok.read
      subst hv
      have HX3 := Lib.hid HW.out.rest.now.2
      have HR3 := Lib.hid HW.out.rest.now.1.2
      have HY3 := Lib.hid hry
      have hyn : ys.length ≤ 1000000 := by omega
      clear HW hry HY Hrs Hsz
      obtain ⟨x3, y3⟩ := Blk.c2 HX3.out
      clear sl2 hsz1 hadd
      generalize hyy : ys.length = ny at *
      have Hyy := Lib.hid hyy
      clear hyy hyl
      go_wp2_with fail
      refine (sameTok_true _ A3 Ay c3 cy ny rs ys HR3.out HY3.out HE.out Hsr.out Hyy.out hyn).mono ?_
      rintro e w5 ⟨rfl, hb⟩
      replace Hbel := Lib.hid (Below.after Hbel.out hb)
      clear hb
      go_wp2_with fail
      refine (awake_tok _ (tz_after HT.out Hbel.out)).mono ?_
      rintro e w9 ⟨rfl, hb⟩
      replace Hbel := Lib.hid (Below.after Hbel.out hb)
      clear hb
      go_wp2_with fail
      go_ret
      exact ⟨rfl, Hbel.out⟩

theorem tokensBoth_any (w : World) (a : ByteArray) (_wa : a.size ≤ maxLen) (b : ByteArray) (_wb : b.size ≤ maxLen) (hT : Tz w) :
    Calls Tryd.prog 3 #[.string a, .string b] w fun e w' => e = .returned (.bool true) ∧ Below w.heap.size w w' := by
  by_cases h : 2000 < a.size
  · exact both_la w a b hT h
  · by_cases h' : 2000 < b.size
    · exact both_lb w a b hT h h'
    · rcases both_p a b (by omega) (by omega) with ⟨e, n, h0, h1, h3⟩ | ⟨e, n, ts, h0, hne, h1, h2, h3⟩ | ⟨ts, us, hne, h1, h2, h3⟩
      · exact both_first w a b hT (by omega) (by omega) e n h0 h1 h3
      · exact both_second w a b hT (by omega) (by omega) e n ts h0 hne h1 h2 h3
      · exact both_both w a b hT (by omega) (by omega) ts us hne h1 h2 h3
end Go.Proofs.YtgghdedabpohbaaDoor
namespace Go.Proofs.YtgghdedabpohbaaDoor.tokensBoth
open Go.ChangeShapes Go.WideShapes Go.ChangeAt Go.RowKit Go.ChangeMaps

set_option maxRecDepth 100000 in
theorem contract (H : Type) (enc : TypeId × Value → H) (W : World) (base : Nat) (args : Array Value) (ds gs : List (DataW H)) (before : List MemPlace)
    (hval : ∀ (j : Nat) t v, Tryd.f3.params[j]? = some t → args[j]? = some v → Value.okWide Tryd.prog W .any base t v)
    (hW : DataW.Whole enc Tryd.prog Tryd.f3.params.toList Rows.tokensBothSpec.vars false W args.toList ds gs before) (hL : laidMetH Tryd.prog Rows.tokensBothRow.laid W) :
    Calls Tryd.prog 3 args W fun e W' => ∃ v, e = .returned v ∧ Rows.tokensBothSpec.post enc Tryd.prog Tryd.f3 false true false false W args v W' := by
  have hW' := hW
  have hlt := hW.lt
  obtain ⟨p, q, hA, hV, rfl, hfz, hnd⟩ := hW
  obtain ⟨rfl, rfl⟩ := trodVars_none hV
  rw [Tryd.params3] at hA
  obtain ⟨v0, vs0, d0, ds0, p0, q0, hargs, rfl, rfl, h0, t0⟩ := trodAll_cons hA
  obtain ⟨v1, vs1, d1, ds1, p1, q1, rfl, rfl, rfl, h1, t1⟩ := trodAll_cons t0
  obtain ⟨rfl, rfl, rfl⟩ := trodAll_nil t1
  obtain rfl : args = #[v0, v1] := by cases args; simp_all
  obtain ⟨s0, rfl, -, -, ws0⟩ := open_string Tryd.underlying9 (hval 0 _ v0 (by rw [Tryd.params3]; rfl) rfl) h0
  obtain ⟨s1, rfl, -, -, ws1⟩ := open_string Tryd.underlying9 (hval 1 _ v1 (by rw [Tryd.params3]; rfl) rfl) h1
  refine (tokensBoth_any W s0 ws0 s1 ws1 (tz_of hL)).mono fun e W' ⟨he, hb⟩ => ?_
  subst he
  exact ⟨_, rfl, post_kept hW' rfl rfl rfl hb (by rw [Tryd.params3]; simpa only [List.append_nil] using trodAll_cons_mk (keep_str h0 hb (fun x hx => hlt x (by simp [hx]))) (trodAll_cons_mk (keep_str h1 hb (fun x hx => hlt x (by simp [hx]))) (trodAll_mk0)))⟩

theorem laid_met (os : Os) : laidMet Tryd.prog Rows.tokensBothRow.laid ((laidWorld os).forCall (fun _ _ => 0) ⟨#[], #[.string ⟨#[]⟩, .string ⟨#[]⟩], []⟩).memory :=
  laidMet_of_run' 8 (by kernel_rfl) (by kernel_rfl)
theorem reads (os : Os) {H : Type} (enc : TypeId × Value → H) : ∃ places, DataW.whole enc Tryd.prog ((laidWorld os).forCall (fun _ _ => 0) ⟨#[], #[.string ⟨#[]⟩, .string ⟨#[]⟩], []⟩).memory Tryd.f3.params.toList Rows.tokensBothSpec.vars false (#[.string ⟨#[]⟩, .string ⟨#[]⟩] : Array Value).toList 8 = some ([.lit (.string []), .lit (.string [])], [], places) :=
  ⟨[], by kernel_rfl⟩

set_option maxRecDepth 100000 in
theorem lifted (os : Os) (started : os.Started) (H : Type) (enc : TypeId × Value → H) (F : Stop.Interp) :
    ReturnsInHanded {} Tryd.checked os 3 .any ((OpenSpec.ofChange Rows.tokensBothSpec).preRow enc Tryd.prog Tryd.f3 Rows.tokensBothRow.domain false Rows.tokensBothRow.laid) (((OpenSpec.ofChange Rows.tokensBothSpec).at F).post enc Tryd.prog Tryd.f3 false true false false) := by
  obtain ⟨places, hx⟩ := reads os enc
  refine returnsInHanded_of_row (C := Tryd.checked) (s := OpenSpec.ofChange Rows.tokensBothSpec) own started (by kernel_rfl) Tryd.func3
    (witness_row_at (enc := enc) (C := Tryd.checked) false (laidWorld os) #[.string ⟨#[]⟩, .string ⟨#[]⟩] rfl (by kernel_rfl) (by kernel_rfl) (by kernel_rfl)
      (OpenSpec.preRow_of_cond 8 hx (by kernel_rfl) (fun k hk => by cases hk) (by kernel_rfl) (laid_met os))) ?_
  intro W base args ds gs before hval hW _ _ _ hL _ _
  exact contract H enc W base args ds gs before hval hW hL

theorem said : Rows.TokensBothSaid :=
  OpenClaim.holds_of_cond 3 Tryd.f3 rfl rfl rfl rfl rfl rfl rfl ⟨rfl, rfl, rfl, rfl, rfl⟩ rfl rfl rfl rfl rfl (by kernel_rfl) Tryd.func3 (by kernel_rfl)
    (of_decide_eq_true (by kernel_rfl)) (by unfold Func.isWrapper; first | (rw [if_pos (by decide +kernel)]; kernel_rfl) | (rw [if_neg (by decide +kernel)]; exact ⟨rfl, rfl⟩))
    (fun os started H enc _ F => by rw [OpenClaim.pre_eq_preRow]; exact lifted os started H enc F)

theorem plain (f : FuncId) (fn : Func) (hf : Tryd.pinned.checked.prog.funcNamed "tripwire/tripwirelaw09.TokensBoth" = some f) (hfn : Tryd.pinned.checked.prog.funcs[f]? = some fn) :
    false = Tryd.pinned.checked.prog.looks [] ∧ ∀ (j : Nat) t, fn.params[j]? = some t → Tryd.pinned.checked.prog.wantsStandIn t = false := by
  obtain rfl : f = 3 := Option.some.inj ((show Tryd.prog.funcNamed "tripwire/tripwirelaw09.TokensBoth" = some 3 by kernel_rfl).symm.trans hf) |>.symm
  obtain rfl : fn = Tryd.f3 := (Option.some.inj (Tryd.func3.symm.trans hfn)).symm
  refine ⟨by kernel_rfl, fun j t ht => ?_⟩
  rw [Tryd.params3] at ht
  match j, ht with
  | 0, ht => have e := Option.some.inj ht; rw [← e]; exact (show Tryd.prog.wantsStandIn 9 = false by kernel_rfl)
  | 1, ht => have e := Option.some.inj ht; rw [← e]; exact (show Tryd.prog.wantsStandIn 9 = false by kernel_rfl)
  | n + 2, ht => simp at ht

theorem card : Rows.TokensBothCardSaid :=
  Claim7.holds_tied_plain_at .later [] _ _ _ _ said (fun _ h => by cases h) (by kernel_rfl) (fun _ h => by cases h) tokensBoth_row_tie rfl ⟨rfl, rfl⟩ (by kernel_rfl) rfl plain (by kernel_rfl)
end Go.Proofs.YtgghdedabpohbaaDoor.tokensBoth
#print axioms Go.Proofs.YtgghdedabpohbaaDoor.tokensBoth.card
