/-
  tripwirelow.SameTokens; the laws' small helpers over tokens. tripwirelaw09: Tokens at a known outcome; word, sign, num, end, is, wrong, awake. tripwirelaw09.awake.
-/
import Derived.Test.YtcinoicpibleoaaGreatDoorTT
namespace Go.Proofs.YtcinoicpibleoaaGreatDoor
open Go.RowKit

theorem cells_same {ps qs : List (Tk × RV)} (he : ps.map Prod.fst = qs.map Prod.fst) (k : Nat) (h : k < ps.length) (h' : k < qs.length) : (qs[k]).1 = (ps[k]).1 := by
  have e : (ps.map Prod.fst)[k]? = (qs.map Prod.fst)[k]? := by rw [he]
  rw [List.getElem?_map, List.getElem?_map, List.getElem?_eq_getElem h, List.getElem?_eq_getElem h'] at e
  exact (Option.some.inj e).symm

set_option maxRecDepth 100000 in
set_option maxHeartbeats 4000000 in
theorem sameTok_true (w : World) (A B : Option Addr) (c d n : Nat) (ps qs : List (Tk × RV)) (ha : TokR w A ps) (hb : TokR w B qs) (he : ps.map Prod.fst = qs.map Prod.fst) (hsz : ∀ p ∈ ps, Sz p.1.x 100) (hn : qs.length = n) (hl : n ≤ 1000000) :
    Calls Tryz.prog 10 #[.slice A ps.length c, .slice B n d] w fun e w' => e = .returned (.bool true) ∧ Below w.heap.size w w' := by
  have hln : ps.length = n := by rw [← hn]; have := congrArg List.length he; simpa using this
  rw [hln]
  have Hs := Lib.hid hsz
  have He := Lib.hid he
  have Hl := Lib.hid hln
  have Hn := Lib.hid hn
  have Ha := Lib.hid ha
  have Hb := Lib.hid hb
  have sa : Sl A n := by have := ha.sl; rwa [hln] at this
  have sb : Sl B n := by have := hb.sl; rwa [hn] at this
  have h1 := size_tok
  have h2 := adr_add
  clear hsz he hln hn ha hb
  go_enter Tryz.func10, Tryz.ntmps10
  go_wp2_with fail
  go_loopw [5] (fun iv wr => ∃ k : Nat, iv = .int .i64 k ∧ k ≤ n ∧ Hid (TokR wr A ps) ∧ Hid (TokR wr B qs) ∧ Hid (Below w.heap.size w wr)) (fun iv _ => n - (intOf iv).toNat)
  case atStart => exact ⟨0, rfl, Nat.zero_le _, Ha, Hb, Lib.hid (Below.refl _ _)⟩
  case round =>
    clear Ha Hb
    obtain ⟨k, rfl, hk, Ra, Rb, HB⟩ := hrel
    by_cases hlt : k < n
    · have hka : k < ps.length := by rw [Hl.out]; exact hlt
      have hkb : k < qs.length := by rw [Hn.out]; exact hlt
      obtain ⟨x0, x1, x2, x3, x4, x5, x6⟩ := Ra.out.cells k hka
      obtain ⟨y0, y1, y2, y3, y4, y5, y6⟩ := Rb.out.cells k hkb
      have e := cells_same He.out k hka hkb
      rw [e] at y0 y1 y6
      have HK := Lib.hid (fun (W : World) (hW : Below wr.heap.size wr W) => And.intro ((Ra.out.below hW).cells k hka) ((Rb.out.below hW).cells k hkb))
      rw [e] at HK
      have hs := Hs.out _ (List.getElem_mem hka)
      have hx := Ra.out.num _ (List.getElem_mem hka)
      have hy := Rb.out.num _ (List.getElem_mem hkb)
      rw [e] at hy
      have HC := Lib.hid (fun (W : World) (hW : Below wr.heap.size wr W) => sameRat_true W (ps[k]).2 (qs[k]).2 (ps[k]).1.x (ps[k]).1.x 100 (by decide) hs (hx.below hW) (hy.below hW) rfl)
      clear e hs hx hy
      generalize (ps[k]).1.kind = kd at *
      generalize (ps[k]).1.s = tx at *
      generalize (ps[k]).1.line = ln at *
      generalize (ps[k]).2 = r at *
      generalize (qs[k]).2 = s at *
      clear hka hkb
      go_wp2_with fail
      go_region_held3 (fun W => W.cell? (adr A (k * 7)) = some (.int .u8 (kd : Nat)) ∧ W.cell? (adr A (k * 7 + 1)) = some (.string ⟨tx.toArray⟩) ∧ W.cell? (adr A (k * 7 + 2)) = some (.bool r.num.neg) ∧ W.cell? (adr A (k * 7 + 3)) = some (.slice r.num.A r.num.k r.num.c) ∧ W.cell? (adr A (k * 7 + 4)) = some (.bool r.den.neg) ∧ W.cell? (adr A (k * 7 + 5)) = some (.slice r.den.A r.den.k r.den.c) ∧ W.cell? (adr A (k * 7 + 6)) = some (.int .i64 (ln : Nat)) ∧ W.cell? (adr B (k * 7)) = some (.int .u8 (kd : Nat)) ∧ W.cell? (adr B (k * 7 + 1)) = some (.string ⟨tx.toArray⟩) ∧ W.cell? (adr B (k * 7 + 2)) = some (.bool s.num.neg) ∧ W.cell? (adr B (k * 7 + 3)) = some (.slice s.num.A s.num.k s.num.c) ∧ W.cell? (adr B (k * 7 + 4)) = some (.bool s.den.neg) ∧ W.cell? (adr B (k * 7 + 5)) = some (.slice s.den.A s.den.k s.den.c) ∧ W.cell? (adr B (k * 7 + 6)) = some (.int .i64 (ln : Nat))) (first | go_keep)
        (first | (go_at_call 15; go_must (refine (HC.out _ (by first | exact Below.refl _ _ | exact (Below.refl _ _).drew | exact (Below.refl _ _).drewN _)).mono ?_; rintro e w1 ⟨rfl, hb⟩; have Hb1 := Lib.hid (Below.after (w := wr) (by first | exact Below.refl _ _ | exact (Below.refl _ _).drew | exact (Below.refl _ _).drewN _) hb); clear hb x0 x1 x2 x3 x4 x5 x6 y0 y1 y2 y3 y4 y5 y6; obtain ⟨⟨x0, x1, x2, x3, x4, x5, x6⟩, ⟨y0, y1, y2, y3, y4, y5, y6⟩⟩ := HK.out _ Hb1.out)))
      all_goals
        clear x0 x1 x2 x3 x4 x5 x6 y0 y1 y2 y3 y4 y5 y6
        go_wp2_with fail
        go_roundw
        case rel => exact ⟨k + 1, by go_num, by omega, Lib.hid (Ra.out.below (by first | exact Hb1.out)), Lib.hid (Rb.out.below Hb1.out), Lib.hid (Below.after HB.out Hb1.out)⟩
        case measure => simp [intOf]; omega
    · go_wp2_with fail
      go_ret
      exact ⟨rfl, HB.out⟩
end Go.Proofs.YtcinoicpibleoaaGreatDoor
namespace Go.Proofs.YtcinoicpibleoaaGreatDoor
open Go.RowKit

instance : DecidableEq Tk := fun a b => decidable_of_iff (a.kind = b.kind ∧ a.s = b.s ∧ a.x = b.x ∧ a.line = b.line) (by cases a; cases b; simp)
theorem pz_lt (p : Nat × Bool × Nat) (h : p.2.2 < B64 ^ 100) : (pz p).natAbs < B64 ^ 100 := by
  unfold pz iv
  split <;> simpa using h
theorem parseR_sz (s : List UInt8) : Sz (parseR s).2 100 := by
  have h0 : Sz 0 100 := sz_zero.up (by decide)
  unfold parseR
  simp only
  generalize (if (Lib.cut s [47]).2.2 = true then (Lib.cut s [47]).2.1 else [49]) = bot
  split
  · exact h0
  · split
    · exact h0
    · split
      · exact h0
      · split
        · exact h0
        · exact sz_int (by decide) (pz_lt _ (parse_small _)) (pz_lt _ (parse_small _))
theorem tok1_sz (b : UInt8) (t : List UInt8) (n : Nat) : Sz (tok1 parseR b t n).2.1.x 100 := by
  have h0 : Sz 0 100 := sz_zero.up (by decide)
  unfold tok1
  split
  · exact h0
  · split
    · exact parseR_sz _
    · split <;> exact h0
theorem toks_sz (f : Nat) (l : List UInt8) (n : Nat) : ∀ k ∈ (toks parseR f l n).2.2, Sz k.x 100 := by
  have h0 : Sz 0 100 := sz_zero.up (by decide)
  induction f generalizing l n with
  | zero => intro k hk; simp [toks] at hk
  | succ f ih =>
    intro k hk
    simp only [toks] at hk
    generalize skipG false l n = s at hk
    obtain ⟨s1, m⟩ := s
    match s1, hk with
    | [], hk => simp at hk; rw [hk]; exact h0
    | b :: t, hk =>
      simp only at hk
      split at hk
      · unfold cons1 at hk
        split at hk
        · rcases List.mem_cons.1 hk with rfl | hk
          · exact tok1_sz _ _ _
          · exact ih _ _ k hk
        · exact ih _ _ k hk
      · simp at hk
theorem tokens_sz (l : List UInt8) : ∀ k ∈ (tokens parseR l).2.2, Sz k.x 100 := by
  unfold tokens
  split
  · simp
  · exact toks_sz _ _ _
theorem toks_len (f : Nat) (l : List UInt8) (n : Nat) : (toks parseR f l n).2.2.length ≤ f := by
  induction f generalizing l n with
  | zero => simp [toks]
  | succ f ih =>
    simp only [toks]
    generalize skipG false l n = s
    obtain ⟨s1, m⟩ := s
    match s1 with
    | [] => simp
    | b :: t =>
      simp only
      split
      · unfold cons1
        split
        · simp only [List.length_cons]; exact Nat.succ_le_succ (ih _ _)
        · exact Nat.le_succ_of_le (ih _ _)
      · simp
theorem tokens_len (l : List UInt8) : (tokens parseR l).2.2.length ≤ 1000000 := by
  unfold tokens
  split
  · simp
  · exact Nat.le_trans (toks_len _ _ _) (by omega)
/-- Tokens of a text that has them -/
theorem tokens_ok (s : ByteArray) (w : World) (ts : List Tk) (hs : s.size ≤ 9223372036854775807) (hT : Tz w) (h : tokens parseR s.data.toList = (0, 0, ts)) :
    Calls Tryz.prog 9 #[.string s] w fun e w' => ∃ A c ps, e = .returned (.tuple #[.slice A ps.length c, .agg #[.int .i64 0, .int .i64 0]]) ∧ ps.map Prod.fst = ts ∧ Rests w' (w.heap.size ≤ ·) (fun W => TokR W A ps) ∧ ps.length ≤ c ∧ Below w.heap.size w w' := by
  have H := tokens_any s w hs hT
  rw [h] at H
  refine H.mono ?_
  rintro e w' ⟨v, ps, rfl, hps, ho, -, hb⟩
  obtain ⟨A, c, rfl, hc, hr⟩ := ho.read
  exact ⟨A, c, ps, rfl, hps, TokR.rests ho rfl hr, hc, hb⟩
/-- Tokens of a text that has a fault -/
theorem tokens_bad (s : ByteArray) (w : World) (k n : Nat) (hs : s.size ≤ 9223372036854775807) (hT : Tz w) (h : tokens parseR s.data.toList = (k, n, [])) (h0 : k ≠ 0) :
    Calls Tryz.prog 9 #[.string s] w fun e w' => e = .returned (.tuple #[.slice none 0 0, .agg #[.int .i64 (k : Nat), .int .i64 (n : Nat)]]) ∧ Below w.heap.size w w' := by
  have H := tokens_any s w hs hT
  rw [h] at H
  refine H.mono ?_
  rintro e w' ⟨v, ps, rfl, hps, ho, hv, hb⟩
  rw [hv h0]
  exact ⟨rfl, hb⟩
/-- a token told -/
def RetTk (k : Tk) (w : World) (e : Ending) (w' : World) : Prop := ∃ r : RV, e = .returned (.agg (tcells k r)) ∧ Rests w' (w.heap.size ≤ ·) (RatN r k.x) ∧ Below w.heap.size w w'
theorem RetTk.zero {k : Tk} {w : World} {o : Obj} (h : k.x = 0) : RetTk k w (.returned (.agg (tcells k zeroR))) (w.alloc o) := ⟨zeroR, rfl, by rw [h]; exact ⟨zeroRN _, fun _ _ => zeroRN _⟩, Below.of_alloc _ _⟩

set_option maxRecDepth 100000 in
set_option maxHeartbeats 1000000 in
theorem tword_mk (s : ByteArray) (n : Nat) (z : Int) (hz : z = (n : Nat)) (w : World) : Calls Tryz.prog 61 #[.string s, .int .i64 z] w (RetTk ⟨2, s.data.toList, 0, n⟩ w) := by
  subst hz
  have HN := Blk.new w 33 #[.int .u8 2, .string s, .bool false, .slice none 0 0, .bool false, .slice none 0 0, .int .i64 n]
  go_enter Tryz.func61, Tryz.ntmps61
  go_wp2_with fail
  exact bodyPost_ret (v := .agg #[.int .u8 2, .string s, .bool false, .slice none 0 0, .bool false, .slice none 0 0, .int .i64 n]) (by simp [results, Tryz.results61, go_sem, HN.cell 0, HN.cell 1, HN.cell 2, HN.cell 3, HN.cell 4, HN.cell 5, HN.cell 6]) rfl (RetTk.zero (k := ⟨2, s.data.toList, 0, n⟩) rfl)

set_option maxRecDepth 100000 in
set_option maxHeartbeats 1000000 in
theorem tsign_mk (s : ByteArray) (n : Nat) (z : Int) (hz : z = (n : Nat)) (w : World) : Calls Tryz.prog 63 #[.string s, .int .i64 z] w (RetTk ⟨4, s.data.toList, 0, n⟩ w) := by
  subst hz
  have HN := Blk.new w 33 #[.int .u8 4, .string s, .bool false, .slice none 0 0, .bool false, .slice none 0 0, .int .i64 n]
  go_enter Tryz.func63, Tryz.ntmps63
  go_wp2_with fail
  exact bodyPost_ret (v := .agg #[.int .u8 4, .string s, .bool false, .slice none 0 0, .bool false, .slice none 0 0, .int .i64 n]) (by simp [results, Tryz.results63, go_sem, HN.cell 0, HN.cell 1, HN.cell 2, HN.cell 3, HN.cell 4, HN.cell 5, HN.cell 6]) rfl (RetTk.zero (k := ⟨4, s.data.toList, 0, n⟩) rfl)

set_option maxRecDepth 100000 in
set_option maxHeartbeats 1000000 in
theorem tend_mk (n : Nat) (z : Int) (hz : z = (n : Nat)) (w : World) : Calls Tryz.prog 64 #[.int .i64 z] w (RetTk ⟨1, [], 0, n⟩ w) := by
  subst hz
  have HN := Blk.new w 33 #[.int .u8 1, .string ⟨#[]⟩, .bool false, .slice none 0 0, .bool false, .slice none 0 0, .int .i64 n]
  go_enter Tryz.func64, Tryz.ntmps64
  go_wp2_with fail
  exact bodyPost_ret (v := .agg #[.int .u8 1, .string ⟨#[]⟩, .bool false, .slice none 0 0, .bool false, .slice none 0 0, .int .i64 n]) (by simp [results, Tryz.results64, go_sem, HN.cell 0, HN.cell 1, HN.cell 2, HN.cell 3, HN.cell 4, HN.cell 5, HN.cell 6]) rfl (RetTk.zero (k := ⟨1, [], 0, n⟩) rfl)

set_option maxRecDepth 100000 in
set_option maxHeartbeats 1000000 in
theorem tnum_mk (x y : Int) (n : Nat) (z : Int) (hz : z = (n : Nat)) (w : World) (h1 : -9223372036854775808 ≤ x) (h2 : x ≤ 9223372036854775807) (h3 : -9223372036854775808 ≤ y) (h4 : y ≤ 9223372036854775807) (hT : Tz w) : Calls Tryz.prog 62 #[.int .i64 x, .int .i64 y, .int .i64 z] w (RetTk ⟨3, [], Rat.divInt x y, n⟩ w) := by
  subst hz
  obtain ⟨W0, hW0⟩ : ∃ W0, W0 = (w.alloc (.cells #[.int .u8 0, .string ⟨#[]⟩, .bool false, .slice none 0 0, .bool false, .slice none 0 0, .int .i64 0] 33)) := ⟨_, rfl⟩
  obtain ⟨p0, pb⟩ := lay1 hW0
  have HB := Lib.hid p0
  have Hbel := Lib.hid pb
  have HT := Lib.hid (Rests.al1 (hT.old) hW0)
  have HC := Lib.hid (fun W hW => rof_any W x y h1 h2 h3 h4 hW)
  clear p0 pb hT h1 h2 h3 h4
  subst hW0
  go_enter Tryz.func62, Tryz.ntmps62
  go_wp2_with fail
  have hgl := HB.out.lt
  refine (HC.out _ HT.out.now).mono ?_
  rintro e w1 ⟨r, rfl, hr, hb⟩
  replace HB := Lib.hid (HB.out.below hb HB.out.lt)
  replace Hbel := Lib.hid (Below.after Hbel.out hb)
  have Hr := Lib.hid (hr.mono (G := (w.heap.size + 1 ≤ ·)) (fun b hb' => Nat.le_trans hgl hb'))
  clear hr hgl hb HT HC
  obtain ⟨x0, x1, x2, x3, x4, x5, x6⟩ := Blk.c7 HB.out
  obtain ⟨f0, f1, f2, f3, f4, f5, f6⟩ := Blk.f7 HB.out
  go_wp2_with fail
  rw [set7_eq]
  exact bodyPost_ret (v := .agg #[.int .u8 3, .string ⟨#[]⟩, .bool r.num.neg, .slice r.num.A r.num.k r.num.c, .bool r.den.neg, .slice r.den.A r.den.k r.den.c, .int .i64 n]) (by simp [results, Tryz.results62, go_sem, set7_c0 HB.out, set7_c1 HB.out, set7_c2 HB.out, set7_c3 HB.out, set7_c4 HB.out, set7_c5 HB.out, set7_c6 HB.out]) rfl
    ⟨r, rfl, (set7_rests Hr.out (by show ¬ w.heap.size + 1 ≤ w.heap.size; omega)).mono (fun b hb => Nat.le_of_succ_le hb), set7_below Hbel.out (Nat.le_refl _)⟩

set_option maxRecDepth 100000 in
set_option maxHeartbeats 1000000 in
theorem tis_any (w : World) (s : ByteArray) (A : Option Addr) (c n : Nat) (ps : List (Tk × RV)) (hs : s.size ≤ 9223372036854775807) (hT : Tz w) (hp : TokR w A ps) (hn : ps.length = n) (hk : tokens parseR s.data.toList = (0, 0, ps.map Prod.fst)) :
    Calls Tryz.prog 60 #[.string s, .slice A n c] w fun e w' => e = .returned (.bool true) ∧ Below w.heap.size w w' := by
  have hsz : ∀ k ∈ ps.map Prod.fst, Sz k.x 100 := by have := tokens_sz s.data.toList; rw [hk] at this; exact this
  have hl : n ≤ 1000000 := by have := tokens_len s.data.toList; rw [hk] at this; simpa [hn] using this
  have HK := Lib.hid (tokens_ok s w _ hs hT hk)
  have HP := Lib.hid hp
  have HS := Lib.hid hsz
  have Hn := Lib.hid hn
  clear hs hT hp hk hsz hn
  go_enter Tryz.func60, Tryz.ntmps60
  go_wp2_with fail
  refine HK.out.mono ?_
  rintro e w1 ⟨B, d, qs, rfl, hq, hr, -, hb⟩
  have HX := Lib.hid (Blk.new w1 40 #[.int .i64 0, .int .i64 0])
  have HA := Lib.hid ((HP.out.below hb).alloc (.cells #[.int .i64 0, .int .i64 0] 40))
  have HB := Lib.hid (hr.now.alloc (.cells #[.int .i64 0, .int .i64 0] 40))
  have Hbel := Lib.hid (hb.alloc hb.size (.cells #[.int .i64 0, .int .i64 0] 40))
  have Hq := Lib.hid hq
  have Hsq : Hid (∀ p ∈ qs, Sz p.1.x 100) := Lib.hid (fun p hp => HS.out _ (by rw [← hq]; exact List.mem_map_of_mem hp))
  clear hq hr hb HK HP HS
  obtain ⟨x0, x1⟩ := Blk.c2 HX.out
  go_wp2_with fail
  refine (sameTok_true _ B A d c n qs ps HB.out HA.out Hq.out Hsq.out Hn.out hl).mono ?_
  rintro e w2 ⟨rfl, hb2⟩
  have HZ := Lib.hid (Below.after Hbel.out hb2)
  clear hb2
  go_wp2_with fail
  go_ret
  exact ⟨rfl, HZ.out⟩

set_option maxRecDepth 100000 in
set_option maxHeartbeats 1000000 in
theorem twrong_any (w : World) (s : ByteArray) (k n : Nat) (hs : s.size ≤ 9223372036854775807) (hT : Tz w) (hk : tokens parseR s.data.toList = (k, n, [])) (h0 : k ≠ 0) (y z : Int) (hy : y = (k : Nat)) (hz : z = (n : Nat)) :
    Calls Tryz.prog 65 #[.string s, .int .i64 y, .int .i64 z] w fun e w' => e = .returned (.bool true) ∧ Below w.heap.size w w' := by
  have HK := Lib.hid (tokens_bad s w k n hs hT hk h0)
  subst hy hz
  clear hs hT hk h0
  go_enter Tryz.func65, Tryz.ntmps65
  go_wp2_with fail
  refine HK.out.mono ?_
  rintro e w1 ⟨rfl, hb⟩
  have HX := Lib.hid (Blk.new w1 40 #[.int .i64 k, .int .i64 n])
  have Hbel := Lib.hid (hb.alloc hb.size (.cells #[.int .i64 k, .int .i64 n] 40))
  obtain ⟨x0, x1⟩ := Blk.c2 HX.out
  clear hb HK
  go_wp2_with fail
  go_ret
  exact ⟨rfl, Hbel.out⟩

/-- a token told, its cells in full -/
def RetTkE (kd z : Int) (s : ByteArray) (q : Rat) (w : World) (e : Ending) (w' : World) : Prop :=
  ∃ r : RV, e = .returned (.agg #[.int .u8 kd, .string s, .bool r.num.neg, .slice r.num.A r.num.k r.num.c, .bool r.den.neg, .slice r.den.A r.den.k r.den.c, .int .i64 z]) ∧ Rests w' (w.heap.size ≤ ·) (RatN r q) ∧ Below w.heap.size w w'
theorem RetTk.full {k : Tk} {w w' : World} {e : Ending} (h : RetTk k w e w') (kd z : Int) (s : ByteArray) (q : Rat) (h1 : kd = (k.kind : Nat)) (h2 : z = (k.line : Nat)) (h3 : s = ⟨k.s.toArray⟩) (h4 : q = k.x) : RetTkE kd z s q w e w' := by
  obtain ⟨r, he, hr, hb⟩ := h
  subst h1 h2 h3 h4
  exact ⟨r, he, hr, hb⟩
theorem tword_e (s : ByteArray) (n : Nat) (z : Int) (hz : z = (n : Nat)) (w : World) : Calls Tryz.prog 61 #[.string s, .int .i64 z] w (RetTkE 2 z s 0 w) := (tword_mk s n z hz w).mono fun _ _ h => h.full 2 z s 0 rfl hz rfl rfl
theorem tsign_e (s : ByteArray) (n : Nat) (z : Int) (hz : z = (n : Nat)) (w : World) : Calls Tryz.prog 63 #[.string s, .int .i64 z] w (RetTkE 4 z s 0 w) := (tsign_mk s n z hz w).mono fun _ _ h => h.full 4 z s 0 rfl hz rfl rfl
theorem tend_e (n : Nat) (z : Int) (hz : z = (n : Nat)) (w : World) : Calls Tryz.prog 64 #[.int .i64 z] w (RetTkE 1 z ⟨#[]⟩ 0 w) := (tend_mk n z hz w).mono fun _ _ h => h.full 1 z ⟨#[]⟩ 0 rfl hz rfl rfl
theorem tnum_e (x y : Int) (n : Nat) (z : Int) (hz : z = (n : Nat)) (w : World) (h1 : -9223372036854775808 ≤ x) (h2 : x ≤ 9223372036854775807) (h3 : -9223372036854775808 ≤ y) (h4 : y ≤ 9223372036854775807) (hT : Tz w) : Calls Tryz.prog 62 #[.int .i64 x, .int .i64 y, .int .i64 z] w (RetTkE 3 z ⟨#[]⟩ (Rat.divInt x y) w) := (tnum_mk x y n z hz w h1 h2 h3 h4 hT).mono fun _ _ h => h.full 3 z ⟨#[]⟩ (Rat.divInt x y) rfl hz rfl rfl
end Go.Proofs.YtcinoicpibleoaaGreatDoor
namespace Go.Proofs.YtcinoicpibleoaaGreatDoor
open Go.RowKit

/-- elements that lie in one block -/
theorem El.of_blk {w : World} {g : Nat} {t : TypeId} {cur : Array Value} {sz : Nat} {cs : List (Array Value)} (hb : Blk w g t cur) (hs : ∀ c ∈ cs, c.size = sz) (hc : cur.toList = flatC cs) : El w sz (some ⟨g, 0, none⟩) cs := by
  refine ⟨Sl.some_ _ _ _, fun i hi => hs _ (List.getElem_mem hi), fun i hi j hj => ?_⟩
  rw [adr_some, Nat.zero_add, hb.cell, ← flatC_get hs i j hi hj, ← hc, Array.getElem?_toList]
theorem cellsT_size (ps : List (Tk × RV)) : ∀ c ∈ cellsT ps, c.size = 7 := by
  intro c hc
  obtain ⟨p, _, rfl⟩ := List.mem_map.1 hc
  rfl
theorem aw_6 : tokens parseR (⟨#[110, 101, 116, 32, 50, 32, 123, 32, 35, 32, 120, 10, 45, 49, 47, 50, 32, 125]⟩ : ByteArray).data.toList = (0, 0, [⟨2, [110, 101, 116], 0, 1⟩, ⟨3, [], Rat.divInt (2) 1, 1⟩, ⟨4, [123], 0, 1⟩, ⟨3, [], Rat.divInt (-1) 2, 2⟩, ⟨4, [125], 0, 2⟩, ⟨1, [], 0, 2⟩]) := by decide +kernel
theorem aw_6_f (s0 s1 s2 s3 s4 s5 : RV) : flatC (cellsT [(⟨2, [110, 101, 116], 0, 1⟩, s0), (⟨3, [], Rat.divInt (2) 1, 1⟩, s1), (⟨4, [123], 0, 1⟩, s2), (⟨3, [], Rat.divInt (-1) 2, 2⟩, s3), (⟨4, [125], 0, 2⟩, s4), (⟨1, [], 0, 2⟩, s5)]) = (#[.int .u8 2, .string ⟨#[110, 101, 116]⟩, .bool s0.num.neg, .slice s0.num.A s0.num.k s0.num.c, .bool s0.den.neg, .slice s0.den.A s0.den.k s0.den.c, .int .i64 1, .int .u8 3, .string ⟨#[]⟩, .bool s1.num.neg, .slice s1.num.A s1.num.k s1.num.c, .bool s1.den.neg, .slice s1.den.A s1.den.k s1.den.c, .int .i64 1, .int .u8 4, .string ⟨#[123]⟩, .bool s2.num.neg, .slice s2.num.A s2.num.k s2.num.c, .bool s2.den.neg, .slice s2.den.A s2.den.k s2.den.c, .int .i64 1, .int .u8 3, .string ⟨#[]⟩, .bool s3.num.neg, .slice s3.num.A s3.num.k s3.num.c, .bool s3.den.neg, .slice s3.den.A s3.den.k s3.den.c, .int .i64 2, .int .u8 4, .string ⟨#[125]⟩, .bool s4.num.neg, .slice s4.num.A s4.num.k s4.num.c, .bool s4.den.neg, .slice s4.den.A s4.den.k s4.den.c, .int .i64 2, .int .u8 1, .string ⟨#[]⟩, .bool s5.num.neg, .slice s5.num.A s5.num.k s5.num.c, .bool s5.den.neg, .slice s5.den.A s5.den.k s5.den.c, .int .i64 2] : Array Value).toList := rfl
theorem aw_8 : tokens parseR (⟨#[50, 47, 52]⟩ : ByteArray).data.toList = (0, 0, [⟨3, [], Rat.divInt (1) 2, 1⟩, ⟨1, [], 0, 1⟩]) := by decide +kernel
theorem aw_8_f (s0 s1 : RV) : flatC (cellsT [(⟨3, [], Rat.divInt (1) 2, 1⟩, s0), (⟨1, [], 0, 1⟩, s1)]) = (#[.int .u8 3, .string ⟨#[]⟩, .bool s0.num.neg, .slice s0.num.A s0.num.k s0.num.c, .bool s0.den.neg, .slice s0.den.A s0.den.k s0.den.c, .int .i64 1, .int .u8 1, .string ⟨#[]⟩, .bool s1.num.neg, .slice s1.num.A s1.num.k s1.num.c, .bool s1.den.neg, .slice s1.den.A s1.den.k s1.den.c, .int .i64 1] : Array Value).toList := rfl
theorem wr_9 : tokens parseR (⟨#[49, 45, 50]⟩ : ByteArray).data.toList = (20, 1, []) := by decide +kernel
theorem wr_10 : tokens parseR (⟨#[49, 47, 48]⟩ : ByteArray).data.toList = (10, 1, []) := by decide +kernel

set_option maxRecDepth 100000 in
set_option maxHeartbeats 4000000 in
theorem awake_tok (w : World) (hT : Tz w) : Calls Tryz.prog 11 #[] w fun e w' => e = .returned (.bool true) ∧ Below w.heap.size w w' := by
  have HT := Lib.hid hT
  have Hbel := Lib.hid (Below.refl w.heap.size w)
  clear hT
  go_enter Tryz.func11, Tryz.ntmps11
  go_wp2_with fail
  refine (tword_e ⟨#[110, 101, 116]⟩ 1 1 rfl _).mono ?_
  rintro e w1 ⟨r1, rfl, hr, hb⟩
  have Hr1 := Lib.hid hr
  replace Hbel := Lib.hid (Below.after Hbel.out hb)
  clear hr hb
  go_wp2_with fail
  refine (tnum_e (2) 1 1 1 rfl _ (by decide) (by decide) (by decide) (by decide) (tz_after HT.out Hbel.out)).mono ?_
  rintro e w2 ⟨r2, rfl, hr, hb⟩
  replace Hr1 := Lib.hid (Hr1.out.below hb)
  have Hr2 := Lib.hid hr
  replace Hbel := Lib.hid (Below.after Hbel.out hb)
  clear hr hb
  go_wp2_with fail
  refine (tsign_e ⟨#[123]⟩ 1 1 rfl _).mono ?_
  rintro e w3 ⟨r3, rfl, hr, hb⟩
  replace Hr1 := Lib.hid (Hr1.out.below hb)
  replace Hr2 := Lib.hid (Hr2.out.below hb)
  have Hr3 := Lib.hid hr
  replace Hbel := Lib.hid (Below.after Hbel.out hb)
  clear hr hb
  go_wp2_with fail
  refine (tnum_e (-1) 2 2 2 rfl _ (by decide) (by decide) (by decide) (by decide) (tz_after HT.out Hbel.out)).mono ?_
  rintro e w4 ⟨r4, rfl, hr, hb⟩
  replace Hr1 := Lib.hid (Hr1.out.below hb)
  replace Hr2 := Lib.hid (Hr2.out.below hb)
  replace Hr3 := Lib.hid (Hr3.out.below hb)
  have Hr4 := Lib.hid hr
  replace Hbel := Lib.hid (Below.after Hbel.out hb)
  clear hr hb
  go_wp2_with fail
  refine (tsign_e ⟨#[125]⟩ 2 2 rfl _).mono ?_
  rintro e w5 ⟨r5, rfl, hr, hb⟩
  replace Hr1 := Lib.hid (Hr1.out.below hb)
  replace Hr2 := Lib.hid (Hr2.out.below hb)
  replace Hr3 := Lib.hid (Hr3.out.below hb)
  replace Hr4 := Lib.hid (Hr4.out.below hb)
  have Hr5 := Lib.hid hr
  replace Hbel := Lib.hid (Below.after Hbel.out hb)
  clear hr hb
  go_wp2_with fail
  refine (tend_e 2 2 rfl _).mono ?_
  rintro e w6 ⟨r6, rfl, hr, hb⟩
  replace Hr1 := Lib.hid (Hr1.out.below hb)
  replace Hr2 := Lib.hid (Hr2.out.below hb)
  replace Hr3 := Lib.hid (Hr3.out.below hb)
  replace Hr4 := Lib.hid (Hr4.out.below hb)
  replace Hr5 := Lib.hid (Hr5.out.below hb)
  have Hr6 := Lib.hid hr
  replace Hbel := Lib.hid (Below.after Hbel.out hb)
  clear hr hb
  go_wp2_with fail
  have HP : Hid (TokR (w6.alloc (.cells #[.int .u8 2, .string ⟨#[110, 101, 116]⟩, .bool r1.num.neg, .slice r1.num.A r1.num.k r1.num.c, .bool r1.den.neg, .slice r1.den.A r1.den.k r1.den.c, .int .i64 1, .int .u8 3, .string ⟨#[]⟩, .bool r2.num.neg, .slice r2.num.A r2.num.k r2.num.c, .bool r2.den.neg, .slice r2.den.A r2.den.k r2.den.c, .int .i64 1, .int .u8 4, .string ⟨#[123]⟩, .bool r3.num.neg, .slice r3.num.A r3.num.k r3.num.c, .bool r3.den.neg, .slice r3.den.A r3.den.k r3.den.c, .int .i64 1, .int .u8 3, .string ⟨#[]⟩, .bool r4.num.neg, .slice r4.num.A r4.num.k r4.num.c, .bool r4.den.neg, .slice r4.den.A r4.den.k r4.den.c, .int .i64 2, .int .u8 4, .string ⟨#[125]⟩, .bool r5.num.neg, .slice r5.num.A r5.num.k r5.num.c, .bool r5.den.neg, .slice r5.den.A r5.den.k r5.den.c, .int .i64 2, .int .u8 1, .string ⟨#[]⟩, .bool r6.num.neg, .slice r6.num.A r6.num.k r6.num.c, .bool r6.den.neg, .slice r6.den.A r6.den.k r6.den.c, .int .i64 2] 33)) (some ⟨w6.heap.size, 0, none⟩) [(⟨2, [110, 101, 116], 0, 1⟩, r1), (⟨3, [], Rat.divInt (2) 1, 1⟩, r2), (⟨4, [123], 0, 1⟩, r3), (⟨3, [], Rat.divInt (-1) 2, 2⟩, r4), (⟨4, [125], 0, 2⟩, r5), (⟨1, [], 0, 2⟩, r6)]) := Lib.hid ⟨El.of_blk (Blk.new w6 33 #[.int .u8 2, .string ⟨#[110, 101, 116]⟩, .bool r1.num.neg, .slice r1.num.A r1.num.k r1.num.c, .bool r1.den.neg, .slice r1.den.A r1.den.k r1.den.c, .int .i64 1, .int .u8 3, .string ⟨#[]⟩, .bool r2.num.neg, .slice r2.num.A r2.num.k r2.num.c, .bool r2.den.neg, .slice r2.den.A r2.den.k r2.den.c, .int .i64 1, .int .u8 4, .string ⟨#[123]⟩, .bool r3.num.neg, .slice r3.num.A r3.num.k r3.num.c, .bool r3.den.neg, .slice r3.den.A r3.den.k r3.den.c, .int .i64 1, .int .u8 3, .string ⟨#[]⟩, .bool r4.num.neg, .slice r4.num.A r4.num.k r4.num.c, .bool r4.den.neg, .slice r4.den.A r4.den.k r4.den.c, .int .i64 2, .int .u8 4, .string ⟨#[125]⟩, .bool r5.num.neg, .slice r5.num.A r5.num.k r5.num.c, .bool r5.den.neg, .slice r5.den.A r5.den.k r5.den.c, .int .i64 2, .int .u8 1, .string ⟨#[]⟩, .bool r6.num.neg, .slice r6.num.A r6.num.k r6.num.c, .bool r6.den.neg, .slice r6.den.A r6.den.k r6.den.c, .int .i64 2]) (cellsT_size _) (aw_6_f r1 r2 r3 r4 r5 r6).symm, by
    intro p hp
    simp only [List.mem_cons, List.not_mem_nil, or_false] at hp
    rcases hp with rfl | rfl | rfl | rfl | rfl | rfl
    · exact (Hr1.out.alloc (.cells #[.int .u8 2, .string ⟨#[110, 101, 116]⟩, .bool r1.num.neg, .slice r1.num.A r1.num.k r1.num.c, .bool r1.den.neg, .slice r1.den.A r1.den.k r1.den.c, .int .i64 1, .int .u8 3, .string ⟨#[]⟩, .bool r2.num.neg, .slice r2.num.A r2.num.k r2.num.c, .bool r2.den.neg, .slice r2.den.A r2.den.k r2.den.c, .int .i64 1, .int .u8 4, .string ⟨#[123]⟩, .bool r3.num.neg, .slice r3.num.A r3.num.k r3.num.c, .bool r3.den.neg, .slice r3.den.A r3.den.k r3.den.c, .int .i64 1, .int .u8 3, .string ⟨#[]⟩, .bool r4.num.neg, .slice r4.num.A r4.num.k r4.num.c, .bool r4.den.neg, .slice r4.den.A r4.den.k r4.den.c, .int .i64 2, .int .u8 4, .string ⟨#[125]⟩, .bool r5.num.neg, .slice r5.num.A r5.num.k r5.num.c, .bool r5.den.neg, .slice r5.den.A r5.den.k r5.den.c, .int .i64 2, .int .u8 1, .string ⟨#[]⟩, .bool r6.num.neg, .slice r6.num.A r6.num.k r6.num.c, .bool r6.den.neg, .slice r6.den.A r6.den.k r6.den.c, .int .i64 2] 33)).now
    · exact (Hr2.out.alloc (.cells #[.int .u8 2, .string ⟨#[110, 101, 116]⟩, .bool r1.num.neg, .slice r1.num.A r1.num.k r1.num.c, .bool r1.den.neg, .slice r1.den.A r1.den.k r1.den.c, .int .i64 1, .int .u8 3, .string ⟨#[]⟩, .bool r2.num.neg, .slice r2.num.A r2.num.k r2.num.c, .bool r2.den.neg, .slice r2.den.A r2.den.k r2.den.c, .int .i64 1, .int .u8 4, .string ⟨#[123]⟩, .bool r3.num.neg, .slice r3.num.A r3.num.k r3.num.c, .bool r3.den.neg, .slice r3.den.A r3.den.k r3.den.c, .int .i64 1, .int .u8 3, .string ⟨#[]⟩, .bool r4.num.neg, .slice r4.num.A r4.num.k r4.num.c, .bool r4.den.neg, .slice r4.den.A r4.den.k r4.den.c, .int .i64 2, .int .u8 4, .string ⟨#[125]⟩, .bool r5.num.neg, .slice r5.num.A r5.num.k r5.num.c, .bool r5.den.neg, .slice r5.den.A r5.den.k r5.den.c, .int .i64 2, .int .u8 1, .string ⟨#[]⟩, .bool r6.num.neg, .slice r6.num.A r6.num.k r6.num.c, .bool r6.den.neg, .slice r6.den.A r6.den.k r6.den.c, .int .i64 2] 33)).now
    · exact (Hr3.out.alloc (.cells #[.int .u8 2, .string ⟨#[110, 101, 116]⟩, .bool r1.num.neg, .slice r1.num.A r1.num.k r1.num.c, .bool r1.den.neg, .slice r1.den.A r1.den.k r1.den.c, .int .i64 1, .int .u8 3, .string ⟨#[]⟩, .bool r2.num.neg, .slice r2.num.A r2.num.k r2.num.c, .bool r2.den.neg, .slice r2.den.A r2.den.k r2.den.c, .int .i64 1, .int .u8 4, .string ⟨#[123]⟩, .bool r3.num.neg, .slice r3.num.A r3.num.k r3.num.c, .bool r3.den.neg, .slice r3.den.A r3.den.k r3.den.c, .int .i64 1, .int .u8 3, .string ⟨#[]⟩, .bool r4.num.neg, .slice r4.num.A r4.num.k r4.num.c, .bool r4.den.neg, .slice r4.den.A r4.den.k r4.den.c, .int .i64 2, .int .u8 4, .string ⟨#[125]⟩, .bool r5.num.neg, .slice r5.num.A r5.num.k r5.num.c, .bool r5.den.neg, .slice r5.den.A r5.den.k r5.den.c, .int .i64 2, .int .u8 1, .string ⟨#[]⟩, .bool r6.num.neg, .slice r6.num.A r6.num.k r6.num.c, .bool r6.den.neg, .slice r6.den.A r6.den.k r6.den.c, .int .i64 2] 33)).now
    · exact (Hr4.out.alloc (.cells #[.int .u8 2, .string ⟨#[110, 101, 116]⟩, .bool r1.num.neg, .slice r1.num.A r1.num.k r1.num.c, .bool r1.den.neg, .slice r1.den.A r1.den.k r1.den.c, .int .i64 1, .int .u8 3, .string ⟨#[]⟩, .bool r2.num.neg, .slice r2.num.A r2.num.k r2.num.c, .bool r2.den.neg, .slice r2.den.A r2.den.k r2.den.c, .int .i64 1, .int .u8 4, .string ⟨#[123]⟩, .bool r3.num.neg, .slice r3.num.A r3.num.k r3.num.c, .bool r3.den.neg, .slice r3.den.A r3.den.k r3.den.c, .int .i64 1, .int .u8 3, .string ⟨#[]⟩, .bool r4.num.neg, .slice r4.num.A r4.num.k r4.num.c, .bool r4.den.neg, .slice r4.den.A r4.den.k r4.den.c, .int .i64 2, .int .u8 4, .string ⟨#[125]⟩, .bool r5.num.neg, .slice r5.num.A r5.num.k r5.num.c, .bool r5.den.neg, .slice r5.den.A r5.den.k r5.den.c, .int .i64 2, .int .u8 1, .string ⟨#[]⟩, .bool r6.num.neg, .slice r6.num.A r6.num.k r6.num.c, .bool r6.den.neg, .slice r6.den.A r6.den.k r6.den.c, .int .i64 2] 33)).now
    · exact (Hr5.out.alloc (.cells #[.int .u8 2, .string ⟨#[110, 101, 116]⟩, .bool r1.num.neg, .slice r1.num.A r1.num.k r1.num.c, .bool r1.den.neg, .slice r1.den.A r1.den.k r1.den.c, .int .i64 1, .int .u8 3, .string ⟨#[]⟩, .bool r2.num.neg, .slice r2.num.A r2.num.k r2.num.c, .bool r2.den.neg, .slice r2.den.A r2.den.k r2.den.c, .int .i64 1, .int .u8 4, .string ⟨#[123]⟩, .bool r3.num.neg, .slice r3.num.A r3.num.k r3.num.c, .bool r3.den.neg, .slice r3.den.A r3.den.k r3.den.c, .int .i64 1, .int .u8 3, .string ⟨#[]⟩, .bool r4.num.neg, .slice r4.num.A r4.num.k r4.num.c, .bool r4.den.neg, .slice r4.den.A r4.den.k r4.den.c, .int .i64 2, .int .u8 4, .string ⟨#[125]⟩, .bool r5.num.neg, .slice r5.num.A r5.num.k r5.num.c, .bool r5.den.neg, .slice r5.den.A r5.den.k r5.den.c, .int .i64 2, .int .u8 1, .string ⟨#[]⟩, .bool r6.num.neg, .slice r6.num.A r6.num.k r6.num.c, .bool r6.den.neg, .slice r6.den.A r6.den.k r6.den.c, .int .i64 2] 33)).now
    · exact (Hr6.out.alloc (.cells #[.int .u8 2, .string ⟨#[110, 101, 116]⟩, .bool r1.num.neg, .slice r1.num.A r1.num.k r1.num.c, .bool r1.den.neg, .slice r1.den.A r1.den.k r1.den.c, .int .i64 1, .int .u8 3, .string ⟨#[]⟩, .bool r2.num.neg, .slice r2.num.A r2.num.k r2.num.c, .bool r2.den.neg, .slice r2.den.A r2.den.k r2.den.c, .int .i64 1, .int .u8 4, .string ⟨#[123]⟩, .bool r3.num.neg, .slice r3.num.A r3.num.k r3.num.c, .bool r3.den.neg, .slice r3.den.A r3.den.k r3.den.c, .int .i64 1, .int .u8 3, .string ⟨#[]⟩, .bool r4.num.neg, .slice r4.num.A r4.num.k r4.num.c, .bool r4.den.neg, .slice r4.den.A r4.den.k r4.den.c, .int .i64 2, .int .u8 4, .string ⟨#[125]⟩, .bool r5.num.neg, .slice r5.num.A r5.num.k r5.num.c, .bool r5.den.neg, .slice r5.den.A r5.den.k r5.den.c, .int .i64 2, .int .u8 1, .string ⟨#[]⟩, .bool r6.num.neg, .slice r6.num.A r6.num.k r6.num.c, .bool r6.den.neg, .slice r6.den.A r6.den.k r6.den.c, .int .i64 2] 33)).now⟩
  replace Hbel := Lib.hid (Hbel.out.alloc Hbel.out.size (.cells #[.int .u8 2, .string ⟨#[110, 101, 116]⟩, .bool r1.num.neg, .slice r1.num.A r1.num.k r1.num.c, .bool r1.den.neg, .slice r1.den.A r1.den.k r1.den.c, .int .i64 1, .int .u8 3, .string ⟨#[]⟩, .bool r2.num.neg, .slice r2.num.A r2.num.k r2.num.c, .bool r2.den.neg, .slice r2.den.A r2.den.k r2.den.c, .int .i64 1, .int .u8 4, .string ⟨#[123]⟩, .bool r3.num.neg, .slice r3.num.A r3.num.k r3.num.c, .bool r3.den.neg, .slice r3.den.A r3.den.k r3.den.c, .int .i64 1, .int .u8 3, .string ⟨#[]⟩, .bool r4.num.neg, .slice r4.num.A r4.num.k r4.num.c, .bool r4.den.neg, .slice r4.den.A r4.den.k r4.den.c, .int .i64 2, .int .u8 4, .string ⟨#[125]⟩, .bool r5.num.neg, .slice r5.num.A r5.num.k r5.num.c, .bool r5.den.neg, .slice r5.den.A r5.den.k r5.den.c, .int .i64 2, .int .u8 1, .string ⟨#[]⟩, .bool r6.num.neg, .slice r6.num.A r6.num.k r6.num.c, .bool r6.den.neg, .slice r6.den.A r6.den.k r6.den.c, .int .i64 2] 33))
  clear Hr1 Hr2 Hr3 Hr4 Hr5 Hr6
  refine (tis_any _ ⟨#[110, 101, 116, 32, 50, 32, 123, 32, 35, 32, 120, 10, 45, 49, 47, 50, 32, 125]⟩ _ _ _ [(⟨2, [110, 101, 116], 0, 1⟩, r1), (⟨3, [], Rat.divInt (2) 1, 1⟩, r2), (⟨4, [123], 0, 1⟩, r3), (⟨3, [], Rat.divInt (-1) 2, 2⟩, r4), (⟨4, [125], 0, 2⟩, r5), (⟨1, [], 0, 2⟩, r6)] (by decide +kernel) (tz_after HT.out Hbel.out) HP.out rfl aw_6).mono ?_
  rintro e v6 ⟨rfl, hb⟩
  replace Hbel := Lib.hid (Below.after Hbel.out hb)
  clear hb HP
  go_wp2_with fail
  refine (tnum_e (1) 2 1 1 rfl _ (by decide) (by decide) (by decide) (by decide) (tz_after HT.out Hbel.out)).mono ?_
  rintro e w7 ⟨r7, rfl, hr, hb⟩
  have Hr7 := Lib.hid hr
  replace Hbel := Lib.hid (Below.after Hbel.out hb)
  clear hr hb
  go_wp2_with fail
  refine (tend_e 1 1 rfl _).mono ?_
  rintro e w8 ⟨r8, rfl, hr, hb⟩
  replace Hr7 := Lib.hid (Hr7.out.below hb)
  have Hr8 := Lib.hid hr
  replace Hbel := Lib.hid (Below.after Hbel.out hb)
  clear hr hb
  go_wp2_with fail
  have HP : Hid (TokR (w8.alloc (.cells #[.int .u8 3, .string ⟨#[]⟩, .bool r7.num.neg, .slice r7.num.A r7.num.k r7.num.c, .bool r7.den.neg, .slice r7.den.A r7.den.k r7.den.c, .int .i64 1, .int .u8 1, .string ⟨#[]⟩, .bool r8.num.neg, .slice r8.num.A r8.num.k r8.num.c, .bool r8.den.neg, .slice r8.den.A r8.den.k r8.den.c, .int .i64 1] 33)) (some ⟨w8.heap.size, 0, none⟩) [(⟨3, [], Rat.divInt (1) 2, 1⟩, r7), (⟨1, [], 0, 1⟩, r8)]) := Lib.hid ⟨El.of_blk (Blk.new w8 33 #[.int .u8 3, .string ⟨#[]⟩, .bool r7.num.neg, .slice r7.num.A r7.num.k r7.num.c, .bool r7.den.neg, .slice r7.den.A r7.den.k r7.den.c, .int .i64 1, .int .u8 1, .string ⟨#[]⟩, .bool r8.num.neg, .slice r8.num.A r8.num.k r8.num.c, .bool r8.den.neg, .slice r8.den.A r8.den.k r8.den.c, .int .i64 1]) (cellsT_size _) (aw_8_f r7 r8).symm, by
    intro p hp
    simp only [List.mem_cons, List.not_mem_nil, or_false] at hp
    rcases hp with rfl | rfl
    · exact (Hr7.out.alloc (.cells #[.int .u8 3, .string ⟨#[]⟩, .bool r7.num.neg, .slice r7.num.A r7.num.k r7.num.c, .bool r7.den.neg, .slice r7.den.A r7.den.k r7.den.c, .int .i64 1, .int .u8 1, .string ⟨#[]⟩, .bool r8.num.neg, .slice r8.num.A r8.num.k r8.num.c, .bool r8.den.neg, .slice r8.den.A r8.den.k r8.den.c, .int .i64 1] 33)).now
    · exact (Hr8.out.alloc (.cells #[.int .u8 3, .string ⟨#[]⟩, .bool r7.num.neg, .slice r7.num.A r7.num.k r7.num.c, .bool r7.den.neg, .slice r7.den.A r7.den.k r7.den.c, .int .i64 1, .int .u8 1, .string ⟨#[]⟩, .bool r8.num.neg, .slice r8.num.A r8.num.k r8.num.c, .bool r8.den.neg, .slice r8.den.A r8.den.k r8.den.c, .int .i64 1] 33)).now⟩
  replace Hbel := Lib.hid (Hbel.out.alloc Hbel.out.size (.cells #[.int .u8 3, .string ⟨#[]⟩, .bool r7.num.neg, .slice r7.num.A r7.num.k r7.num.c, .bool r7.den.neg, .slice r7.den.A r7.den.k r7.den.c, .int .i64 1, .int .u8 1, .string ⟨#[]⟩, .bool r8.num.neg, .slice r8.num.A r8.num.k r8.num.c, .bool r8.den.neg, .slice r8.den.A r8.den.k r8.den.c, .int .i64 1] 33))
  clear Hr7 Hr8
  refine (tis_any _ ⟨#[50, 47, 52]⟩ _ _ _ [(⟨3, [], Rat.divInt (1) 2, 1⟩, r7), (⟨1, [], 0, 1⟩, r8)] (by decide +kernel) (tz_after HT.out Hbel.out) HP.out rfl aw_8).mono ?_
  rintro e v8 ⟨rfl, hb⟩
  replace Hbel := Lib.hid (Below.after Hbel.out hb)
  clear hb HP
  go_wp2_with fail
  refine (twrong_any _ ⟨#[49, 45, 50]⟩ 20 1 (by decide +kernel) (tz_after HT.out Hbel.out) wr_9 (by decide) 20 1 rfl rfl).mono ?_
  rintro e w9 ⟨rfl, hb⟩
  replace Hbel := Lib.hid (Below.after Hbel.out hb)
  clear hb
  go_wp2_with fail
  refine (twrong_any _ ⟨#[49, 47, 48]⟩ 10 1 (by decide +kernel) (tz_after HT.out Hbel.out) wr_10 (by decide) 10 1 rfl rfl).mono ?_
  rintro e w10 ⟨rfl, hb⟩
  replace Hbel := Lib.hid (Below.after Hbel.out hb)
  clear hb
  go_wp2_with fail
  go_ret
  exact ⟨rfl, Hbel.out⟩
end Go.Proofs.YtcinoicpibleoaaGreatDoor
