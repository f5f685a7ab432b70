/-
  tripwireref09: letter, part, Tokens.
-/
import Derived.Test.YtbdgeinfijamcaaGreatDoorRef8
import Derived.Test.YtbdgeinfijamcaaGreatDoorTT
namespace Go.Proofs.YtbdgeinfijamcaaGreatDoor
open Go.RowKit

/-- in the middle of the reference's Tokens: at a byte, in a remark or not -/
structure TtJ (s : ByteArray) (T : Nat × Nat × List Tk) (k m : Nat) (r : Bool) (ps : List (Tk × RV)) : Prop where
  le : k ≤ s.size
  ln : m ≤ 1 + k
  ct : ps.length ≤ k
  eq : T = glue (ps.map Prod.fst) (toks parseR (s.size + 1) (skipG r (s.data.toList.drop k) m).1 (skipG r (s.data.toList.drop k) m).2)
theorem TtJ.start (s : ByteArray) : TtJ s (toks parseR (s.size + 1) s.data.toList 1) 0 1 false [] := by
  refine ⟨Nat.zero_le _, Nat.le_refl _, Nat.le_refl _, ?_⟩
  rw [List.drop_zero]
  have e : toks parseR (s.size + 1) (skipG false s.data.toList 1).1 (skipG false s.data.toList 1).2 = toks parseR (s.size + 1) s.data.toList 1 := toks_skip (by rw [skip_idem])
  rw [e]
  have hz := toks_zero (P := parseR) (s.size + 1) s.data.toList 1
  generalize toks parseR (s.size + 1) s.data.toList 1 = T at *
  unfold glue
  obtain ⟨a, b, c⟩ := T
  simp only at hz
  split
  · rename_i h0
    simp at h0
    simp [h0, hz h0]
  · rfl
theorem TtJ.line {s : ByteArray} {T : Nat × Nat × List Tk} {k m : Nat} {r : Bool} {ps : List (Tk × RV)} (h : TtJ s T k m r ps) (hk : k < s.size) (hb : s[k] = 10) : TtJ s T (k + 1) (m + 1) false ps := by
  have e : skipG r (s.data.toList.drop k) m = skipG false (s.data.toList.drop (k + 1)) (m + 1) := by
    rw [drop_at hk]; conv => lhs; unfold skipG
    rw [if_pos hb]
  have := h.ln; have := h.ct
  exact ⟨by omega, by omega, by omega, by rw [← e]; exact h.eq⟩
theorem TtJ.blank {s : ByteArray} {T : Nat × Nat × List Tk} {k m : Nat} {r : Bool} {ps : List (Tk × RV)} (h : TtJ s T k m r ps) (hk : k < s.size) (hb : s[k] ≠ 10) (hq : (r || isBlank s[k] || s[k] == 35) = true) : TtJ s T (k + 1) m (r || s[k] == 35) ps := by
  have e : skipG r (s.data.toList.drop k) m = skipG (r || s[k] == 35) (s.data.toList.drop (k + 1)) m := by
    rw [drop_at hk]; conv => lhs; unfold skipG
    rw [if_neg hb, if_pos hq]
  have := h.ln; have := h.ct
  exact ⟨by omega, by omega, by omega, by rw [← e]; exact h.eq⟩
theorem TtJ.toI {s : ByteArray} {T : Nat × Nat × List Tk} {k m : Nat} {r : Bool} {ps : List (Tk × RV)} (h : TtJ s T k m r ps) (hk : k < s.size) (hb : s[k] ≠ 10) (hq : (r || isBlank s[k] || s[k] == 35) = false) : TtI s T k m ps := by
  have hr : r = false := by revert hq; cases r <;> simp
  subst hr
  have e : skipG false (s.data.toList.drop k) m = (s.data.toList.drop k, m) := by
    rw [drop_at hk]; conv => lhs; unfold skipG
    rw [if_neg hb, if_neg (by rw [hq]; decide)]
  refine ⟨e, h.le, h.ln, h.ct, ?_⟩
  rw [h.eq, e, toks_fuel (s.size + 1 - k) (s.size + 1) _ _ (by simp; omega) (by simp; omega)]
theorem TtJ.next {s : ByteArray} {T : Nat × Nat × List Tk} {k m en : Nat} {ps : List (Tk × RV)} {r : RV} (h : TtI s T k m ps) (hk : k < s.size) (he : (tokAt s k hk).1 = 0) (hd : (tokAt s k hk).2.2 = s.data.toList.drop en) (hgt : k < en) (hle : en ≤ s.size) :
    TtJ s T en m false (ps ++ [(⟨(tokAt s k hk).2.1.kind, (tokAt s k hk).2.1.s, (tokAt s k hk).2.1.x, m⟩, r)]) := by
  have hl := h.ln; have hc := h.ct
  refine ⟨hle, by omega, by simp; omega, ?_⟩
  rw [h.tok hk, if_pos he, hd, upT_at (tok_line0 s k hk)]
  have e : toks parseR (s.size + 1) (skipG false (s.data.toList.drop en) m).1 (skipG false (s.data.toList.drop en) m).2 = toks parseR (s.size - k) (s.data.toList.drop en) m := by
    have h1 := skip_len false (s.data.toList.drop en) m
    have h2 : (s.data.toList.drop en).length = s.size - en := by simp
    rw [toks_fuel (s.size + 1) (s.size - k) _ _ (by omega) (by omega)]
    exact toks_skip (by rw [skip_idem])
  rw [e]
  generalize toks parseR (s.size - k) (s.data.toList.drop en) m = R
  unfold glue cons1
  by_cases h0 : R.1 = 0 <;> simp [h0]
theorem TtJ.done {s : ByteArray} {T : Nat × Nat × List Tk} {k m : Nat} {r : Bool} {ps : List (Tk × RV)} (h : TtJ s T k m r ps) (hk : ¬ k < s.size) : T = (0, 0, ps.map Prod.fst ++ [⟨1, [], 0, m⟩]) := by
  rw [h.eq, List.drop_eq_nil_of_le (by simp; omega)]
  cases r <;> rfl
theorem Tt.app2 {w W : World} {v : Value} {ps : List (Tk × RV)} (h : Tt w W v ps) (kd m : Nat) (x : ByteArray) (q : Rat) (r : RV) (hr : Rests W (fun b => w.heap.size + 1 ≤ b ∧ some b ≠ v.ownBlock) (RatN r q)) (hl : ps.length + 1 ≤ 1000000) :
    ∃ v' w', (Builtin.append_ #[23, 23] 23 #[v, .slice (some ⟨W.heap.size, 0, none⟩) 1 1]).run Tryz.prog (W.alloc (.cells #[.int .u8 (kd : Int), .string x, .bool r.num.neg, .slice r.num.A r.num.k r.num.c, .bool r.den.neg, .slice r.den.A r.den.k r.den.c, .int .i64 (m : Nat)] 44)) = .ok v' w' ∧ Tt w w' v' (ps ++ [(⟨kd, x.data.toList, q, m⟩, r)]) := h.app ⟨kd, x.data.toList, q, m⟩ r hr hl

set_option maxRecDepth 100000 in
set_option maxHeartbeats 2000000 in
theorem rletter_any (b : UInt8) (w : World) :
    Calls Tryz.prog 65 #[.int .u8 (b.toNat : Int)] w fun e w' => e = .returned (.bool (isLet b)) ∧ Below w.heap.size w w' := by
  rw [let_nat]
  generalize b.toNat = n
  by_cases h1 : 97 ≤ n
  · have t3 : (97 : Int) ≤ (n : Int) := by omega
    by_cases h2 : n ≤ 122
    · have t4 : (n : Int) ≤ (122 : Int) := by omega
      rw [decide_eq_true h1, decide_eq_true h2]
      clear h1 h2
      go_enter Tryz.func65, Tryz.ntmps65
      go_wp2_with fail
      go_ret
      exact ⟨rfl, Below.refl _ _⟩
    · have t4 : ¬ (n : Int) ≤ (122 : Int) := by omega
      rw [decide_eq_true h1, decide_eq_false h2]
      clear h1 h2
      go_enter Tryz.func65, Tryz.ntmps65
      go_wp2_with fail
      go_ret
      exact ⟨rfl, Below.refl _ _⟩
  · have t3 : ¬ (97 : Int) ≤ (n : Int) := by omega
    rw [decide_eq_false h1]
    clear h1
    go_enter Tryz.func65, Tryz.ntmps65
    go_wp2_with fail
    go_ret
    exact ⟨rfl, Below.refl _ _⟩

theorem part_nat2 (b : UInt8) : isPart b = decide ((48 ≤ b.toNat ∧ b.toNat ≤ 57) ∨ b.toNat = 45 ∨ b.toNat = 47) := by
  rw [part_nat, Bool.eq_iff_iff]
  have e : digB b = (decide (48 ≤ b.toNat) && decide (b.toNat ≤ 57)) := rfl
  rw [e]
  simp
  omega
set_option maxRecDepth 100000 in
set_option maxHeartbeats 2000000 in
theorem rpart_any (b : UInt8) (w : World) :
    Calls Tryz.prog 66 #[.int .u8 (b.toNat : Int)] w fun e w' => e = .returned (.bool (isPart b)) ∧ Below w.heap.size w w' := by
  rw [part_nat2]
  generalize b.toNat = n
  by_cases h1 : 48 ≤ n ∧ n ≤ 57
  · rw [decide_eq_true (.inl h1)]
    have t3 : (48 : Int) ≤ (n : Int) := by omega
    have t4 : (n : Int) ≤ 57 := by omega
    clear h1
    go_enter Tryz.func66, Tryz.ntmps66
    go_wp2_with fail
    go_ret
    exact ⟨rfl, Below.refl _ _⟩
  · by_cases h2 : n = 45
    · subst h2
      go_enter Tryz.func66, Tryz.ntmps66
      go_wp2_with fail
      go_ret
      exact ⟨rfl, Below.refl _ _⟩
    · by_cases h3 : n = 47
      · subst h3
        go_enter Tryz.func66, Tryz.ntmps66
        go_wp2_with fail
        go_ret
        exact ⟨rfl, Below.refl _ _⟩
      · rw [decide_eq_false (by omega)]
        have t1 : ((n : Int) == 45) = false := by simp; omega
        have t2 : ((n : Int) == 47) = false := by simp; omega
        by_cases h4 : 48 ≤ n
        · have t3 : (48 : Int) ≤ (n : Int) := by omega
          have t4 : ¬ (n : Int) ≤ 57 := by omega
          clear h1 h2 h3 h4
          go_enter Tryz.func66, Tryz.ntmps66
          go_wp2_with fail
          go_ret
          exact ⟨rfl, Below.refl _ _⟩
        · have t3 : ¬ (48 : Int) ≤ (n : Int) := by omega
          clear h1 h2 h3 h4
          go_enter Tryz.func66, Tryz.ntmps66
          go_wp2_with fail
          go_ret
          exact ⟨rfl, Below.refl _ _⟩

theorem byte_of {b : UInt8} {n : UInt8} (h : b.toNat = n.toNat) : b = n := UInt8.toNat_inj.1 h
theorem TtJ.blankF {s : ByteArray} {T : Nat × Nat × List Tk} {k m : Nat} {ps : List (Tk × RV)} (h : TtJ s T k m false ps) (hk : k < s.size) (hb : s[k] = 32 ∨ s[k] = 9 ∨ s[k] = 13) : TtJ s T (k + 1) m false ps := by
  have e : (s[k] == 35) = false := by rcases hb with e | e | e <;> rw [e] <;> rfl
  have := h.blank hk (by rcases hb with e | e | e <;> rw [e] <;> decide) (by rcases hb with e | e | e <;> rw [e] <;> rfl)
  rwa [e] at this
theorem TtJ.hash {s : ByteArray} {T : Nat × Nat × List Tk} {k m : Nat} {ps : List (Tk × RV)} (h : TtJ s T k m false ps) (hk : k < s.size) (hb : s[k] = 35) : TtJ s T (k + 1) m true ps := by
  have := h.blank hk (by rw [hb]; decide) (by rw [hb]; rfl)
  rwa [show (s[k] == 35) = true by rw [hb]; rfl] at this
theorem plain_byte {b : UInt8} (h : b.toNat ≠ 10 ∧ b.toNat ≠ 32 ∧ b.toNat ≠ 9 ∧ b.toNat ≠ 13 ∧ b.toNat ≠ 35) : b ≠ 10 ∧ (false || isBlank b || b == 35) = false := by
  obtain ⟨h1, h2, h3, h4, h5⟩ := h
  have f : ∀ n : UInt8, b.toNat ≠ n.toNat → (b == n) = false := fun n hn => by rw [beq_eq_false_iff_ne]; intro e; rw [e] at hn; exact hn rfl
  refine ⟨fun e => h1 (by rw [e]; rfl), ?_⟩
  unfold isBlank
  rw [f 32 h2, f 9 h3, f 13 h4, f 35 h5]; rfl
theorem num_byte {b : UInt8} (h : isPart b = true) (hn : b.toNat ≠ 47) : (digB b || decide ((b.toNat : Int) = 45)) = true := by
  rw [part_nat] at h
  have : decide ((b.toNat : Int) = 47) = false := decide_eq_false (by omega)
  rwa [this, Bool.or_false] at h
theorem no_num {b : UInt8} (h : isPart b = false ∨ b.toNat = 47) : (digB b || decide ((b.toNat : Int) = 45)) = false := by
  rcases h with h | h
  · rw [part_nat] at h
    revert h
    cases digB b <;> cases decide ((b.toNat : Int) = 45) <;> simp
  · have : b = 47 := byte_of h
    subst this; decide
theorem sign_byte {b : UInt8} : isSign b = decide (b.toNat = 123 ∨ b.toNat = 125 ∨ b.toNat = 91 ∨ b.toNat = 93 ∨ b.toNat = 58 ∨ b.toNat = 44) := by
  have f : ∀ n : UInt8, (b == n) = decide (b.toNat = n.toNat) := fun n => by rw [Bool.eq_iff_iff]; simp [UInt8.toNat_inj]
  unfold isSign
  rw [f 123, f 125, f 91, f 93, f 58, f 44, Bool.eq_iff_iff]
  simp [or_assoc]

set_option maxRecDepth 100000 in
set_option maxHeartbeats 16000000 in
theorem rtokens_short (s : ByteArray) (w : World) (hs : s.size ≤ 262144) :
    Calls Tryz.prog 9 #[.string s] w (RetToks (toks parseR (s.size + 1) s.data.toList 1) w) := by
  have H0 := Lib.hid (Tt.start w)
  have HI0 := Lib.hid (TtJ.start s)
  have t0 : ¬ (262144 : Int) < (s.size : Int) := by omega
  generalize hTT : toks parseR (s.size + 1) s.data.toList 1 = T at *
  clear hTT
  go_enter Tryz.func9, Tryz.ntmps9
  go_wp2_with fail
  go_loopw [4, 5, 6, 7] (fun ov lv rv av wr => ∃ v k m r ps, v = ov ∧ lv = .int .i64 (m : Nat) ∧ rv = .bool r ∧ av = .int .i64 (k : Nat) ∧ k ≤ s.size ∧ m ≤ 1 + k ∧ Hid (TtJ s T k m r ps) ∧ Hid (Tt w wr v ps)) (fun _ _ _ av _ => s.size - (intOf av).toNat)
  case atStart => exact ⟨_, 0, 1, false, [], rfl, rfl, rfl, rfl, Nat.zero_le _, Nat.le_refl _, HI0, H0⟩
  case round =>
    clear HI0 H0
    obtain ⟨v, k, m, r, ps, rfl, rfl, rfl, rfl, hk, hm, hJ, hO⟩ := hrel
    by_cases hlt : k < s.size
    · by_cases h10 : s[k].toNat = 10
      · go_wp2_with fail
        go_roundw
        case rel => exact ⟨v, k + 1, m + 1, false, ps, rfl, by first | rfl | go_num, rfl, by go_num, by omega, by omega, Lib.hid (hJ.out.line hlt (byte_of h10)), hO⟩
        case measure => (simp [intOf] <;> omega)
      · have t10 : ((s[k].toNat : Int) == 10) = false := by simp; omega
        cases r
        · by_cases hq : s[k].toNat = 32 ∨ s[k].toNat = 9 ∨ s[k].toNat = 13 ∨ s[k].toNat = 35
          · rcases hq with hq | hq | hq | hq
            · go_wp2_with fail
              go_roundw
              case rel => exact ⟨v, k + 1, m, false, ps, rfl, by first | rfl | go_num, rfl, by go_num, by omega, by omega, Lib.hid (hJ.out.blankF hlt (.inl (byte_of hq))), hO⟩
              case measure => (simp [intOf] <;> omega)
            · go_wp2_with fail
              go_roundw
              case rel => exact ⟨v, k + 1, m, false, ps, rfl, by first | rfl | go_num, rfl, by go_num, by omega, by omega, Lib.hid (hJ.out.blankF hlt (.inr (.inl (byte_of hq)))), hO⟩
              case measure => (simp [intOf] <;> omega)
            · go_wp2_with fail
              go_roundw
              case rel => exact ⟨v, k + 1, m, false, ps, rfl, by first | rfl | go_num, rfl, by go_num, by omega, by omega, Lib.hid (hJ.out.blankF hlt (.inr (.inr (byte_of hq)))), hO⟩
              case measure => (simp [intOf] <;> omega)
            · go_wp2_with fail
              go_roundw
              case rel => exact ⟨v, k + 1, m, true, ps, rfl, by first | rfl | go_num, rfl, by go_num, by omega, by omega, Lib.hid (hJ.out.hash hlt (byte_of hq)), hO⟩
              case measure => (simp [intOf] <;> omega)
          · obtain ⟨q1, q2⟩ := plain_byte (b := s[k]) ⟨h10, by omega, by omega, by omega, by omega⟩
            have HI := Lib.hid (hJ.out.toI hlt q1 q2)
            have t32 : ((s[k].toNat : Int) == 32) = false := by simp; omega
            have t9 : ((s[k].toNat : Int) == 9) = false := by simp; omega
            have t13 : ((s[k].toNat : Int) == 13) = false := by simp; omega
            have t35 : ((s[k].toNat : Int) == 35) = false := by simp; omega
            clear q1 q2 hq hJ h10
            by_cases hL : isLet s[k] = true
            · go_wp2_with fail
              refine (rletter_any s[k] _).mono ?_
              rintro E w1 ⟨rfl, hb⟩
              have HO := Lib.hid (hO.out.after hb)
              clear hb
              rw [hL]
              go_wp2_with fail
              go_loopw [9] (fun ev wr => ∃ e : Nat, ev = .int .i64 (e : Nat) ∧ k < e ∧ e ≤ s.size ∧ Hid (endF isLet s e = endF isLet s k) ∧ Hid (Tt w wr v ps)) (fun ev _ => s.size - (intOf ev).toNat)
              case atStart => exact ⟨k + 1, by go_num, by omega, by omega, Lib.hid (by rw [endF_at hlt, if_pos hL]), HO⟩
              case round =>
                clear HO
                obtain ⟨e, rfl, hke, hes, HE, HO⟩ := hrel
                by_cases he : e < s.size
                · by_cases hl2 : isLet s[e] = true
                  · have HE2 := Lib.hid (show endF isLet s (e + 1) = endF isLet s k by rw [← HE.out, endF_at he, if_pos hl2])
                    go_wp2_with fail
                    refine (rletter_any s[e] _).mono ?_
                    rintro E w3 ⟨rfl, hb⟩
                    replace HO := Lib.hid (HO.out.after hb)
                    clear hb
                    rw [hl2]
                    go_wp2_with fail
                    go_roundw
                    case rel => exact ⟨e + 1, by go_num, by omega, by omega, HE2, HO⟩
                    case measure => (simp [intOf] <;> omega)
                  · have hl3 : isLet s[e] = false := by simpa using hl2
                    have Hen := Lib.hid (show endF isLet s k = e by rw [← HE.out, endF_at he, if_neg hl2])
                    clear hl2 HE
                    go_wp2_with fail
                    refine (rletter_any s[e] _).mono ?_
                    rintro E w3 ⟨rfl, hb⟩
                    replace HO := Lib.hid (HO.out.after hb)
                    rw [hl3]
                    clear hb hl3
                    have HT := Lib.hid (tok_word hlt hL)
                    rw [Hen.out] at HT
                    have HN := Lib.hid (show TtJ s T e m false _ from by have h := TtJ.next (r := zeroR) HI.out hlt (by rw [HT.out]) (by rw [HT.out]) (by omega) (by omega); rw [HT.out] at h; exact h)
                    obtain ⟨v', w', hrun, hO'⟩ := HO.out.app2 2 m (s.extract k e) 0 zeroR ⟨zeroRN _, fun _ _ => zeroRN _⟩ (by have := HI.out.ct; omega)
                    have Hrun := Lib.hid hrun
                    replace HO := Lib.hid hO'
                    clear hrun hO'
                    go_wp2_with (at_builtin; refine wpList_append_eq rfl (.tmp 69) (.tmp 76) 23 _ _ _ rfl rfl rfl Hrun.out ?_)
                    clear Hrun
                    go_wp2_with fail
                    go_roundw
                    case rel => exact ⟨v', e, m, false, _, rfl, rfl, rfl, by go_num, by omega, by omega, HN, HO⟩
                    case measure => (simp [intOf] <;> omega)
                · have Hen := Lib.hid (show endF isLet s k = e by rw [← HE.out, endF_end he])
                  clear HE
                  have HT := Lib.hid (tok_word hlt hL)
                  rw [Hen.out] at HT
                  have HN := Lib.hid (show TtJ s T e m false _ from by have h := TtJ.next (r := zeroR) HI.out hlt (by rw [HT.out]) (by rw [HT.out]) (by omega) (by omega); rw [HT.out] at h; exact h)
                  obtain ⟨v', w', hrun, hO'⟩ := HO.out.app2 2 m (s.extract k e) 0 zeroR ⟨zeroRN _, fun _ _ => zeroRN _⟩ (by have := HI.out.ct; omega)
                  have Hrun := Lib.hid hrun
                  replace HO := Lib.hid hO'
                  clear hrun hO'
                  go_wp2_with (at_builtin; refine wpList_append_eq rfl (.tmp 69) (.tmp 76) 23 _ _ _ rfl rfl rfl Hrun.out ?_)
                  clear Hrun
                  go_wp2_with fail
                  go_roundw
                  case rel => exact ⟨v', e, m, false, _, rfl, rfl, rfl, by go_num, by omega, by omega, HN, HO⟩
                  case measure => (simp [intOf] <;> omega)
            · have hN0 : isLet s[k] = false := by simpa using hL
              clear hL
              go_wp2_with fail
              refine (rletter_any s[k] _).mono ?_
              rintro E w1 ⟨rfl, hb⟩
              have HO := Lib.hid (hO.out.after hb)
              clear hb hO
              rw [hN0]
              by_cases hL : isPart s[k] = true ∧ s[k].toNat ≠ 47
              · obtain ⟨hL, h47⟩ := hL
                have t47 : ((s[k].toNat : Int) != 47) = true := by simp; omega
                go_wp2_with fail
                refine (rpart_any s[k] _).mono ?_
                rintro E w2 ⟨rfl, hb⟩
                replace HO := Lib.hid (HO.out.after hb)
                clear hb
                rw [hL]
                go_wp2_with fail
                go_loopw [9] (fun ev wr => ∃ e : Nat, ev = .int .i64 (e : Nat) ∧ k < e ∧ e ≤ s.size ∧ Hid (endF isPart s e = endF isPart s k) ∧ Hid (Tt w wr v ps)) (fun ev _ => s.size - (intOf ev).toNat)
                case atStart => exact ⟨k + 1, by go_num, by omega, by omega, Lib.hid (by rw [endF_at hlt, if_pos hL]), HO⟩
                case round =>
                  clear HO
                  obtain ⟨e, rfl, hke, hes, HE, HO⟩ := hrel
                  by_cases he : e < s.size
                  · by_cases hl2 : isPart s[e] = true
                    · have HE2 := Lib.hid (show endF isPart s (e + 1) = endF isPart s k by rw [← HE.out, endF_at he, if_pos hl2])
                      go_wp2_with fail
                      refine (rpart_any s[e] _).mono ?_
                      rintro E w3 ⟨rfl, hb⟩
                      replace HO := Lib.hid (HO.out.after hb)
                      clear hb
                      rw [hl2]
                      go_wp2_with fail
                      go_roundw
                      case rel => exact ⟨e + 1, by go_num, by omega, by omega, HE2, HO⟩
                      case measure => (simp [intOf] <;> omega)
                    · have hl3 : isPart s[e] = false := by simpa using hl2
                      have Hen := Lib.hid (show endF isPart s k = e by rw [← HE.out, endF_at he, if_neg hl2])
                      clear hl2 HE
                      go_wp2_with fail
                      refine (rpart_any s[e] _).mono ?_
                      rintro E w3 ⟨rfl, hb⟩
                      replace HO := Lib.hid (HO.out.after hb)
                      rw [hl3]
                      clear hb hl3
                      have HT := Lib.hid (tok_num hlt hN0 (num_byte hL h47))
                      rw [Hen.out] at HT
                      have HP := Lib.hid (refparse4_any · (s.extract k e) (by rw [ByteArray.size_extract]; omega))
                      generalize parseR (s.extract k e).data.toList = pq at *
                      go_wp2_with fail
                      refine (HP.out _).mono ?_
                      rintro E w5 ⟨r, rfl, hr, hb⟩
                      have hbx := HO.out.box.lt
                      have hsz := hb.size
                      have Hr := Lib.hid (show Rests w5 (fun b => w.heap.size + 1 ≤ b ∧ some b ≠ v.ownBlock) (RatN r pq.2) from hr.mono fun b hb' => ⟨by omega, fun e => by have := (HO.out.tok.own.lt b e.symm).2; omega⟩)
                      replace HO := Lib.hid (HO.out.after hb)
                      clear hr hb hbx hsz HP
                      go_upto_region 25 with fail
                      have HB := Lib.hid (Blk.new w5 36 #[.bool r.num.neg, .slice r.num.A r.num.k r.num.c, .bool r.den.neg, .slice r.den.A r.den.k r.den.c])
                      replace HO := Lib.hid (HO.out.after (Below.of_alloc w5 (.cells #[.bool r.num.neg, .slice r.num.A r.num.k r.num.c, .bool r.den.neg, .slice r.den.A r.den.k r.den.c] 36)))
                      replace Hr := Lib.hid (Hr.out.alloc (.cells #[.bool r.num.neg, .slice r.num.A r.num.k r.num.c, .bool r.den.neg, .slice r.den.A r.den.k r.den.c] 36))
                      generalize w5.alloc (.cells #[.bool r.num.neg, .slice r.num.A r.num.k r.num.c, .bool r.den.neg, .slice r.den.A r.den.k r.den.c] 36) = W6 at *
                      generalize w5.heap.size = g6 at *
                      obtain ⟨c0, c1, c2, c3⟩ := Blk.c4 HB.out
                      by_cases h11 : pq.1 = 11
                      · have HF := Lib.hid (show T = (20, m, []) by have h := HI.out.fault hlt (by rw [HT.out, if_pos h11]; show (20 : Nat) ≠ 0; decide); rwa [HT.out, if_pos h11] at h)
                        have t11 : ((pq.1 : Int) == 11) = true := by rw [h11]; rfl
                        clear h11 HT Hr HB c0 c1 c2 c3
                        obtain ⟨f0, f1⟩ := Blk.f2 HO.out.box
                        obtain ⟨x0, x1⟩ := Blk.c2 HO.out.box
                        go_wp2_with fail
                        rw [set2_eq]
                        exact bodyPost_ret (v := .tuple #[.slice none 0 0, .agg #[.int .i64 20, .int .i64 m]]) (by simp [results, Tryz.results9, go_sem, set2_c0 HO.out.box, set2_c1 HO.out.box]) rfl
                          ⟨_, [], by rw [HF.out] <;> rfl, by rw [HF.out]; rfl, TokO.nil_ _ _, fun _ => rfl, set2_below HO.out.below (Nat.le_refl _)⟩
                      · have t11 : ((pq.1 : Int) == 11) = false := by simp; omega
                        rw [if_neg h11] at HT
                        by_cases h0 : pq.1 = 0
                        · have t0' : ((pq.1 : Int) != 0) = false := by rw [h0]; rfl
                          rw [h0] at HT
                          have HN := Lib.hid (show TtJ s T e m false _ from by have h := TtJ.next (r := r) HI.out hlt (by rw [HT.out]) (by rw [HT.out]) (by omega) (by omega); rw [HT.out] at h; exact h)
                          clear h0 h11
                          obtain ⟨v', w', hrun, hO'⟩ := HO.out.app2 3 m ⟨#[]⟩ pq.2 r Hr.out  (by have := HI.out.ct; omega)
                          have Hrun := Lib.hid hrun
                          replace HO := Lib.hid hO'
                          clear hrun hO'
                          go_wp2_with (at_builtin; refine wpList_append_eq rfl (.tmp 111) (.tmp 115) 23 _ _ _ rfl rfl rfl Hrun.out ?_)
                          clear Hrun
                          go_wp2_with fail
                          go_roundw
                          case rel => exact ⟨v', e, m, false, _, rfl, rfl, rfl, by go_num, by omega, by omega, HN, HO⟩
                          case measure => (simp [intOf] <;> omega)
                        · have t0' : ((pq.1 : Int) != 0) = true := by simpa using h0
                          have HF := Lib.hid (show T = (pq.1, m, []) by have h := HI.out.fault hlt (by rw [HT.out]; exact h0); rwa [HT.out] at h)
                          clear h11 h0 HT Hr HB c0 c1 c2 c3
                          obtain ⟨f0, f1⟩ := Blk.f2 HO.out.box
                          obtain ⟨x0, x1⟩ := Blk.c2 HO.out.box
                          go_wp2_with fail
                          rw [set2_eq]
                          exact bodyPost_ret (v := .tuple #[.slice none 0 0, .agg #[.int .i64 pq.1, .int .i64 m]]) (by simp [results, Tryz.results9, go_sem, set2_c0 HO.out.box, set2_c1 HO.out.box]) rfl
                            ⟨_, [], by rw [HF.out] <;> rfl, by rw [HF.out]; rfl, TokO.nil_ _ _, fun _ => rfl, set2_below HO.out.below (Nat.le_refl _)⟩
                  · have Hen := Lib.hid (show endF isPart s k = e by rw [← HE.out, endF_end he])
                    clear HE
                    have HT := Lib.hid (tok_num hlt hN0 (num_byte hL h47))
                    rw [Hen.out] at HT
                    have HP := Lib.hid (refparse4_any · (s.extract k e) (by rw [ByteArray.size_extract]; omega))
                    generalize parseR (s.extract k e).data.toList = pq at *
                    go_wp2_with fail
                    refine (HP.out _).mono ?_
                    rintro E w5 ⟨r, rfl, hr, hb⟩
                    have hbx := HO.out.box.lt
                    have hsz := hb.size
                    have Hr := Lib.hid (show Rests w5 (fun b => w.heap.size + 1 ≤ b ∧ some b ≠ v.ownBlock) (RatN r pq.2) from hr.mono fun b hb' => ⟨by omega, fun e => by have := (HO.out.tok.own.lt b e.symm).2; omega⟩)
                    replace HO := Lib.hid (HO.out.after hb)
                    clear hr hb hbx hsz HP
                    go_upto_region 25 with fail
                    have HB := Lib.hid (Blk.new w5 36 #[.bool r.num.neg, .slice r.num.A r.num.k r.num.c, .bool r.den.neg, .slice r.den.A r.den.k r.den.c])
                    replace HO := Lib.hid (HO.out.after (Below.of_alloc w5 (.cells #[.bool r.num.neg, .slice r.num.A r.num.k r.num.c, .bool r.den.neg, .slice r.den.A r.den.k r.den.c] 36)))
                    replace Hr := Lib.hid (Hr.out.alloc (.cells #[.bool r.num.neg, .slice r.num.A r.num.k r.num.c, .bool r.den.neg, .slice r.den.A r.den.k r.den.c] 36))
                    generalize w5.alloc (.cells #[.bool r.num.neg, .slice r.num.A r.num.k r.num.c, .bool r.den.neg, .slice r.den.A r.den.k r.den.c] 36) = W6 at *
                    generalize w5.heap.size = g6 at *
                    obtain ⟨c0, c1, c2, c3⟩ := Blk.c4 HB.out
                    by_cases h11 : pq.1 = 11
                    · have HF := Lib.hid (show T = (20, m, []) by have h := HI.out.fault hlt (by rw [HT.out, if_pos h11]; show (20 : Nat) ≠ 0; decide); rwa [HT.out, if_pos h11] at h)
                      have t11 : ((pq.1 : Int) == 11) = true := by rw [h11]; rfl
                      clear h11 HT Hr HB c0 c1 c2 c3
                      obtain ⟨f0, f1⟩ := Blk.f2 HO.out.box
                      obtain ⟨x0, x1⟩ := Blk.c2 HO.out.box
                      go_wp2_with fail
                      rw [set2_eq]
                      exact bodyPost_ret (v := .tuple #[.slice none 0 0, .agg #[.int .i64 20, .int .i64 m]]) (by simp [results, Tryz.results9, go_sem, set2_c0 HO.out.box, set2_c1 HO.out.box]) rfl
                        ⟨_, [], by rw [HF.out] <;> rfl, by rw [HF.out]; rfl, TokO.nil_ _ _, fun _ => rfl, set2_below HO.out.below (Nat.le_refl _)⟩
                    · have t11 : ((pq.1 : Int) == 11) = false := by simp; omega
                      rw [if_neg h11] at HT
                      by_cases h0 : pq.1 = 0
                      · have t0' : ((pq.1 : Int) != 0) = false := by rw [h0]; rfl
                        rw [h0] at HT
                        have HN := Lib.hid (show TtJ s T e m false _ from by have h := TtJ.next (r := r) HI.out hlt (by rw [HT.out]) (by rw [HT.out]) (by omega) (by omega); rw [HT.out] at h; exact h)
                        clear h0 h11
                        obtain ⟨v', w', hrun, hO'⟩ := HO.out.app2 3 m ⟨#[]⟩ pq.2 r Hr.out  (by have := HI.out.ct; omega)
                        have Hrun := Lib.hid hrun
                        replace HO := Lib.hid hO'
                        clear hrun hO'
                        go_wp2_with (at_builtin; refine wpList_append_eq rfl (.tmp 111) (.tmp 115) 23 _ _ _ rfl rfl rfl Hrun.out ?_)
                        clear Hrun
                        go_wp2_with fail
                        go_roundw
                        case rel => exact ⟨v', e, m, false, _, rfl, rfl, rfl, by go_num, by omega, by omega, HN, HO⟩
                        case measure => (simp [intOf] <;> omega)
                      · have t0' : ((pq.1 : Int) != 0) = true := by simpa using h0
                        have HF := Lib.hid (show T = (pq.1, m, []) by have h := HI.out.fault hlt (by rw [HT.out]; exact h0); rwa [HT.out] at h)
                        clear h11 h0 HT Hr HB c0 c1 c2 c3
                        obtain ⟨f0, f1⟩ := Blk.f2 HO.out.box
                        obtain ⟨x0, x1⟩ := Blk.c2 HO.out.box
                        go_wp2_with fail
                        rw [set2_eq]
                        exact bodyPost_ret (v := .tuple #[.slice none 0 0, .agg #[.int .i64 pq.1, .int .i64 m]]) (by simp [results, Tryz.results9, go_sem, set2_c0 HO.out.box, set2_c1 HO.out.box]) rfl
                          ⟨_, [], by rw [HF.out] <;> rfl, by rw [HF.out]; rfl, TokO.nil_ _ _, fun _ => rfl, set2_below HO.out.below (Nat.le_refl _)⟩
              · have hnn := no_num (b := s[k]) (by by_cases hp : isPart s[k] = true; exact .inr (Decidable.byContradiction fun h => hL ⟨hp, h⟩); exact .inl (by simpa using hp))
                have HNN := Lib.hid hnn
                clear hnn
                by_cases hp : isPart s[k] = true
                · have h47 : s[k].toNat = 47 := Decidable.byContradiction fun h => hL ⟨hp, h⟩
                  have HF := Lib.hid (show T = (20, m, []) by
                    have h := HI.out.fault hlt (by rw [tok_none hlt hN0 HNN.out (by rw [sign_byte, h47]; decide)]; show (20 : Nat) ≠ 0; decide)
                    rwa [tok_none hlt hN0 HNN.out (by rw [sign_byte, h47]; decide)] at h)
                  clear hL HI HNN
                  replace h47 := Lib.hid h47
                  go_wp2_with fail
                  refine (rpart_any s[k] _).mono ?_
                  rintro E w2 ⟨rfl, hb⟩
                  replace HO := Lib.hid (HO.out.after hb)
                  clear hb
                  rw [hp]
                  clear hp
                  replace h47 := h47.out
                  obtain ⟨f0, f1⟩ := Blk.f2 HO.out.box
                  obtain ⟨x0, x1⟩ := Blk.c2 HO.out.box
                  go_wp2_with fail
                  rw [set2_eq]
                  exact bodyPost_ret (v := .tuple #[.slice none 0 0, .agg #[.int .i64 20, .int .i64 m]]) (by simp [results, Tryz.results9, go_sem, set2_c0 HO.out.box, set2_c1 HO.out.box]) rfl
                    ⟨_, [], by rw [HF.out] <;> rfl, by rw [HF.out]; rfl, TokO.nil_ _ _, fun _ => rfl, set2_below HO.out.below (Nat.le_refl _)⟩
                · replace hp : isPart s[k] = false := by simpa using hp
                  clear hL
                  by_cases hs : s[k].toNat = 123 ∨ s[k].toNat = 125 ∨ s[k].toNat = 91 ∨ s[k].toNat = 93 ∨ s[k].toNat = 58 ∨ s[k].toNat = 44
                  · have HT := Lib.hid (tok_sign hlt hN0 HNN.out (by rw [sign_byte]; exact decide_eq_true hs))
                    have HN := Lib.hid (show TtJ s T (k + 1) m false _ from by have h := TtJ.next (r := zeroR) HI.out hlt (by rw [HT.out]) (by rw [HT.out]) (by omega) (by omega); rw [HT.out] at h; exact h)
                    clear HNN
                    replace hs := Lib.hid hs
                    go_wp2_with fail
                    refine (rpart_any s[k] _).mono ?_
                    rintro E w2 ⟨rfl, hb⟩
                    replace HO := Lib.hid (HO.out.after hb)
                    clear hb
                    rw [hp]
                    replace hs := hs.out
                    rcases hs with hs | hs | hs | hs | hs | hs
                    all_goals
                      obtain ⟨v', w', hrun, hO'⟩ := HO.out.app2 4 m (s.extract k (k + 1)) 0 zeroR ⟨zeroRN _, fun _ _ => zeroRN _⟩ (by have := HI.out.ct; omega)
                      have Hrun := Lib.hid hrun
                      replace HO := Lib.hid hO'
                      clear hrun hO'
                      go_wp2_with (at_builtin; refine wpList_append_eq rfl (.tmp 139) (.tmp 146) 23 _ _ _ rfl rfl rfl Hrun.out ?_)
                      clear Hrun
                      go_wp2_with fail
                      go_roundw
                      case rel => exact ⟨v', k + 1, m, false, _, rfl, rfl, rfl, by go_num, by omega, by omega, HN, HO⟩
                      case measure => (simp [intOf] <;> omega)
                  · have HF := Lib.hid (show T = (20, m, []) by
                      have h := HI.out.fault hlt (by rw [tok_none hlt hN0 HNN.out (by rw [sign_byte]; exact decide_eq_false hs)]; show (20 : Nat) ≠ 0; decide)
                      rwa [tok_none hlt hN0 HNN.out (by rw [sign_byte]; exact decide_eq_false hs)] at h)
                    clear HI HNN
                    have s1 : ((s[k].toNat : Int) == 123) = false := by simp; omega
                    have s2 : ((s[k].toNat : Int) == 125) = false := by simp; omega
                    have s3 : ((s[k].toNat : Int) == 91) = false := by simp; omega
                    have s4 : ((s[k].toNat : Int) == 93) = false := by simp; omega
                    have s5 : ((s[k].toNat : Int) == 58) = false := by simp; omega
                    have s6 : ((s[k].toNat : Int) == 44) = false := by simp; omega
                    clear hs
                    go_wp2_with fail
                    refine (rpart_any s[k] _).mono ?_
                    rintro E w2 ⟨rfl, hb⟩
                    replace HO := Lib.hid (HO.out.after hb)
                    clear hb
                    rw [hp]
                    obtain ⟨f0, f1⟩ := Blk.f2 HO.out.box
                    obtain ⟨x0, x1⟩ := Blk.c2 HO.out.box
                    go_wp2_with fail
                    rw [set2_eq]
                    exact bodyPost_ret (v := .tuple #[.slice none 0 0, .agg #[.int .i64 20, .int .i64 m]]) (by simp [results, Tryz.results9, go_sem, set2_c0 HO.out.box, set2_c1 HO.out.box]) rfl
                      ⟨_, [], by rw [HF.out] <;> rfl, by rw [HF.out]; rfl, TokO.nil_ _ _, fun _ => rfl, set2_below HO.out.below (Nat.le_refl _)⟩
        · have h10' : s[k] ≠ 10 := fun e => h10 (by rw [e]; rfl)
          have HB := Lib.hid (show TtJ s T (k + 1) m true ps from hJ.out.blank hlt h10' rfl)
          clear h10 h10' hJ
          go_wp2_with fail
          go_roundw
          case rel => exact ⟨v, k + 1, m, true, ps, rfl, by first | rfl | go_num, rfl, by go_num, by omega, by omega, HB, hO⟩
          case measure => (simp [intOf] <;> omega)
    · have HF := Lib.hid (hJ.out.done hlt)
      have hct := hJ.out.ct
      clear hJ
      obtain ⟨v', w', hrun, hO'⟩ := hO.out.app2 1 m ⟨#[]⟩ 0 zeroR ⟨zeroRN _, fun _ _ => zeroRN _⟩ (by omega)
      have Hrun := Lib.hid hrun
      replace hO := Lib.hid hO'
      obtain ⟨f0, f1⟩ := Blk.f2 hO.out.box
      obtain ⟨x0, x1⟩ := Blk.c2 hO.out.box
      clear hrun hO'
      go_wp2_with (at_builtin; refine wpList_append_eq rfl (.tmp 151) (.tmp 154) 23 _ _ _ rfl rfl rfl Hrun.out ?_)
      rw [set2_eq]
      exact bodyPost_ret (v := .tuple #[v', .agg #[.int .i64 0, .int .i64 0]]) (by simp [results, Tryz.results9, go_sem, set2_c0 hO.out.box, set2_c1 hO.out.box]) rfl
        ⟨v', _, by rw [HF.out]; rfl, by rw [HF.out]; simp, ((hO.out.tok.set_ (a := ⟨w.heap.size, 0, none⟩) (Nat.lt_succ_self _) _).set_ (a := ⟨w.heap.size, 1, none⟩) (Nat.lt_succ_self _) _).mono (Nat.le_succ _), fun h => absurd (by rw [HF.out]) h, set2_below hO.out.below (Nat.le_refl _)⟩
set_option maxRecDepth 100000 in
set_option maxHeartbeats 2000000 in
theorem rtokens_long (s : ByteArray) (w : World) (h : 262144 < s.size) :
    Calls Tryz.prog 9 #[.string s] w (RetToks (3, 0, []) w) := by
  have H0 := Lib.hid (Tt.start w)
  have t : (262144 : Int) < (s.size : Int) := by omega
  obtain ⟨f0, f1⟩ := Blk.f2 H0.out.box
  obtain ⟨x0, x1⟩ := Blk.c2 H0.out.box
  clear h
  go_enter Tryz.func9, Tryz.ntmps9
  have HN := Blk.new w 26 #[.int .i64 3, .int .i64 0]
  go_wp2_with fail
  exact bodyPost_ret (v := .tuple #[.slice none 0 0, .agg #[.int .i64 3, .int .i64 0]]) (by simp [results, Tryz.results9, go_sem, HN.cell 0, HN.cell 1]) rfl
    ⟨_, [], rfl, rfl, TokO.nil_ _ _, fun _ => rfl, Below.of_alloc _ _⟩
theorem rtokens_any (s : ByteArray) (w : World) : Calls Tryz.prog 9 #[.string s] w (RetToks (tokens parseR s.data.toList) w) := by
  unfold tokens
  have e : s.data.toList.length = s.size := by simp
  rw [e]
  split
  · exact rtokens_long s w (by assumption)
  · exact rtokens_short s w (by omega)
end Go.Proofs.YtbdgeinfijamcaaGreatDoor
