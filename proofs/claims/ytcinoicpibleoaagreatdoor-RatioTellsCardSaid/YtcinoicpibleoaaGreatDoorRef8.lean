/-
  tripwireref04: Parse.
-/
import Derived.Test.YtcinoicpibleoaaGreatDoorRef7
import Derived.Test.YtcinoicpibleoaaGreatDoorRefP
import Derived.Test.YtcinoicpibleoaaGreatDoorQP
namespace Go.Proofs.YtcinoicpibleoaaGreatDoor
open Go.RowKit

/-- where the first '/' lies; the length if there is none -/
def slash : List UInt8 → Nat
  | [] => 0
  | b :: l => if b = 47 then 0 else slash l + 1
theorem slash_le (l : List UInt8) : slash l ≤ l.length := by
  induction l with
  | nil => simp [slash]
  | cons b l ih => unfold slash; split <;> simp <;> omega
theorem index_slash (l : List UInt8) : Lib.index l [47] = if slash l < l.length then (slash l : Int) else -1 := by
  induction l with
  | nil => simp [Lib.index, slash]
  | cons b l ih =>
    unfold Lib.index slash
    by_cases h : b = 47
    · subst h; simp [List.isPrefixOf]
    · have h' : ([47] : List UInt8).isPrefixOf (b :: l) = false := by simp [List.isPrefixOf]; exact fun e => h e.symm
      rw [if_neg (by rw [h']; decide), if_neg h, ih]
      by_cases h2 : slash l < l.length
      · rw [if_pos h2, if_neg (by first | (simp; done) | (simp; omega)), if_pos (by simpa using h2)]; push_cast; rfl
      · rw [if_neg h2, if_pos (by decide), if_neg (by simpa using h2)]
theorem cut_slash (l : List UInt8) : Lib.cut l [47] = if slash l < l.length then (l.take (slash l), l.drop (slash l + 1), true) else (l, [], false) := by
  unfold Lib.cut
  rw [index_slash]
  by_cases h : slash l < l.length
  · simp [h]
  · simp [h]
theorem slash_step {l : List UInt8} {k : Nat} (h : k < l.length) : k + slash (l.drop k) = if l[k] = 47 then k else k + 1 + slash (l.drop (k + 1)) := by
  rw [List.drop_eq_getElem_cons h]
  conv => lhs; unfold slash
  split <;> omega
/-- what two numerals make -/
def finR (p d : Nat × Bool × Nat) : Nat × Rat := if p.1 = 11 ∨ d.1 = 11 then (11, 0) else if p.1 ≠ 0 then (p.1, 0) else if d.1 ≠ 0 then (d.1, 0) else if pz d = 0 then (10, 0) else (0, Rat.divInt (pz p) (pz d))
theorem parseR_no {l : List UInt8} (h : ¬ slash l < l.length) : parseR l = finR (parseN l) (parseN [49]) := by
  unfold parseR finR
  rw [cut_slash, if_neg h]
  simp [Lib.hasPrefix, List.isPrefixOf]
theorem parseR_neg {l : List UInt8} (h : slash l < l.length) (h2 : Lib.hasPrefix (l.drop (slash l + 1)) [45] = true) : parseR l = (11, 0) := by
  unfold parseR
  rw [cut_slash, if_pos h]
  simp [h2]
theorem parseR_yes {l : List UInt8} (h : slash l < l.length) (h2 : Lib.hasPrefix (l.drop (slash l + 1)) [45] = false) : parseR l = finR (parseN (l.take (slash l))) (parseN (l.drop (slash l + 1))) := by
  unfold parseR finR
  rw [cut_slash, if_pos h]
  simp [h2]
theorem parse_nonneg {l : List UInt8} (h : Lib.hasPrefix l [45] = false) : 0 ≤ pz (parseN l) := by
  unfold pz parseN
  rw [h]
  simp only
  split
  · simp [iv]
  · split <;> simp [iv] <;> omega
theorem rparse_pi (s : ByteArray) (W : World) (hs : s.size ≤ 1048576) : Calls Tryz.prog 97 #[.string s] W (RetPI (parseN s.data.toList).1 (pz (parseN s.data.toList)) W) := by
  refine (rparse_any s W hs).mono ?_
  rintro e w' ⟨A, c, rfl, hc, hr, hb⟩
  exact ⟨⟨(parseN s.data.toList).2.1, A, (digs B64 (parseN s.data.toList).2.2).length, c⟩, rfl, ⟨⟨_, rfl, hr, digs_lt (by decide) _, by rw [val_digs (by decide)]; rfl⟩, hc, dlen_le (parse_small _)⟩, hb⟩
theorem ext_upto (s : ByteArray) (a : Nat) : (s.extract 0 a).data.toList = s.data.toList.take a := by
  rw [ByteArray.data_extract, Array.toList_extract]
  simp [List.extract]
theorem ext_from (s : ByteArray) (a : Nat) : (s.extract a s.size).data.toList = s.data.toList.drop a := by
  rw [ByteArray.data_extract, Array.toList_extract]
  simp only [List.extract]
  exact List.take_of_length_le (by simp)
theorem pre_one (l : List UInt8) (a : Nat) : Lib.hasPrefix (l.drop a) [45] = decide (∃ h : a < l.length, l[a] = 45) := by
  by_cases h : a < l.length
  · rw [List.drop_eq_getElem_cons h]
    have e : Lib.hasPrefix (l[a] :: l.drop (a + 1)) [45] = (45 == l[a]) := by simp [Lib.hasPrefix, List.isPrefixOf]
    rw [e, Bool.eq_iff_iff, decide_eq_true_eq, beq_iff_eq]
    exact ⟨fun e => ⟨h, e.symm⟩, fun ⟨_, e⟩ => e.symm⟩
  · rw [List.drop_eq_nil_of_le (by omega)]
    simp [Lib.hasPrefix, List.isPrefixOf, h]
set_option maxRecDepth 100000 in
set_option maxHeartbeats 2000000 in
theorem refparse4_any (w : World) (s : ByteArray) (hs : s.size ≤ 1048576) :
    Calls Tryz.prog 51 #[.string s] w (RetRE (parseR s.data.toList).2 (parseR s.data.toList).1 w) := by
  obtain ⟨W0, hW0⟩ : ∃ W0, W0 = (w.alloc (.cells #[.bool false, .slice none 0 0, .bool false, .slice none 0 0] 31)) := ⟨_, rfl⟩
  have HE := Lib.hid (Env.lay1 (Env.start (Rests.pure trivial _ _)) hW0)
  subst hW0
  have c := Env.c1 HE.out
  go_enter Tryz.func51, Tryz.ntmps51
  go_wp2_with fail
  go_loopw [4, 5] (fun av iv wr => ∃ k : Nat, k ≤ s.size ∧ iv = .int .i64 ((k : Int) - 1) ∧ av = .int .i64 ((k + slash (s.data.toList.drop k) : Nat) : Int) ∧ wr = w.alloc (.cells #[.bool false, .slice none 0 0, .bool false, .slice none 0 0] 31)) (fun _ iv _ => (intOf iv + 1).toNat)
  case atStart => exact ⟨s.size, Nat.le_refl _, by go_num, by rw [List.drop_eq_nil_of_le (by simp)]; simp [slash], rfl⟩
  case round =>
    obtain ⟨k, hk, rfl, rfl, rfl⟩ := hrel
    by_cases h0 : k = 0
    · subst h0
      have hsl : slash s.data.toList ≤ s.size := by have := slash_le s.data.toList; rwa [← Lib.size_eq s] at this
      have HA := Lib.hid (show 0 + slash (s.data.toList.drop 0) = slash s.data.toList by simp)
      rw [HA.out]
      clear HA
      obtain ⟨a, ha⟩ : ∃ a, a = slash s.data.toList := ⟨_, rfl⟩
      rw [← ha] at hsl ⊢
      have Ha := Lib.hid ha
      clear ha hk
      have Hp := Lib.hid (rparse_pi (s.extract 0 a) · (by rw [ByteArray.size_extract]; omega))
      rw [ext_upto] at Hp
      obtain ⟨p, hp⟩ : ∃ p, p = parseN (s.data.toList.take a) := ⟨_, rfl⟩
      have HPC := Lib.hid (parse_code (s.data.toList.take a))
      rw [← hp] at Hp HPC
      have Hpp := Lib.hid hp
      clear hp
      go_wp2_with fail
      refine (Hp.out _).mono ?_
      rintro e w1 ⟨i1, rfl, hi1, hb⟩
      replace HE := Lib.hid ((HE.out.call hb).addD hi1 (by simp))
      clear hb hi1 c Hp
      go_wp2_with fail
      obtain ⟨W2, g6, hW2, hg6, HE⟩ := Env.al HE.out 29 #[.bool i1.neg, .slice i1.A i1.k i1.c]
      rw [hW2, hg6]
      clear hW2 hg6
      refine (refof_any _ 1 (by decide) (by decide)).mono ?_
      rintro e w3 ⟨k2, rfl, hk, hb⟩
      replace HE := Lib.hid (Env.ret (by first | exact HE.out | exact HE.out.drew) hk hb)
      clear hk hb
      go_upto_if 35 with fail
      obtain ⟨W4, g8, hW4, hg8, HE⟩ := Env.al HE.out 29 #[.bool k2.neg, .slice k2.A k2.k k2.c]
      rw [hW4, hg8]
      clear hW4 hg8
      have c := Env.c3 HE.out
      have dd := Env.d3 HE.out
  
      go_cut [9] (fun fv wx => ∃ (d : Nat × Bool × Nat) (k3 : IV), fv = .int .i64 (d.1 : Nat) ∧ Hid (parseR s.data.toList = finR p d ∧ 0 ≤ pz d ∧ (d.1 = 0 ∨ d.1 = 3 ∨ d.1 = 11)) ∧ Hid (Env w [⟨g8, 29, #[.bool k3.neg, .slice k3.A k3.k k3.c]⟩, ⟨g6, 29, #[.bool i1.neg, .slice i1.A i1.k i1.c]⟩, ⟨w.heap.size, 31, #[.bool false, .slice none 0 0, .bool false, .slice none 0 0]⟩] (fun V => IntD k3 (pz d) 100 V ∧ IntD i1 (pz p) 100 V) (fun _ => True) wx))
      case first =>
        by_cases hlt : a < s.size
        · have Hlt := Lib.hid (show slash s.data.toList < s.data.toList.length by rw [← Ha.out, ← Lib.size_eq s]; exact hlt)
          have hpre := pre_one s.data.toList (a + 1)
          by_cases h1 : a + 1 < s.size
          · by_cases h45 : s[a + 1].toNat = 45
            · have HQ := Lib.hid (parseR_neg Hlt.out (by rw [← Ha.out, hpre]; exact decide_eq_true ⟨by have := Lib.size_eq s; omega, UInt8.toNat_inj.1 (show s[a + 1].toNat = (45 : UInt8).toNat from h45)⟩))
              clear hpre
              go_wp2_with fail
              have hE := HE.out.put4_2 (.bool false) (.slice none 0 0) (.bool false) (.slice none 0 0)
              replace c := Env.c3 hE
              exact bodyPost_ret (v := .tuple #[.agg #[.bool false, .slice none 0 0, .bool false, .slice none 0 0], .int .i64 11]) (by simp [results, Tryz.results51, go_sem, c]) rfl (by rw [HQ.out]; exact hE.retRE (r := ⟨⟨false, none, 0, 0⟩, ⟨false, none, 0, 0⟩⟩) fun V _ => ratN_zero V)
            · have HF := Lib.hid (rparse_pi (s.extract (a + 1) s.size) · (by rw [ByteArray.size_extract]; omega))
              rw [ext_from] at HF
              have hpf : Lib.hasPrefix (s.data.toList.drop (a + 1)) [45] = false := by rw [hpre]; exact decide_eq_false (fun ⟨q, e⟩ => h45 (congrArg UInt8.toNat e))
              have HQ := Lib.hid (parseR_yes Hlt.out (by rw [← Ha.out]; exact hpf))
              rw [← Ha.out, ← Hpp.out] at HQ
              have HN := Lib.hid (parse_nonneg hpf)
              have HC := Lib.hid (parse_code (s.data.toList.drop (a + 1)))
              generalize parseN (s.data.toList.drop (a + 1)) = d at *
              clear hpre hpf
              go_wp2_with fail
              refine (HF.out _).mono ?_
              rintro e w5 ⟨i2, rfl, hi2, hb⟩
              replace HE := Lib.hid ((HE.out.call hb).addD hi2 (by simp))
              replace c := Env.c3 HE.out
              clear hb hi2 HF
              go_wp2_with fail
              go_meet
              exact ⟨d, i2, rfl, Lib.hid ⟨HQ.out, HN.out, HC.out⟩, Lib.hid ((HE.out.put2 _ _).imp (fun _ h => ⟨h.1, h.2.1⟩) fun _ _ => trivial)⟩
          · have HF := Lib.hid (rparse_pi (s.extract (a + 1) s.size) · (by rw [ByteArray.size_extract]; omega))
            rw [ext_from] at HF
            have hpf : Lib.hasPrefix (s.data.toList.drop (a + 1)) [45] = false := by rw [hpre]; exact decide_eq_false (fun ⟨q, e⟩ => h1 (by have := Lib.size_eq s; omega))
            have HQ := Lib.hid (parseR_yes Hlt.out (by rw [← Ha.out]; exact hpf))
            rw [← Ha.out, ← Hpp.out] at HQ
            have HN := Lib.hid (parse_nonneg hpf)
            have HC := Lib.hid (parse_code (s.data.toList.drop (a + 1)))
            generalize parseN (s.data.toList.drop (a + 1)) = d at *
            clear hpre hpf
            go_wp2_with fail
            refine (HF.out _).mono ?_
            rintro e w5 ⟨i2, rfl, hi2, hb⟩
            replace HE := Lib.hid ((HE.out.call hb).addD hi2 (by simp))
            replace c := Env.c3 HE.out
            clear hb hi2 HF
            go_wp2_with fail
            go_meet
            exact ⟨d, i2, rfl, Lib.hid ⟨HQ.out, HN.out, HC.out⟩, Lib.hid ((HE.out.put2 _ _).imp (fun _ h => ⟨h.1, h.2.1⟩) fun _ _ => trivial)⟩
        · have HQ := Lib.hid (parseR_no (l := s.data.toList) (by rw [← Ha.out]; have := Lib.size_eq s; omega))
          have HP1 := Lib.hid (show p = parseN s.data.toList by rw [Hpp.out, List.take_of_length_le (by have := Lib.size_eq s; omega)])
          rw [← HP1.out] at HQ
          go_wp2_with fail
          go_meet
          exact ⟨parseN [49], k2, rfl, Lib.hid ⟨HQ.out, by decide, by decide⟩, Lib.hid ((HE.out.sink.imp (fun _ h => ⟨h.1.1.ofLt (by decide), h.2.1⟩) fun _ _ => trivial))⟩
      case rest =>
      clear HE c Hpp Ha hsl
      obtain ⟨d, k3, rfl, HQ, HE⟩ := hcut
      have c := Env.c3 HE.out
      obtain ⟨HQ1, HN, HC⟩ := HQ.out
      replace HQ1 := Lib.hid HQ1
      replace HN := Lib.hid HN
      have HQ2 := Lib.hid (show finR p d = if p.1 = 11 ∨ d.1 = 11 then (11, 0) else if p.1 ≠ 0 then (p.1, 0) else if d.1 ≠ 0 then (d.1, 0) else if pz d = 0 then (10, 0) else (0, Rat.divInt (pz p) (pz d)) from rfl)
      clear HQ
      rcases HPC.out with hp | hp | hp <;> rcases HC with hd | hd | hd <;> rw [hp, hd] <;> rw [hp, hd] at HQ2 <;> clear hp hd
      · by_cases h0 : pz d = 0
        · have HQ3 := Lib.hid (HQ1.out.trans (HQ2.out.trans (show _ = ((10 : Nat), (0 : Rat)) by simp [h0])))
          have hsg : ((pz d).sign == 0) = true := by rw [h0]; rfl
          have Hh := Lib.hid h0
          clear h0
          go_wp2_with fail
          refine (refsign_any _ k3 (pz d) 100 (by decide) HE.out.o.1).mono ?_
          rintro e w6 ⟨rfl, hb⟩
          replace HE := Lib.hid (HE.out.call hb)
          replace c := Env.c3 HE.out
          clear hb
          go_wp2_with fail
          have hE := HE.out.put4_2 (.bool false) (.slice none 0 0) (.bool false) (.slice none 0 0)
          replace c := Env.c3 hE
          exact bodyPost_ret (v := .tuple #[.agg #[.bool false, .slice none 0 0, .bool false, .slice none 0 0], .int .i64 10]) (by simp [results, Tryz.results51, go_sem, c]) rfl (by rw [HQ3.out]; exact hE.retRE (r := ⟨⟨false, none, 0, 0⟩, ⟨false, none, 0, 0⟩⟩) fun V _ => ratN_zero V)
        · have HQ3 := Lib.hid (HQ1.out.trans (HQ2.out.trans (show _ = ((0 : Nat), Rat.divInt (pz p) (pz d)) by simp [h0])))
          have hsg : ((pz d).sign == 0) = false := by simpa [Int.sign_eq_zero_iff_zero] using h0
          have Hh := Lib.hid (show 0 < pz d by have := HN.out; omega)
          clear h0
          go_wp2_with fail
          refine (refsign_any _ k3 (pz d) 100 (by decide) HE.out.o.1).mono ?_
          rintro e w6 ⟨rfl, hb⟩
          replace HE := Lib.hid (HE.out.call hb)
          replace c := Env.c3 HE.out
          clear hb
          go_wp2_with fail
          refine (reflow_any _ i1 k3 (pz p) (pz d) 100 (by decide) (by first | exact HE.out.o.2 | exact HE.out.drew.o.2) (by first | exact HE.out.o.1 | exact HE.out.drew.o.1) Hh.out).mono ?_
          rintro e w7 ⟨r, rfl, hk, hb⟩
          replace HE := Lib.hid (Env.ret (by first | exact HE.out | exact HE.out.drew) hk hb)
          replace c := Env.c3 HE.out
          clear hk hb
          go_wp2_with fail
          have hE := HE.out.put4_2 (.bool r.num.neg) (.slice r.num.A r.num.k r.num.c) (.bool r.den.neg) (.slice r.den.A r.den.k r.den.c)
          replace c := Env.c3 hE
          exact bodyPost_ret (v := .tuple #[.agg #[.bool r.num.neg, .slice r.num.A r.num.k r.num.c, .bool r.den.neg, .slice r.den.A r.den.k r.den.c], .int .i64 0]) (by simp [results, Tryz.results51, go_sem, c]) rfl (by rw [HQ3.out]; exact hE.retRE fun _ h => h.1)
      · have HQ3 := Lib.hid (HQ1.out.trans (HQ2.out.trans (show _ = ((3 : Nat), (0 : Rat)) by simp)))
        go_wp2_with fail
        have hE := HE.out.put4_2 (.bool false) (.slice none 0 0) (.bool false) (.slice none 0 0)
        replace c := Env.c3 hE
        exact bodyPost_ret (v := .tuple #[.agg #[.bool false, .slice none 0 0, .bool false, .slice none 0 0], .int .i64 3]) (by simp [results, Tryz.results51, go_sem, c]) rfl (by rw [HQ3.out]; exact hE.retRE (r := ⟨⟨false, none, 0, 0⟩, ⟨false, none, 0, 0⟩⟩) fun V _ => ratN_zero V)
      · have HQ3 := Lib.hid (HQ1.out.trans (HQ2.out.trans (show _ = ((11 : Nat), (0 : Rat)) by simp)))
        go_wp2_with fail
        have hE := HE.out.put4_2 (.bool false) (.slice none 0 0) (.bool false) (.slice none 0 0)
        replace c := Env.c3 hE
        exact bodyPost_ret (v := .tuple #[.agg #[.bool false, .slice none 0 0, .bool false, .slice none 0 0], .int .i64 11]) (by simp [results, Tryz.results51, go_sem, c]) rfl (by rw [HQ3.out]; exact hE.retRE (r := ⟨⟨false, none, 0, 0⟩, ⟨false, none, 0, 0⟩⟩) fun V _ => ratN_zero V)
      · have HQ3 := Lib.hid (HQ1.out.trans (HQ2.out.trans (show _ = ((3 : Nat), (0 : Rat)) by simp)))
        go_wp2_with fail
        have hE := HE.out.put4_2 (.bool false) (.slice none 0 0) (.bool false) (.slice none 0 0)
        replace c := Env.c3 hE
        exact bodyPost_ret (v := .tuple #[.agg #[.bool false, .slice none 0 0, .bool false, .slice none 0 0], .int .i64 3]) (by simp [results, Tryz.results51, go_sem, c]) rfl (by rw [HQ3.out]; exact hE.retRE (r := ⟨⟨false, none, 0, 0⟩, ⟨false, none, 0, 0⟩⟩) fun V _ => ratN_zero V)
      · have HQ3 := Lib.hid (HQ1.out.trans (HQ2.out.trans (show _ = ((3 : Nat), (0 : Rat)) by simp)))
        go_wp2_with fail
        have hE := HE.out.put4_2 (.bool false) (.slice none 0 0) (.bool false) (.slice none 0 0)
        replace c := Env.c3 hE
        exact bodyPost_ret (v := .tuple #[.agg #[.bool false, .slice none 0 0, .bool false, .slice none 0 0], .int .i64 3]) (by simp [results, Tryz.results51, go_sem, c]) rfl (by rw [HQ3.out]; exact hE.retRE (r := ⟨⟨false, none, 0, 0⟩, ⟨false, none, 0, 0⟩⟩) fun V _ => ratN_zero V)
      · have HQ3 := Lib.hid (HQ1.out.trans (HQ2.out.trans (show _ = ((11 : Nat), (0 : Rat)) by simp)))
        go_wp2_with fail
        have hE := HE.out.put4_2 (.bool false) (.slice none 0 0) (.bool false) (.slice none 0 0)
        replace c := Env.c3 hE
        exact bodyPost_ret (v := .tuple #[.agg #[.bool false, .slice none 0 0, .bool false, .slice none 0 0], .int .i64 11]) (by simp [results, Tryz.results51, go_sem, c]) rfl (by rw [HQ3.out]; exact hE.retRE (r := ⟨⟨false, none, 0, 0⟩, ⟨false, none, 0, 0⟩⟩) fun V _ => ratN_zero V)
      · have HQ3 := Lib.hid (HQ1.out.trans (HQ2.out.trans (show _ = ((11 : Nat), (0 : Rat)) by simp)))
        go_wp2_with fail
        have hE := HE.out.put4_2 (.bool false) (.slice none 0 0) (.bool false) (.slice none 0 0)
        replace c := Env.c3 hE
        exact bodyPost_ret (v := .tuple #[.agg #[.bool false, .slice none 0 0, .bool false, .slice none 0 0], .int .i64 11]) (by simp [results, Tryz.results51, go_sem, c]) rfl (by rw [HQ3.out]; exact hE.retRE (r := ⟨⟨false, none, 0, 0⟩, ⟨false, none, 0, 0⟩⟩) fun V _ => ratN_zero V)
      · have HQ3 := Lib.hid (HQ1.out.trans (HQ2.out.trans (show _ = ((11 : Nat), (0 : Rat)) by simp)))
        go_wp2_with fail
        have hE := HE.out.put4_2 (.bool false) (.slice none 0 0) (.bool false) (.slice none 0 0)
        replace c := Env.c3 hE
        exact bodyPost_ret (v := .tuple #[.agg #[.bool false, .slice none 0 0, .bool false, .slice none 0 0], .int .i64 11]) (by simp [results, Tryz.results51, go_sem, c]) rfl (by rw [HQ3.out]; exact hE.retRE (r := ⟨⟨false, none, 0, 0⟩, ⟨false, none, 0, 0⟩⟩) fun V _ => ratN_zero V)
      · have HQ3 := Lib.hid (HQ1.out.trans (HQ2.out.trans (show _ = ((11 : Nat), (0 : Rat)) by simp)))
        go_wp2_with fail
        have hE := HE.out.put4_2 (.bool false) (.slice none 0 0) (.bool false) (.slice none 0 0)
        replace c := Env.c3 hE
        exact bodyPost_ret (v := .tuple #[.agg #[.bool false, .slice none 0 0, .bool false, .slice none 0 0], .int .i64 11]) (by simp [results, Tryz.results51, go_sem, c]) rfl (by rw [HQ3.out]; exact hE.retRE (r := ⟨⟨false, none, 0, 0⟩, ⟨false, none, 0, 0⟩⟩) fun V _ => ratN_zero V)
    · obtain ⟨m, rfl⟩ : ∃ m, k = m + 1 := ⟨k - 1, by omega⟩
      have hm : m < s.size := by omega
      have HS := Lib.hid (slash_step (l := s.data.toList) (k := m) (by rwa [← Lib.size_eq s]))
      by_cases h47 : s[m].toNat = 47
      · go_wp2_with fail
        go_roundw
        case rel => exact ⟨m, by omega, by go_num, by rw [HS.out, if_pos (show s.data.toList[m] = 47 from UInt8.toNat_inj.1 (show s[m].toNat = (47 : UInt8).toNat from h47))]; go_num, by first | rfl | trivial⟩
        case measure => (simp [intOf] <;> omega)
      · go_wp2_with fail
        go_roundw
        case rel => exact ⟨m, by omega, by go_num, by rw [HS.out, if_neg (show ¬ s.data.toList[m] = 47 from fun e => h47 (congrArg UInt8.toNat e))], by first | rfl | trivial⟩
        case measure => (simp [intOf] <;> omega)
end Go.Proofs.YtcinoicpibleoaaGreatDoor
