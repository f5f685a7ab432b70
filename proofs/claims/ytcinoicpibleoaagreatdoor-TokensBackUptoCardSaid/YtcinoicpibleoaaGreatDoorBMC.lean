/-
  TokensBack: the plain law of the loop; a list of tokens that came in. tripwirelaw09.written, tripwirelow.Pick. The walk of TokensBack. Arguments that are slices of things of many cells, read; what the bound on the input's bulk gives. TokensBack: its arguments, read. TokensBack returns true, whatever the input; no conditions: the row and its card.
-/
import Derived.Test.YtcinoicpibleoaaGreatDoorTW
import Derived.Test.YtcinoicpibleoaaGreatDoorOP
import Derived.Test.YtcinoicpibleoaaGreatDoorShelf
import Derived.Test.YtcinoicpibleoaaGreatDoorSE
import Derived.Deep.CutRange
import Derived.Test.YtcinoicpibleoaaGreatDoorSR
import Derived.Test.YtcinoicpibleoaaGreatDoorTT
import Derived.ChangeMaps5
namespace Go.Proofs.YtcinoicpibleoaaGreatDoor
open Go.RowKit

/-- what stands between tokens -/
def sepB : Nat → ByteArray
  | 0 => ⟨#[32]⟩
  | 1 => ⟨#[10]⟩
  | 2 => ⟨#[9, 13, 32]⟩
  | 3 => ⟨#[35, 32, 123, 32, 49, 47, 48, 32, 65, 10]⟩
  | _ => ⟨#[10, 10, 35, 10]⟩
theorem sepB_mem (k : Nat) : (sepB k).data.toList ∈ seps := by
  unfold sepB seps
  split <;> simp
theorem sepB_size (k : Nat) : (sepB k).size ≤ 10 := by
  unfold sepB
  split <;> decide
theorem sepB_count (k : Nat) : (sepB k).data.toList.count 10 ≤ 3 := by
  unfold sepB
  split <;> decide
/-- the text S is written of a token -/
def WrOk (k : Nat) (s S : ByteArray) (r : RV) (q : Rat) : Prop :=
  (k = 2 ∧ S = s ∧ 1 ≤ s.size ∧ s.size ≤ 40 ∧ s.data.toList.all isLet = true) ∨ (k = 4 ∧ S = s ∧ ∃ b, s = ⟨#[b]⟩ ∧ isSign b = true) ∨ (k = 3 ∧ S = ⟨(ratText q).toArray⟩ ∧ r.num.k ≤ 10 ∧ r.den.k ≤ 10)
theorem dig_part {c : UInt8} (h : isDig c = true) : isPart c = true ∧ c ≠ 47 := by
  have h1 : 48 ≤ c.toNat ∧ c.toNat ≤ 57 := by simpa [isDig] using h
  have h2 : (48 : UInt8) ≤ c := UInt8.le_iff_toNat_le.2 h1.1
  have h3 : c ≤ (57 : UInt8) := UInt8.le_iff_toNat_le.2 h1.2
  refine ⟨by simp [isPart, h2, h3], fun e => ?_⟩
  subst e
  exact absurd h1.1 (by decide)
theorem intText_part (neg : Bool) (v : Nat) : (intText neg v).all isPart = true ∧ ∃ b t, intText neg v = b :: t ∧ b ≠ 47 := by
  unfold intText
  split
  · exact ⟨by decide, 48, [], rfl, by decide⟩
  · obtain ⟨h1, -, h2, -⟩ := dec_dig v
    have ha : (Lib.decDigits v).all isPart = true := List.all_eq_true.2 fun c hc => (dig_part (h1 c hc)).1
    cases neg
    · refine ⟨by simpa using ha, ?_⟩
      obtain ⟨b, t, e⟩ := List.exists_cons_of_ne_nil h2
      exact ⟨b, t, by simpa using e, (dig_part (h1 b (by rw [e]; exact List.mem_cons_self ..))).2⟩
    · exact ⟨by rw [if_pos rfl, List.all_append, ha]; decide, 45, Lib.decDigits v, rfl, by decide⟩
theorem ratText_part (q : Rat) : (ratText q).all isPart = true ∧ ∃ b t, ratText q = b :: t ∧ b ≠ 47 := by
  obtain ⟨h1, b, t, e, hb⟩ := intText_part (decide (q.num < 0)) q.num.natAbs
  have h2 := (intText_part false q.den).1
  unfold ratText
  refine ⟨?_, b, _, by rw [e, List.cons_append], hb⟩
  rw [List.all_append, h1]
  split
  · rfl
  · rw [List.all_cons, h2]; rfl
theorem ratText_len {q : Rat} (h : Sz q 10) : (ratText q).length ≤ 403 := by
  have h1 := txt_len (neg := decide (q.num < 0)) h.1 (by decide)
  have h2 := txt_len (neg := false) h.2 (by decide)
  unfold ratText
  rw [List.length_append]
  split
  · simp; omega
  · simp; omega
/-- in the middle of the law's loop: what is written, and what is wanted -/
structure BkI (L : List Item) (T : ByteArray) (ln i : Nat) (ks : List Tk) : Prop where
  txt : T.data.toList = flatI L
  size : T.size ≤ 500 * i
  line : lineI L 1 = ln
  kl : ks = listI L 1
  good : ∀ x ∈ L, x.Good parseR
  sz : ∀ k ∈ ks, Sz k.x 100
theorem BkI.start : BkI [] ⟨#[]⟩ 1 0 [] := ⟨rfl, Nat.le_refl _, rfl, rfl, by simp, by simp⟩
theorem BkI.skip {L : List Item} {T : ByteArray} {ln i : Nat} {ks : List Tk} (h : BkI L T ln i ks) : BkI L T ln (i + 1) ks := ⟨h.txt, by have := h.size; omega, h.line, h.kl, h.good, h.sz⟩
theorem BkI.more {L : List Item} {T S X : ByteArray} {ln i : Nat} {ks : List Tk} (h : BkI L T ln i ks) (x : Item) (hx : x.Good parseR) (he : X.data.toList = x.sep) (hS : S.data.toList = x.b :: x.t) (hX : X.size ≤ 10) (hs : S.size ≤ 403) (k : Tk) (hk : x.k (ln + X.data.toList.count 10) = k) (hz : Sz k.x 100) :
    BkI (L ++ [x]) (T ++ X ++ S) (ln + X.data.toList.count 10) (i + 1) (ks ++ [k]) := by
  refine ⟨?_, ?_, ?_, ?_, fun y hy => ?_, fun y hy => ?_⟩
  · rw [flatI_add, ← h.txt, ← he, ← hS, ByteArray.data_append, ByteArray.data_append, Array.toList_append, Array.toList_append, List.append_assoc]
  · have := h.size
    rw [ByteArray.size_append, ByteArray.size_append]; omega
  · rw [lineI_add, h.line, he]
  · rw [listI_add, h.line, ← he, hk, ← h.kl]
  · rcases List.mem_append.1 hy with hy | hy
    · exact h.good y hy
    · rw [List.mem_singleton.1 hy]; exact hx
  · rcases List.mem_append.1 hy with hy | hy
    · exact h.sz y hy
    · rw [List.mem_singleton.1 hy]; exact hz
/-- the token wanted -/
def tkB (k : Nat) (s : ByteArray) (q : Rat) (n : Nat) : Tk := if k = 3 then ⟨3, [], q, n⟩ else ⟨k, s.data.toList, 0, n⟩
theorem WrOk.size {k : Nat} {s S : ByteArray} {r : RV} {q : Rat} (h : WrOk k s S r q) (hq : k = 3 → Sz q 10) : S.size ≤ 403 := by
  rcases h with ⟨rfl, rfl, h1, h2, h3⟩ | ⟨rfl, rfl, b, rfl, hb⟩ | ⟨rfl, rfl, h1, h2⟩
  · omega
  · exact (by decide : (1 : Nat) ≤ 403)
  · rw [size_str]; exact ratText_len (hq rfl)
theorem BkI.step {L : List Item} {T S : ByteArray} {ln i : Nat} {ks : List Tk} (h : BkI L T ln i ks) (way k : Nat) (s : ByteArray) (r : RV) (q : Rat) (hw : WrOk k s S r q) (hq : k = 3 → Sz q 10) :
    ∃ L', BkI L' (T ++ sepB way ++ S) (ln + (sepB way).data.toList.count 10) (i + 1) (ks ++ [tkB k s q (ln + (sepB way).data.toList.count 10)]) := by
  have hS := hw.size hq
  have hm := sepB_mem way
  rcases hw with ⟨rfl, rfl, h1, h2, h3⟩ | ⟨rfl, rfl, b, rfl, hb⟩ | ⟨rfl, rfl, h1, h2⟩
  · obtain ⟨b, t, e⟩ : ∃ b t, S.data.toList = b :: t := by
      cases hh : S.data.toList with
      | nil => have : S.data.toList.length = S.size := by simp
               rw [hh] at this; simp at this; omega
      | cons b t => exact ⟨b, t, rfl⟩
    rw [e] at h3
    exact ⟨_, h.more ⟨(sepB way).data.toList, b, t, fun n => ⟨2, b :: t, 0, n⟩⟩ (good_word hm b t h3) rfl e (sepB_size _) hS _ (by unfold tkB; rw [if_neg (by decide), e]) (by unfold tkB; rw [if_neg (by decide)]; exact sz_zero.up (by decide))⟩
  · exact ⟨_, h.more ⟨(sepB way).data.toList, b, [], fun n => ⟨4, [b], 0, n⟩⟩ (good_sign hm b hb) rfl rfl (sepB_size _) hS _ (by unfold tkB; rw [if_neg (by decide)]) (by unfold tkB; rw [if_neg (by decide)]; exact sz_zero.up (by decide))⟩
  · obtain ⟨ha, b, t, e, hb⟩ := ratText_part q
    have hp := parse_ratText (hq rfl) (by decide)
    rw [e] at ha hp
    exact ⟨_, h.more ⟨(sepB way).data.toList, b, t, fun n => ⟨3, [], q, n⟩⟩ (good_num hm b t q ha hb hp) rfl e (sepB_size _) hS _ (by unfold tkB; rw [if_pos rfl]) (by unfold tkB; rw [if_pos rfl]; exact (hq rfl).up (by decide))⟩
theorem BkI.end_ {L : List Item} {T : ByteArray} {ln i : Nat} {ks : List Tk} (h : BkI L T ln i ks) (hi : i ≤ 60) : tokens parseR T.data.toList = (0, 0, ks ++ [⟨1, [], 0, ln⟩]) := by
  have h1 : T.data.toList.length = T.size := by simp
  have h2 := h.size
  unfold tokens
  rw [if_neg (by omega)]
  have h3 := toks_back (P := parseR) L 1 (T.data.toList.length + 1) h.good (by rw [← h.txt]; omega)
  rw [← h.txt, h.line, ← h.kl] at h3
  exact h3
theorem str_back (s : ByteArray) : (⟨s.data.toList.toArray⟩ : ByteArray) = s := by cases s; simp
end Go.Proofs.YtcinoicpibleoaaGreatDoor
namespace Go.Proofs.YtcinoicpibleoaaGreatDoor
open Go.RowKit

def WrRes (k : Nat) (s : ByteArray) (r : RV) (q : Rat) (e : Ending) : Prop := ∃ S ok, e = .returned (.tuple #[.string S, .bool ok]) ∧ (ok = true → WrOk k s S r q)
theorem wr_mk {k : Nat} {s : ByteArray} {r : RV} {q : Rat} (S : ByteArray) (ok : Bool) (h : ok = true → WrOk k s S r q) : WrRes k s r q (.returned (.tuple #[.string S, .bool ok])) := ⟨S, ok, rfl, h⟩
theorem Env.drewN {w W : World} {bs : List Bo} {old new : World → Prop} (h : Env w bs old new W) (n : Nat) : Env w bs old new (W.drewN n) :=
  h.call (Below.drewN (Below.refl _ W) n)
set_option maxRecDepth 100000 in
set_option maxHeartbeats 2000000 in
theorem written_none (w : World) (k : Nat) (s : ByteArray) (_hs : s.size ≤ 9223372036854775807) (r : RV) (q : Rat) (ln : Int) (n : Nat) (_hn : n ≤ 1048576) (_h1n : 1 ≤ n) (hq : RatD r q n w) (hT : Tz w) (ht : Tab w) (h2 : k ≠ 2) (h3 : k ≠ 3) (h4 : k ≠ 4) :
    Calls Tryz.prog 5 #[.agg #[.int .u8 (k : Nat), .string s, .bool r.num.neg, .slice r.num.A r.num.k r.num.c, .bool r.den.neg, .slice r.den.A r.den.k r.den.c, .int .i64 ln]] w fun e w' => WrRes k s r q e ∧ Below w.heap.size w w' := by
  obtain ⟨W0, hW0⟩ : ∃ W0, W0 = (w.alloc (.cells #[.int .u8 (k : Nat), .string s, .bool r.num.neg, .slice r.num.A r.num.k r.num.c, .bool r.den.neg, .slice r.den.A r.den.k r.den.c, .int .i64 ln] 33)) := ⟨_, rfl⟩
  have HE := Lib.hid (Env.lay1 (Env.start ((hq.old).and ((hT.old).and (ht.old)))) hW0)
  subst hW0
  have c := Env.c1 HE.out
  clear hq hT ht
  have t2 : ((k : Int) == 2) = false := by simp; omega
  have t4 : ((k : Int) == 4) = false := by simp; omega
  have t3 : ((k : Int) == 3) = false := by simp; omega
  clear h2 h3 h4
  go_enter Tryz.func5, Tryz.ntmps5
  go_wp2_with fail
  exact bodyPost_ret (v := .tuple #[.string ⟨#[]⟩, .bool false]) (by simp [results, Tryz.results5, go_sem]) rfl (⟨wr_mk ⟨#[]⟩ false (fun h => absurd h (by decide)), by first | exact HE.out.bel | exact HE.out.drew.bel | exact (HE.out.drewN _).bel⟩)
set_option maxRecDepth 100000 in
set_option maxHeartbeats 2000000 in
theorem written_num (w : World) (s : ByteArray) (_hs : s.size ≤ 9223372036854775807) (r : RV) (q : Rat) (ln : Int) (n : Nat) (hn : n ≤ 1048576) (h1n : 1 ≤ n) (hq : RatD r q n w) (hT : Tz w) (ht : Tab w) :
    Calls Tryz.prog 5 #[.agg #[.int .u8 3, .string s, .bool r.num.neg, .slice r.num.A r.num.k r.num.c, .bool r.den.neg, .slice r.den.A r.den.k r.den.c, .int .i64 ln]] w fun e w' => WrRes 3 s r q e ∧ Below w.heap.size w w' := by
  obtain ⟨W0, hW0⟩ : ∃ W0, W0 = (w.alloc (.cells #[.int .u8 3, .string s, .bool r.num.neg, .slice r.num.A r.num.k r.num.c, .bool r.den.neg, .slice r.den.A r.den.k r.den.c, .int .i64 ln] 33)) := ⟨_, rfl⟩
  have HE := Lib.hid (Env.lay1 (Env.start ((hq.old).and ((hT.old).and (ht.old)))) hW0)
  subst hW0
  have c := Env.c1 HE.out
  clear hq hT ht
  obtain ⟨TX, hTX⟩ : ∃ TX : ByteArray, TX = ⟨(ratText q).toArray⟩ := ⟨_, rfl⟩
  have KT := Lib.hid (fun (V : World) (k1 : RatD r q n V) (k2 : Tz V) (k3 : Tab V) => (show Calls Tryz.prog 48 #[.agg #[.bool r.num.neg, .slice r.num.A r.num.k r.num.c, .bool r.den.neg, .slice r.den.A r.den.k r.den.c]] V fun e w' => e = .returned (.string TX) ∧ Below V.heap.size V w' from by have k4 := rtext_any V r q n hn h1n k1 k2 k3; rw [hTX]; exact k4))
  replace hTX := Lib.hid hTX
  go_enter Tryz.func5, Tryz.ntmps5
  go_wp2_with fail
  go_region_held3 (fun W => CB (w.heap.size) #[.int .u8 3, .string s, .bool r.num.neg, .slice r.num.A r.num.k r.num.c, .bool r.den.neg, .slice r.den.A r.den.k r.den.c, .int .i64 ln] W) (first | with_reducible exact c | ((repeat' apply And.intro) <;> go_keep) | exact c)
    (first
      | (go_at_call 48; go_must (refine (KT.out _ (by first | exact HE.out.o.1 | exact HE.out.drew.o.1) (by first | exact HE.out.o.2.1 | exact HE.out.drew.o.2.1) (by first | exact HE.out.o.2.2 | exact HE.out.drew.o.2.2)).mono ?_; rintro e w1 ⟨rfl, hb⟩; replace HE := Lib.hid (Env.call (by first | exact HE.out | exact HE.out.drew) hb); replace c := Env.c1 HE.out; clear hb))
      | (go_at_call 12; go_must (refine (shortRat_any _ r 10).mono ?_; rintro e w2 ⟨rfl, hb⟩; replace HE := Lib.hid (Env.call (by first | exact HE.out | exact HE.out.drew) hb); replace c := Env.c1 HE.out; clear hb)))
  go_wp2_with fail
  exact bodyPost_ret (v := .tuple #[.string TX, .bool (shortR r 10)]) (by simp [results, Tryz.results5, go_sem]) rfl (⟨wr_mk TX (shortR r 10) (fun h => .inr (.inr ⟨rfl, hTX.out, by simpa [shortR] using h⟩)), by first | exact HE.out.bel | exact HE.out.drew.bel | exact (HE.out.drewN _).bel⟩)
theorem sign_index_b (b : UInt8) : decide (0 ≤ Lib.indexByte (⟨#[123, 125, 91, 93, 58, 44]⟩ : ByteArray).data.toList b) = isSign b := by
  by_cases h1 : b = 123
  · subst h1; decide
  · by_cases h2 : b = 125
    · subst h2; decide
    · by_cases h3 : b = 91
      · subst h3; decide
      · by_cases h4 : b = 93
        · subst h4; decide
        · by_cases h5 : b = 58
          · subst h5; decide
          · by_cases h6 : b = 44
            · subst h6; decide
            · have e : Lib.indexByte (⟨#[123, 125, 91, 93, 58, 44]⟩ : ByteArray).data.toList b = -1 := by simp [Lib.indexByte, Ne.symm h1, Ne.symm h2, Ne.symm h3, Ne.symm h4, Ne.symm h5, Ne.symm h6]
              rw [e]
              simp [isSign, h1, h2, h3, h4, h5, h6]
set_option maxRecDepth 100000 in
set_option maxHeartbeats 2000000 in
theorem written_sign (w : World) (b : UInt8) (r : RV) (q : Rat) (ln : Int) (n : Nat) (_hn : n ≤ 1048576) (_h1n : 1 ≤ n) (hq : RatD r q n w) (hT : Tz w) (ht : Tab w) :
    Calls Tryz.prog 5 #[.agg #[.int .u8 4, .string ⟨#[b]⟩, .bool r.num.neg, .slice r.num.A r.num.k r.num.c, .bool r.den.neg, .slice r.den.A r.den.k r.den.c, .int .i64 ln]] w fun e w' => WrRes 4 ⟨#[b]⟩ r q e ∧ Below w.heap.size w w' := by
  obtain ⟨W0, hW0⟩ : ∃ W0, W0 = (w.alloc (.cells #[.int .u8 4, .string ⟨#[b]⟩, .bool r.num.neg, .slice r.num.A r.num.k r.num.c, .bool r.den.neg, .slice r.den.A r.den.k r.den.c, .int .i64 ln] 33)) := ⟨_, rfl⟩
  have HE := Lib.hid (Env.lay1 (Env.start ((hq.old).and ((hT.old).and (ht.old)))) hW0)
  subst hW0
  have c := Env.c1 HE.out
  clear hq hT ht
  have hsz : (⟨#[b]⟩ : ByteArray).size = 1 := rfl
  have hix := sign_index_b b
  obtain ⟨B, hB⟩ : ∃ B, decide (0 ≤ Lib.indexByte (⟨#[123, 125, 91, 93, 58, 44]⟩ : ByteArray).data.toList b) = B := ⟨_, rfl⟩
  rw [hB] at hix
  replace hix := Lib.hid hix
  have KC := Lib.hid (fun V => show Calls Tryz.prog 52 #[.string ⟨#[123, 125, 91, 93, 58, 44]⟩, .string ⟨#[b]⟩] V fun e w' => e = .returned (.bool B) ∧ w' = V from by rw [← hB]; exact Tryz.strings_Contains_one _ b V)
  clear hB
  go_enter Tryz.func5, Tryz.ntmps5
  go_wp2_with fail
  go_quiet (first | (go_at_call 52; refine Calls.quiet_of_same (KC.out _)))
  go_wp2_with fail
  exact bodyPost_ret (v := .tuple #[.string ⟨#[b]⟩, .bool B]) (by simp [results, Tryz.results5, go_sem]) rfl (⟨wr_mk ⟨#[b]⟩ B (fun h => .inr (.inl ⟨rfl, rfl, b, rfl, hix.out.symm.trans h⟩)), by first | exact HE.out.bel | exact HE.out.drew.bel | exact (HE.out.drewN _).bel⟩)
set_option maxRecDepth 100000 in
set_option maxHeartbeats 2000000 in
theorem written_signN (w : World) (s : ByteArray) (_hs : s.size ≤ 9223372036854775807) (r : RV) (q : Rat) (ln : Int) (n : Nat) (_hn : n ≤ 1048576) (_h1n : 1 ≤ n) (hq : RatD r q n w) (hT : Tz w) (ht : Tab w) (h1 : s.size ≠ 1) :
    Calls Tryz.prog 5 #[.agg #[.int .u8 4, .string s, .bool r.num.neg, .slice r.num.A r.num.k r.num.c, .bool r.den.neg, .slice r.den.A r.den.k r.den.c, .int .i64 ln]] w fun e w' => WrRes 4 s r q e ∧ Below w.heap.size w w' := by
  obtain ⟨W0, hW0⟩ : ∃ W0, W0 = (w.alloc (.cells #[.int .u8 4, .string s, .bool r.num.neg, .slice r.num.A r.num.k r.num.c, .bool r.den.neg, .slice r.den.A r.den.k r.den.c, .int .i64 ln] 33)) := ⟨_, rfl⟩
  have HE := Lib.hid (Env.lay1 (Env.start ((hq.old).and ((hT.old).and (ht.old)))) hW0)
  subst hW0
  have c := Env.c1 HE.out
  clear hq hT ht
  have hsz : ((s.size : Int) == 1) = false := by simp; omega
  clear h1
  go_enter Tryz.func5, Tryz.ntmps5
  go_wp2_with fail
  go_quiet (fail)
  go_wp2_with fail
  exact bodyPost_ret (v := .tuple #[.string s, .bool false]) (by simp [results, Tryz.results5, go_sem]) rfl (⟨wr_mk s false (fun h => absurd h (by decide)), by first | exact HE.out.bel | exact HE.out.drew.bel | exact (HE.out.drewN _).bel⟩)
theorem all_let {s : ByteArray} (h : ∀ j (h : j < s.size), j < s.size → isLet s[j] = true) : s.data.toList.all isLet = true := by
  rw [List.all_eq_true]
  intro x hx
  obtain ⟨i, hi, rfl⟩ := List.mem_iff_getElem.1 hx
  have hi' : i < s.size := by simpa using hi
  exact h i hi' hi'
set_option maxRecDepth 100000 in
set_option maxHeartbeats 2000000 in
theorem written_word (w : World) (s : ByteArray) (hs : s.size ≤ 9223372036854775807) (r : RV) (q : Rat) (ln : Int) (n : Nat) (_hn : n ≤ 1048576) (_h1n : 1 ≤ n) (hq : RatD r q n w) (hT : Tz w) (ht : Tab w) :
    Calls Tryz.prog 5 #[.agg #[.int .u8 2, .string s, .bool r.num.neg, .slice r.num.A r.num.k r.num.c, .bool r.den.neg, .slice r.den.A r.den.k r.den.c, .int .i64 ln]] w fun e w' => WrRes 2 s r q e ∧ Below w.heap.size w w' := by
  obtain ⟨W0, hW0⟩ : ∃ W0, W0 = (w.alloc (.cells #[.int .u8 2, .string s, .bool r.num.neg, .slice r.num.A r.num.k r.num.c, .bool r.den.neg, .slice r.den.A r.den.k r.den.c, .int .i64 ln] 33)) := ⟨_, rfl⟩
  have HE := Lib.hid (Env.lay1 (Env.start ((hq.old).and ((hT.old).and (ht.old)))) hW0)
  subst hW0
  have c := Env.c1 HE.out
  clear hq hT ht
  go_enter Tryz.func5, Tryz.ntmps5
  go_wp2_with fail
  go_loopw [4] (fun iv wr => ∃ i : Nat, iv = .int .i64 i ∧ i ≤ s.size ∧ Hid (∀ j (h : j < s.size), j < i → isLet s[j] = true) ∧ Hid (Env w [⟨w.heap.size, 33, #[.int .u8 2, .string s, .bool r.num.neg, .slice r.num.A r.num.k r.num.c, .bool r.den.neg, .slice r.den.A r.den.k r.den.c, .int .i64 ln]⟩] (fun V => RatD r q n V ∧ Tz V ∧ Tab V) (fun _ => True) wr)) (fun iv _ => s.size - (intOf iv).toNat)
  case atStart => exact ⟨0, rfl, Nat.zero_le _, Lib.hid (fun _ _ h => absurd h (Nat.not_lt_zero _)), HE⟩
  case round =>
    clear HE c
    obtain ⟨i, rfl, hi, HL, HE⟩ := hrel
    have c := Env.c1 HE.out
    by_cases hlt : i < s.size
    · have hl := let_nat s[i]
      by_cases h1 : 97 ≤ s[i].toNat
      · by_cases h2 : s[i].toNat ≤ 122
        · have hLt : isLet s[i] = true := by rw [hl, decide_eq_true h1, decide_eq_true h2]; rfl
          have t1 : ¬ (s[i].toNat : Int) < 97 := by omega
          have t2 : ¬ (122 : Int) < (s[i].toNat : Int) := by omega
          clear hl h1 h2
          go_wp2_with fail
          go_roundw
          case rel => exact ⟨i + 1, by go_num, by omega, Lib.hid (fun j h hj => by rcases Nat.lt_or_ge j i with h3 | h3; exact HL.out j h h3; have h4 : j = i := (by omega); subst h4; exact hLt), HE⟩
          case measure => (simp [intOf] <;> omega)
        · have t1 : ¬ (s[i].toNat : Int) < 97 := by omega
          have t2 : (122 : Int) < (s[i].toNat : Int) := by omega
          clear hl h1 h2
          go_wp2_with fail
          exact bodyPost_ret (v := .tuple #[.string ⟨#[]⟩, .bool false]) (by simp [results, Tryz.results5, go_sem]) rfl (⟨wr_mk ⟨#[]⟩ false (fun h => absurd h (by decide)), by first | exact HE.out.bel | exact HE.out.drew.bel | exact (HE.out.drewN _).bel⟩)
      · have t1 : (s[i].toNat : Int) < 97 := by omega
        clear hl h1
        go_wp2_with fail
        exact bodyPost_ret (v := .tuple #[.string ⟨#[]⟩, .bool false]) (by simp [results, Tryz.results5, go_sem]) rfl (⟨wr_mk ⟨#[]⟩ false (fun h => absurd h (by decide)), by first | exact HE.out.bel | exact HE.out.drew.bel | exact (HE.out.drewN _).bel⟩)
    · obtain rfl : i = s.size := by omega
      have HA := Lib.hid (show s.data.toList.all isLet = true from all_let HL.out)
      clear HL hlt hi
      by_cases h1 : 1 ≤ s.size
      · have t1 : (1 : Int) ≤ (s.size : Int) := by omega
        by_cases h2 : s.size ≤ 40
        · have t2 : (s.size : Int) ≤ 40 := by omega
          go_wp2_with fail
          go_quiet (fail)
          go_wp2_with fail
          exact bodyPost_ret (v := .tuple #[.string s, .bool true]) (by simp [results, Tryz.results5, go_sem]) rfl (⟨wr_mk s true (fun _ => .inl ⟨rfl, rfl, h1, h2, HA.out⟩), by first | exact HE.out.bel | exact HE.out.drew.bel | exact (HE.out.drewN _).bel⟩)
        · have t2 : decide ((s.size : Int) ≤ 40) = false := by simp; omega
          go_wp2_with fail
          go_quiet (fail)
          go_wp2_with fail
          exact bodyPost_ret (v := .tuple #[.string s, .bool false]) (by simp [results, Tryz.results5, go_sem]) rfl (⟨wr_mk s false (fun h => absurd h (by decide)), by first | exact HE.out.bel | exact HE.out.drew.bel | exact (HE.out.drewN _).bel⟩)
      · have t1 : decide ((1 : Int) ≤ (s.size : Int)) = false := by simp; omega
        go_wp2_with fail
        go_quiet (fail)
        go_wp2_with fail
        exact bodyPost_ret (v := .tuple #[.string s, .bool false]) (by simp [results, Tryz.results5, go_sem]) rfl (⟨wr_mk s false (fun h => absurd h (by decide)), by first | exact HE.out.bel | exact HE.out.drew.bel | exact (HE.out.drewN _).bel⟩)
theorem written_any (w : World) (k : Nat) (s : ByteArray) (hs : s.size ≤ 9223372036854775807) (r : RV) (q : Rat) (ln : Int) (n : Nat) (hn : n ≤ 1048576) (h1n : 1 ≤ n) (hq : RatD r q n w) (hT : Tz w) (ht : Tab w) :
    Calls Tryz.prog 5 #[.agg #[.int .u8 (k : Nat), .string s, .bool r.num.neg, .slice r.num.A r.num.k r.num.c, .bool r.den.neg, .slice r.den.A r.den.k r.den.c, .int .i64 ln]] w fun e w' => WrRes k s r q e ∧ Below w.heap.size w w' := by
  by_cases h2 : k = 2
  · subst h2; exact written_word w s hs r q ln n hn h1n hq hT ht
  · by_cases h3 : k = 3
    · subst h3; exact written_num w s hs r q ln n hn h1n hq hT ht
    · by_cases h4 : k = 4
      · subst h4
        by_cases h1 : s.size = 1
        · obtain ⟨b, rfl⟩ : ∃ b, s = ⟨#[b]⟩ := by
            obtain ⟨⟨l⟩⟩ := s
            match l, h1 with
            | [b], _ => exact ⟨b, rfl⟩
          exact written_sign w b r q ln n hn h1n hq hT ht
        · exact written_signN w s hs r q ln n hn h1n hq hT ht h1
      · exact written_none w k s hs r q ln n hn h1n hq hT ht h2 h3 h4

set_option maxRecDepth 100000 in
set_option maxHeartbeats 2000000 in
theorem pick5_any (w : World) (z : Int) (_h0 : -9223372036854775808 ≤ z) (_h1 : z ≤ 9223372036854775807) :
    Calls Tryz.prog 6 #[.int .i64 z, .int .i64 5] w fun e w' => (∃ m : Nat, e = .returned (.int .i64 (m : Int)) ∧ m < 5) ∧ Below w.heap.size w w' := by
  have h2 := Int.tmod_lt_of_pos z (b := 5) (by decide)
  have h3 := Int.tmod_lt_of_pos (-z) (b := 5) (by decide)
  rw [Int.neg_tmod] at h3
  generalize hy : z.tmod 5 = y at *
  by_cases h4 : y < 0
  · go_enter Tryz.func6, Tryz.ntmps6
    go_wp2_with fail
    go_ret
    refine ⟨⟨(y + 5).toNat, ?_, by omega⟩, Below.refl _ _⟩
    rw [Int.toNat_of_nonneg (by omega)]
    rfl
  · go_enter Tryz.func6, Tryz.ntmps6
    go_wp2_with fail
    go_ret
    refine ⟨⟨y.toNat, ?_, by omega⟩, Below.refl _ _⟩
    rw [Int.toNat_of_nonneg (by omega)]
    rfl
end Go.Proofs.YtcinoicpibleoaaGreatDoor
namespace Go.Proofs.YtcinoicpibleoaaGreatDoor
open Go.RowKit

/-- a token that came in -/
structure TiV where
  k : Nat
  s : ByteArray
  r : RV
  x : Int
  y : Int
  ln : Int
def TiV.q (p : TiV) : Rat := if p.r.den.k = 0 then Rat.divInt p.x 1 else Rat.divInt p.x p.y
def icells (p : TiV) : Array Value := #[.int .u8 (p.k : Nat), .string p.s, .bool p.r.num.neg, .slice p.r.num.A p.r.num.k p.r.num.c, .bool p.r.den.neg, .slice p.r.den.A p.r.den.k p.r.den.c, .int .i64 p.ln]
structure TiV.Ok (p : TiV) : Prop where
  s : p.s.size ≤ 9223372036854775807
  x : p.r.num.k ≤ 1048576
  y : p.r.den.k ≤ 1048576
/-- tokens that came in -/
structure LT (A : Option Addr) (l : List TiV) (w : World) : Prop where
  el : El w 7 A (l.map icells)
  num : ∀ p ∈ l, IntD p.r.num p.x p.r.num.k w ∧ IntD p.r.den p.y p.r.den.k w
theorem El.old {w : World} {sz : Nat} {A : Option Addr} {cs : List (Array Value)} (h : El w sz A cs) : Rests w (· < w.heap.size) (fun V => El V sz A cs) :=
  ⟨h, fun _ hw => h.keep fun _ hp _ => World.cell?_of_block (hw _ hp hp)⟩
theorem Rests.all {α : Type} {w : World} {F : Nat → Prop} {φ : α → World → Prop} {l : List α} (h : ∀ p ∈ l, Rests w F (φ p)) : Rests w F (fun V => ∀ p ∈ l, φ p V) :=
  ⟨fun p hp => (h p hp).now, fun w' hw p hp => (h p hp).lift w' hw⟩
theorem LT.old {w : World} {A : Option Addr} {l : List TiV} (h : LT A l w) : Rests w (· < w.heap.size) (LT A l) :=
  (h.el.old.and (Rests.all (φ := fun (p : TiV) V => IntD p.r.num p.x p.r.num.k V ∧ IntD p.r.den p.y p.r.den.k V) fun p hp => (h.num p hp).1.old.and (h.num p hp).2.old)).imp fun _ h => ⟨h.1, h.2⟩
theorem LT.rat {w : World} {A : Option Addr} {l : List TiV} (h : LT A l w) {p : TiV} (hp : p ∈ l) {n : Nat} (h1 : p.r.num.k ≤ n) (h2 : p.r.den.k ≤ n) : RatD p.r p.q n w := ⟨p.x, p.y, (h.num p hp).1.mono h1, (h.num p hp).2.mono h2, rfl⟩
theorem LT.cells {w : World} {A : Option Addr} {l : List TiV} (h : LT A l w) (i : Nat) (hi : i < l.length) :
    w.cell? (adr A (i * 7)) = some (.int .u8 ((l[i]).k : Nat)) ∧ w.cell? (adr A (i * 7 + 1)) = some (.string (l[i]).s) ∧ w.cell? (adr A (i * 7 + 2)) = some (.bool (l[i]).r.num.neg) ∧ w.cell? (adr A (i * 7 + 3)) = some (.slice (l[i]).r.num.A (l[i]).r.num.k (l[i]).r.num.c) ∧
    w.cell? (adr A (i * 7 + 4)) = some (.bool (l[i]).r.den.neg) ∧ w.cell? (adr A (i * 7 + 5)) = some (.slice (l[i]).r.den.A (l[i]).r.den.k (l[i]).r.den.c) ∧ w.cell? (adr A (i * 7 + 6)) = some (.int .i64 (l[i]).ln) := by
  have hi' : i < (l.map icells).length := by simpa using hi
  have e : (l.map icells)[i] = icells l[i] := by simp
  have hc := h.el.cell i hi'
  rw [e] at hc
  exact ⟨hc 0 (by decide), hc 1 (by decide), hc 2 (by decide), hc 3 (by decide), hc 4 (by decide), hc 5 (by decide), hc 6 (by decide)⟩
theorem LT.sl {w : World} {A : Option Addr} {l : List TiV} (h : LT A l w) : Sl A l.length := by have := h.el.sl; rwa [List.length_map] at this
/-- whole numbers that came in -/
def LW (A : Option Addr) (zs : List Int) (w : World) : Prop := El w 1 A (zs.map fun z => #[.int .i64 z])
theorem LW.old {w : World} {A : Option Addr} {zs : List Int} (h : LW A zs w) : Rests w (· < w.heap.size) (LW A zs) := El.old h
theorem LW.cell {w : World} {A : Option Addr} {zs : List Int} (h : LW A zs w) (i : Nat) (hi : i < zs.length) : w.cell? (adr A i) = some (.int .i64 zs[i]) := by
  have hi' : i < (zs.map fun z => (#[.int .i64 z] : Array Value)).length := by simpa using hi
  have hc := El.cell h i hi' 0 (by decide)
  simpa using hc
theorem LW.sl {w : World} {A : Option Addr} {zs : List Int} (h : LW A zs w) : Sl A zs.length := by have := El.sl h; rwa [List.length_map] at this
theorem sep_get (m : Nat) (h : m < 5) : (#[.string ⟨#[32]⟩, .string ⟨#[10]⟩, .string ⟨#[9, 13, 32]⟩, .string ⟨#[35, 32, 123, 32, 49, 47, 48, 32, 65, 10]⟩, .string ⟨#[10, 10, 35, 10]⟩] : Array Value)[m]? = some (.string (sepB m)) := by
  match m, h with
  | 0, _ => rfl
  | 1, _ => rfl
  | 2, _ => rfl
  | 3, _ => rfl
  | 4, _ => rfl
theorem Env.stX {w W : World} {bs : List Bo} {old new : World → Prop} {g : Nat} {t : TypeId} {a0 a1 a2 a3 a4 a5 a6 : Value} (h : Env w (⟨g, t, #[a0, a1, a2, a3, a4, a5, a6]⟩ :: bs) old new W) (b2 b3 b4 b5 : Value) :
    ∃ W', ((((W.setCell ⟨g, 2, none⟩ b2).setCell ⟨g, 3, none⟩ b3).setCell ⟨g, 4, none⟩ b4).setCell ⟨g, 5, none⟩ b5) = W' ∧ Hid (Env w (⟨g, t, #[a0, a1, b2, b3, b4, b5, a6]⟩ :: bs) old new W') :=
  ⟨_, rfl, Lib.hid ((((h.put 2 b2).put 3 b3).put 4 b4).put 5 b5)⟩
theorem Env.stSX {w W : World} {bs : List Bo} {old new : World → Prop} {g : Nat} {t : TypeId} {a0 a1 a2 a3 a4 a5 a6 : Value} (h : Env w (⟨g, t, #[a0, a1, a2, a3, a4, a5, a6]⟩ :: bs) old new W) (b1 b2 b3 b4 b5 : Value) :
    ∃ W', (((((W.setCell ⟨g, 1, none⟩ b1).setCell ⟨g, 2, none⟩ b2).setCell ⟨g, 3, none⟩ b3).setCell ⟨g, 4, none⟩ b4).setCell ⟨g, 5, none⟩ b5) = W' ∧ Hid (Env w (⟨g, t, #[a0, b1, b2, b3, b4, b5, a6]⟩ :: bs) old new W') :=
  ⟨_, rfl, Lib.hid (((((h.put 1 b1).put 2 b2).put 3 b3).put 4 b4).put 5 b5)⟩
/-- an append behind a guard, whose outcome is known -/
theorem wpList_append_g {P : Program} {w w' : World} {ops : Array Oper} {rest : List Oper} {o : Oper} {a : Act} {Q : Exit → Act → World → Prop} (hw : Region.wanted o (yielded ops a.tmps) = true) (s x : Operand) (t : TypeId) (v y v' : Value)
    (ho : o.op = .call { callee := .builtin .append, args := #[s, x], argTypes := #[t, t] }) (hs : a.eval s = v) (hx : a.eval x = y)
    (hrun : (Builtin.append_ #[t, t] o.type #[v, y]).run P w = .ok v' w')
    (h : wpList P ops Q rest (a.put o.dst v') w') : wpList P ops Q (o :: rest) a w := by
  refine wpList_step fun K hK => ?_
  rw [if_pos hw]
  unfold Oper.wp execOp
  simp only [ho, resolve, invoke, builtin, Sem.run_bind, Sem.run_pure, Result.andThen_ok, List.map_toArray, List.map_cons, List.map_nil, hs, hx, hrun]
  exact hK _ _ h
/-- the list of wanted tokens takes one more -/
theorem TokO.appE {w W : World} {B : Nat} {bs : List Bo} {old new : World → Prop} {v : Value} {ps : List (Tk × RV)} (h : TokO w B v ps) (he : Env w bs old new W) (hB : B ≤ w.heap.size) (k : Tk) (r : RV) (hr : ∀ V, new V → RatN r k.x V) (hl : ps.length + 1 ≤ 1000000) :
    ∃ v' w', (Builtin.append_ #[22, 22] 22 #[v, .slice (some ⟨W.heap.size, 0, none⟩) 1 1]).run Tryz.prog (W.alloc (.cells (tcells k r) 33)) = .ok v' w' ∧ TokO w' B v' (ps ++ [(k, r)]) ∧ Below B W w' ∧ Rests w' (B ≤ ·) new := by
  have hW := he.bel.size
  obtain ⟨v', w', hrun, ho, hb, -, -, hk⟩ := (h.below he.bel).app k r ((he.rsn.imp hr).mono fun n hn => ⟨Nat.le_trans hB hn.1, fun e => by have := (h.own.lt n e.symm).2; have := hn.1; omega⟩) hl (Nat.le_trans hB hW)
  exact ⟨v', w', hrun, ho, hb, (hk _ (he.rsn.mono fun n hn => ⟨Nat.le_trans hB hn.1, fun e => by have := (h.own.lt n e.symm).2; have := hn.1; omega⟩)).mono fun n hn => hn.1⟩
set_option maxRecDepth 100000 in
set_option maxHeartbeats 8000000 in
theorem tokensBack_any (w : World) (A : Option Addr) (c0 : Nat) (l : List TiV) (hl : LT A l w) (_hln : l.length ≤ 9223372036854775807) (hok : ∀ p ∈ l, p.Ok) (A2 : Option Addr) (c2 : Nat) (zs : List Int) (hz : LW A2 zs w) (_hzn : zs.length ≤ 9223372036854775807) (hzb : ∀ z ∈ zs, -9223372036854775808 ≤ z ∧ z ≤ 9223372036854775807) (hT : Tz w) (ht : Tab w) :
    Calls Tryz.prog 3 #[.slice A l.length c0, .slice A2 zs.length c2] w fun e w' => e = .returned (.bool true) ∧ Below w.heap.size w w' := by
  have HL := Lib.hid ((hl.old.and (hz.old.and (hT.old.and ht.old))))
  have Hok := Lib.hid hok
  have Hzb := Lib.hid hzb
  have HT := Lib.hid hT
  have sl1 := hl.sl
  have sl2 := hz.sl
  have hsz1 := size_tok
  have hadd := adr_add
  have Hbel := Lib.hid (Below.refl w.heap.size w)
  have HW := Lib.hid (TokO.nil_ w w.heap.size)
  clear hl hz hT ht hok hzb
  go_enter Tryz.func3, Tryz.ntmps3
  go_wp2_with fail
  go_loopw [5, 6, 7, 8] (fun tv lv wv iv wr => ∃ (T : ByteArray) (ln i : Nat) (v : Value) (ps : List (Tk × RV)), tv = .string T ∧ lv = .int .i64 ln ∧ v = wv ∧ iv = .int .i64 i ∧ i ≤ l.length ∧ i ≤ 60 ∧ ln ≤ 1 + 3 * i ∧ T.size ≤ 500 * i ∧ ps.length ≤ i ∧ Hid (∃ L, BkI L T ln i (ps.map Prod.fst)) ∧ Hid (TokO wr w.heap.size v ps) ∧ Hid (Below w.heap.size w wr)) (fun _ _ _ iv _ => 60 - (intOf iv).toNat)
  case atStart => exact ⟨⟨#[]⟩, 1, 0, _, [], rfl, rfl, rfl, rfl, Nat.zero_le _, by omega, by omega, by decide, Nat.le_refl _, Lib.hid ⟨[], BkI.start⟩, HW, Hbel⟩
  case round =>
    clear HW Hbel
    obtain ⟨T, ln, i, v, ps, rfl, rfl, rfl, rfl, hi, hi6, hlnb, hTs, hps, HI, HW, Hbel⟩ := hrel
    have HE := Lib.hid (Env.start ((HL.out.below Hbel.out).now |> fun h => h.1.old.and (h.2.1.old.and (h.2.2.1.old.and h.2.2.2.old))))
    have HB := Lib.hid Hbel.out.size
    by_cases h1 : i < l.length
    · by_cases h2 : i < 60
      · obtain ⟨x0, x1, x2, x3, x4, x5, x6⟩ := HE.out.o.1.cells i h1
        have Hx := Lib.hid (fun (V : World) (h : LT A l V) => h.cells i h1)
        have Hm := Lib.hid (List.getElem_mem h1)
        obtain ⟨p, hp⟩ : ∃ p, p = l[i] := ⟨_, rfl⟩
        rw [← hp] at x0 x1 x2 x3 x4 x5 x6 Hx Hm
        clear hp
        have Hp := Lib.hid (Hok.out p Hm.out)
        go_wp2_with fail
        refine (written_any _ p.k p.s Hp.out.s p.r p.q p.ln 1048576 (by decide) (by decide) (HE.out.o.1.rat Hm.out Hp.out.x Hp.out.y) HE.out.o.2.2.1 HE.out.o.2.2.2).mono ?_
        rintro e w2 ⟨⟨S, ok, rfl, hok⟩, hb⟩
        replace HE := Lib.hid (Env.call HE.out hb)
        clear hb x0 x1 x2 x3 x4 x5 x6
        cases ok
        · clear hok
          go_wp2_with fail
          go_roundw
          case rel => exact ⟨T, ln, i + 1, _, ps, rfl, rfl, rfl, by go_num, by omega, by omega, by omega, by omega, by omega, Lib.hid (HI.out.imp fun _ h => h.skip), Lib.hid (HW.out.below HE.out.bel), Lib.hid (Below.after Hbel.out HE.out.bel)⟩
          case measure => (simp [intOf] <;> omega)
        · have HS := Lib.hid (hok rfl)
          clear hok
          go_upto_if 39 with fail
          go_cut [11] from 16 to 80 (fun mv wx => ∃ m : Nat, mv = .int .i64 m ∧ m < 5 ∧ Hid (Env wr [] (fun V => LT A l V ∧ LW A2 zs V ∧ Tz V ∧ Tab V) (fun V => True) wx))
          case first =>
            by_cases h3 : i < zs.length
            · have y := HE.out.o.2.1.cell i h3
              have hzz := Hzb.out _ (List.getElem_mem h3)
              generalize zs[i] = z at *
              go_wp2_with fail
              refine (pick5_any _ z hzz.1 hzz.2).mono ?_
              rintro e w3 ⟨⟨m, rfl, hm⟩, hb⟩
              replace HE := Lib.hid (Env.call HE.out hb)
              clear hb y hzz
              go_wp2_with fail
              go_meet
              case rel => exact ⟨m, rfl, hm, HE⟩
            · go_wp2_with fail
              go_meet
              case rel => exact ⟨0, rfl, by decide, HE⟩
          case rest =>
            clear HE
            obtain ⟨m, rfl, hm, HE⟩ := hcut
            go_upto_region 12 with fail
            obtain ⟨W4, g4, hW4, hg4, HE⟩ := Env.al HE.out 9 #[.string ⟨#[32]⟩, .string ⟨#[10]⟩, .string ⟨#[9, 13, 32]⟩, .string ⟨#[35, 32, 123, 32, 49, 47, 48, 32, 65, 10]⟩, .string ⟨#[10, 10, 35, 10]⟩]
            rw [hW4, hg4]
            clear hW4 hg4
            have c := (Env.c1 HE.out).1 m
            rw [sep_get m hm] at c
            obtain ⟨X, hX⟩ : ∃ X, X = sepB m := ⟨_, rfl⟩
            rw [← hX] at c
            have hXs : X.size ≤ 10 := by rw [hX]; exact sepB_size m
            obtain ⟨cnt, hcnt⟩ : ∃ cnt, cnt = X.data.toList.count 10 := ⟨_, rfl⟩
            have hcb : cnt ≤ 3 := by rw [hcnt, hX]; exact sepB_count m
            have HXm := Lib.hid hX
            have Hcnt := Lib.hid hcnt
            have hq : Hid (p.k = 3 → Sz p.q 10) := Lib.hid (fun h3 => by
              rcases HS.out with h | h | h
              · have := h.1; omega
              · have := h.1; omega
              · exact (HE.out.o.1.rat Hm.out h.2.2.1 h.2.2.2).sz (by decide))
            have hSs := HS.out.size hq.out
            have hc1 := fun (V : World) => run_string_add_sum (P := Tryz.prog) V T X (by omega)
            have hc2 := fun (V : World) => run_string_add_sum (P := Tryz.prog) V (T ++ X) S (by rw [ByteArray.size_append]; omega)
            have KC := Lib.hid (fun V => show Calls Tryz.prog 7 #[.string X, .string ⟨#[10]⟩] V fun e w' => e = .returned (.int .i64 (cnt : Nat)) ∧ w' = V from by rw [hcnt]; exact Tryz.strings_Count_one X 10 V)
            obtain ⟨Ln, hLn⟩ : ∃ Ln, Ln = ln + cnt := ⟨_, rfl⟩
            have hadd1 : (ln : Int) + (cnt : Int) = (Ln : Int) := by omega
            have HLn := Lib.hid hLn
            clear hX hcnt hLn
            go_wp2_with fail
            refine (KC.out _).mono ?_
            rintro e wk ⟨rfl, hw⟩
            clear KC
            subst hw
            clear c hc1 hc2
            obtain ⟨x0, x1, x2, x3, x4, x5, x6⟩ := Hx.out _ HE.out.o.1
            go_upto_region 16 with fail
            obtain ⟨W6, g13, hW6, hg13, HE⟩ := Env.al HE.out 33 #[.int .u8 (p.k : Nat), .string p.s, .bool p.r.num.neg, .slice p.r.num.A p.r.num.k p.r.num.c, .bool p.r.den.neg, .slice p.r.den.A p.r.den.k p.r.den.c, .int .i64 (Ln : Nat)]
            rw [hW6, hg13]
            clear hW6 hg13 x0 x1 x2 x3 x4 x5 x6
            have c := (Env.c2 HE.out).1
            by_cases hk : p.k = 3
            · have t3 : ((p.k : Int) == 3) = true := by rw [hk]; rfl
              have HN0 : Hid (∀ rk : RV, ∃ L, BkI L (T ++ X ++ S) Ln (i + 1) ((ps ++ [((⟨3, [], p.q, Ln⟩ : Tk), rk)]).map Prod.fst)) := Lib.hid (fun rk => by obtain ⟨L, hI⟩ := HI.out; have h := hI.step m p.k p.s p.r p.q HS.out hq.out; rw [← HXm.out, ← Hcnt.out, ← HLn.out] at h; unfold tkB at h; rw [if_pos hk] at h; rw [List.map_append]; exact h)
              have hS3 : p.r.num.k ≤ 10 ∧ p.r.den.k ≤ 10 := by
                rcases HS.out with h | h | h
                · have := h.1; omega
                · have := h.1; omega
                · exact h.2.2
              go_wp2_with fail
              refine (rnorm_any _ p.r p.q 10 (by decide) (by decide) (HE.out.o.1.rat Hm.out hS3.1 hS3.2) HE.out.o.2.2.1).mono ?_
              rintro e w7 ⟨rk, rfl, hk7, hb⟩
              replace HE := Lib.hid (Env.ret HE.out hk7 hb)
              replace c := (Env.c2 HE.out).1
              clear hk7 hb
              have HN := Lib.hid (HN0.out rk)
              clear HN0
              go_upto_region 19 with fail
              obtain ⟨W8, hW8, HE⟩ := Env.stSX HE.out (.string ⟨#[]⟩) (.bool rk.num.neg) (.slice rk.num.A rk.num.k rk.num.c) (.bool rk.den.neg) (.slice rk.den.A rk.den.k rk.den.c)
              rw [hW8]
              clear hW8
              replace c := (Env.c2 HE.out).1
              rw [hk] at c
              obtain ⟨v', w8, hrun, ho, hb, -⟩ := HW.out.appE HE.out HB.out (⟨3, [], p.q, Ln⟩ : Tk) rk (fun _ h => h.1) (by omega)
              rw [show tcells (⟨3, [], p.q, Ln⟩ : Tk) rk = #[.int .u8 3, .string ⟨#[]⟩, .bool rk.num.neg, .slice rk.num.A rk.num.k rk.num.c, .bool rk.den.neg, .slice rk.den.A rk.den.k rk.den.c, .int .i64 (Ln : Nat)] from rfl] at hrun
              have Hrun := Lib.hid hrun
              have HW2 := Lib.hid ho
              have Hb2 := Lib.hid ((Below.after Hbel.out HE.out.bel).trans hb)
              clear hrun ho hb HW Hbel HE
              go_wp2_with (at_builtin; refine wpList_append_eq rfl (.tmp 77) (.tmp 79) 22 _ _ _ rfl rfl rfl Hrun.out ?_)
              clear Hrun c
              go_wp2_with fail
              go_roundw
              case rel => exact ⟨T ++ X ++ S, Ln, i + 1, v', ps ++ [((⟨3, [], p.q, Ln⟩ : Tk), rk)], rfl, rfl, rfl, by go_num, by omega, by omega, by omega, by rw [ByteArray.size_append, ByteArray.size_append]; omega, by simp; omega, HN, HW2, Hb2⟩
              case measure => (simp [intOf] <;> omega)
            · have t3 : ((p.k : Int) == 3) = false := by simp; omega
              have HN : Hid (∃ L, BkI L (T ++ X ++ S) Ln (i + 1) ((ps ++ [((⟨p.k, p.s.data.toList, 0, Ln⟩ : Tk), zeroR)]).map Prod.fst)) := Lib.hid (by obtain ⟨L, hI⟩ := HI.out; have h := hI.step m p.k p.s p.r p.q HS.out hq.out; rw [← HXm.out, ← Hcnt.out, ← HLn.out] at h; unfold tkB at h; rw [if_neg hk] at h; rw [List.map_append]; exact h)
              go_upto_region 19 with fail
              obtain ⟨W8, hW8, HE⟩ := Env.stX HE.out (.bool false) (.slice none 0 0) (.bool false) (.slice none 0 0)
              rw [hW8]
              clear hW8
              replace c := (Env.c2 HE.out).1
              obtain ⟨v', w8, hrun, ho, hb, -⟩ := HW.out.appE HE.out HB.out (⟨p.k, p.s.data.toList, 0, Ln⟩ : Tk) zeroR (fun _ _ => zeroRN _) (by omega)
              rw [show tcells (⟨p.k, p.s.data.toList, 0, Ln⟩ : Tk) zeroR = #[.int .u8 (p.k : Int), .string p.s, .bool false, .slice none 0 0, .bool false, .slice none 0 0, .int .i64 (Ln : Nat)] from by unfold tcells; rw [str_back]; rfl] at hrun
              have Hrun := Lib.hid hrun
              have HW2 := Lib.hid ho
              have Hb2 := Lib.hid ((Below.after Hbel.out HE.out.bel).trans hb)
              clear hrun ho hb HW Hbel HE
              go_wp2_with (at_builtin; refine wpList_append_eq rfl (.tmp 77) (.tmp 79) 22 _ _ _ rfl rfl rfl Hrun.out ?_)
              clear Hrun c
              go_wp2_with fail
              go_roundw
              case rel => exact ⟨T ++ X ++ S, Ln, i + 1, v', ps ++ [((⟨p.k, p.s.data.toList, 0, Ln⟩ : Tk), zeroR)], rfl, rfl, rfl, by go_num, by omega, by omega, by omega, by rw [ByteArray.size_append, ByteArray.size_append]; omega, by simp; omega, HN, HW2, Hb2⟩
              case measure => (simp [intOf] <;> omega)
      · have t2 : ¬ (i : Int) < 60 := by omega
        have HX := Lib.hid (HI.out.choose_spec.end_ hi6)
        have Hsz := Lib.hid HI.out.choose_spec.sz
        clear HI sl1 sl2
        go_wp2_with fail
        refine (tokens_ok T _ _ (by omega) HE.out.o.2.2.1 HX.out).mono ?_
        rintro e w2 ⟨AR, cR, rs, rfl, hrs, hr, hcr, hb⟩
        replace HE := Lib.hid (Env.ret HE.out hr hb)
        have Hrs := Lib.hid hrs
        clear hb hr hrs HX
        go_upto_region 21 with fail
        obtain ⟨W3, g15, hW3, hg15, HE⟩ := Env.al HE.out 40 #[.int .i64 0, .int .i64 0]
        rw [hW3, hg15]
        clear hW3 hg15
        have c := Env.c1 HE.out
        obtain ⟨v', w4, hrun, ho, hb, hnew⟩ := HW.out.appE HE.out HB.out ⟨1, [], 0, ln⟩ zeroR (fun _ _ => zeroRN _) (by omega)
        rw [show tcells ⟨1, [], 0, ln⟩ zeroR = #[.int .u8 1, .string ⟨#[]⟩, .bool false, .slice none 0 0, .bool false, .slice none 0 0, .int .i64 (ln : Nat)] from rfl] at hrun
        obtain ⟨AY, cY, hv, -, hry⟩ := ho.read
        obtain ⟨ny, hny⟩ : ∃ ny, (ps ++ [((⟨1, [], 0, ln⟩ : Tk), zeroR)]).length = ny := ⟨_, rfl⟩
        have hnb : ny ≤ 1000000 := by rw [← hny]; simp; omega
        rw [hny] at hv
        subst hv
        have Hny := Lib.hid hny
        clear hny
        have Hrun := Lib.hid hrun
        replace Hbel := Lib.hid ((Below.after Hbel.out HE.out.bel).trans hb)
        have HR := Lib.hid hnew.now.1
        have HY := Lib.hid hry
        clear hrun ho hb hnew hry HW HE
        have HEq := Lib.hid (show rs.map Prod.fst = (ps ++ [((⟨1, [], 0, ln⟩ : Tk), zeroR)]).map Prod.fst by rw [Hrs.out, List.map_append]; rfl)
        have Hs2 : Hid (∀ p ∈ rs, Sz p.1.x 100) := Lib.hid (fun p hp => by
          have h1 := List.mem_map_of_mem (f := Prod.fst) hp
          rw [Hrs.out] at h1
          rcases List.mem_append.1 h1 with h1 | h1
          · exact Hsz.out _ h1
          · rw [List.mem_singleton.1 h1]; exact sz_zero.up (by decide))
        go_wp2_with (at_builtin; refine wpList_append_g rfl (.tmp 91) (.tmp 94) 22 _ _ _ rfl rfl rfl Hrun.out ?_)
        clear Hrun c
        go_wp2_with fail
        refine (sameTok_true _ AR AY cR cY ny rs _ HR.out HY.out HEq.out Hs2.out Hny.out hnb).mono ?_
        rintro e w5 ⟨rfl, hb⟩
        replace Hbel := Lib.hid (Below.after Hbel.out hb)
        clear hb
        go_wp2_with fail
        refine (awake_tok _ (tz_after HT.out Hbel.out)).mono ?_
        rintro e w9 ⟨rfl, hb⟩
        replace Hbel := Lib.hid (Below.after Hbel.out hb)
        clear hb
        go_wp2_with fail
        go_ret
        exact ⟨rfl, Hbel.out⟩
    · have t1 : ¬ (i : Int) < (l.length : Int) := by omega
      have HX := Lib.hid (HI.out.choose_spec.end_ hi6)
      have Hsz := Lib.hid HI.out.choose_spec.sz
      clear HI sl1 sl2
      go_wp2_with fail
      refine (tokens_ok T _ _ (by omega) HE.out.o.2.2.1 HX.out).mono ?_
      rintro e w2 ⟨AR, cR, rs, rfl, hrs, hr, hcr, hb⟩
      replace HE := Lib.hid (Env.ret HE.out hr hb)
      have Hrs := Lib.hid hrs
      clear hb hr hrs HX
      go_upto_region 21 with fail
      obtain ⟨W3, g15, hW3, hg15, HE⟩ := Env.al HE.out 40 #[.int .i64 0, .int .i64 0]
      rw [hW3, hg15]
      clear hW3 hg15
      have c := Env.c1 HE.out
      obtain ⟨v', w4, hrun, ho, hb, hnew⟩ := HW.out.appE HE.out HB.out ⟨1, [], 0, ln⟩ zeroR (fun _ _ => zeroRN _) (by omega)
      rw [show tcells ⟨1, [], 0, ln⟩ zeroR = #[.int .u8 1, .string ⟨#[]⟩, .bool false, .slice none 0 0, .bool false, .slice none 0 0, .int .i64 (ln : Nat)] from rfl] at hrun
      obtain ⟨AY, cY, hv, -, hry⟩ := ho.read
      obtain ⟨ny, hny⟩ : ∃ ny, (ps ++ [((⟨1, [], 0, ln⟩ : Tk), zeroR)]).length = ny := ⟨_, rfl⟩
      have hnb : ny ≤ 1000000 := by rw [← hny]; simp; omega
      rw [hny] at hv
      subst hv
      have Hny := Lib.hid hny
      clear hny
      have Hrun := Lib.hid hrun
      replace Hbel := Lib.hid ((Below.after Hbel.out HE.out.bel).trans hb)
      have HR := Lib.hid hnew.now.1
      have HY := Lib.hid hry
      clear hrun ho hb hnew hry HW HE
      have HEq := Lib.hid (show rs.map Prod.fst = (ps ++ [((⟨1, [], 0, ln⟩ : Tk), zeroR)]).map Prod.fst by rw [Hrs.out, List.map_append]; rfl)
      have Hs2 : Hid (∀ p ∈ rs, Sz p.1.x 100) := Lib.hid (fun p hp => by
        have h1 := List.mem_map_of_mem (f := Prod.fst) hp
        rw [Hrs.out] at h1
        rcases List.mem_append.1 h1 with h1 | h1
        · exact Hsz.out _ h1
        · rw [List.mem_singleton.1 h1]; exact sz_zero.up (by decide))
      go_wp2_with (at_builtin; refine wpList_append_g rfl (.tmp 91) (.tmp 94) 22 _ _ _ rfl rfl rfl Hrun.out ?_)
      clear Hrun c
      go_wp2_with fail
      refine (sameTok_true _ AR AY cR cY ny rs _ HR.out HY.out HEq.out Hs2.out Hny.out hnb).mono ?_
      rintro e w5 ⟨rfl, hb⟩
      replace Hbel := Lib.hid (Below.after Hbel.out hb)
      clear hb
      go_wp2_with fail
      refine (awake_tok _ (tz_after HT.out Hbel.out)).mono ?_
      rintro e w9 ⟨rfl, hb⟩
      replace Hbel := Lib.hid (Below.after Hbel.out hb)
      clear hb
      go_wp2_with fail
      go_ret
      exact ⟨rfl, Hbel.out⟩
end Go.Proofs.YtcinoicpibleoaaGreatDoor
namespace Go.Proofs.YtcinoicpibleoaaGreatDoor
open Go.ChangeShapes Go.WideShapes Go.ChangeAt Go.RowKit Go.Deep

theorem bulk_pos {H : Type} (d : DataW H) : 1 ≤ Rows.uptoBulk d := by
  cases d with
  | lit l => cases l <;> simp [Rows.uptoBulk]
  | nil => simp [Rows.uptoBulk]
  | ptr d => simp [Rows.uptoBulk]
  | slice elems spare => simp [Rows.uptoBulk]
  | agg parts => simp [Rows.uptoBulk]
  | iface t d => simp [Rows.uptoBulk]
  | map entries => simp [Rows.uptoBulk]
  | held h => simp [Rows.uptoBulk]
theorem bulk_part {H : Type} {d : DataW H} {l : List (DataW H)} (h : d ∈ l) : Rows.uptoBulk d ≤ Rows.uptoBulkAll l := by
  induction l with
  | nil => cases h
  | cons x r ih =>
    simp only [Rows.uptoBulkAll]
    rcases List.mem_cons.1 h with rfl | e
    · omega
    · have := ih e; omega
theorem bulk_len {H : Type} (l : List (DataW H)) : l.length ≤ Rows.uptoBulkAll l := by
  induction l with
  | nil => simp [Rows.uptoBulkAll]
  | cons x r ih => have := bulk_pos x; simp only [Rows.uptoBulkAll, List.length_cons]; omega
theorem bulk_agg {H : Type} {d : DataW H} {l : List (DataW H)} (h : d ∈ l) : Rows.uptoBulk d ≤ Rows.uptoBulk (.agg l) := by
  have := bulk_part h
  simp only [Rows.uptoBulk]; omega
theorem bulk_elem {H : Type} {d : DataW H} {l r : List (DataW H)} (h : d ∈ l) : Rows.uptoBulk d ≤ Rows.uptoBulk (.slice l r) := by
  have := bulk_part h
  simp only [Rows.uptoBulk]; omega
theorem bulk_all {H : Type} {l : List (DataW H)} (hk : Rows.uptoSmall H l = true) : Rows.uptoBulkAll l ≤ 1048576 := of_decide_eq_true hk

section
variable {H : Type} {enc : TypeId × Value → H} {w : World} {b : Nat} {sp : Nat → Bool} {hd : Bool}
/-- a slice of things of k cells each, read -/
theorem slice_els {α : Type} [Inhabited α] {t e : TypeId} {k : Nat} {cells : α → Array Value} {φ : α → Prop} {ψ : α → DataW H → Prop} (ht : Tryz.prog.underlying t = some (.slice e)) (hc : Tryz.prog.cellsOf e = k) (hk : 0 < k)
    (hq : ∀ n cs y, DataW.trod enc Tryz.prog w b sp hd n e cs = some y → ∃ x, cs = (cells x).toList ∧ φ x ∧ ψ x y.1) {v : Value} {n : Nat} {y : DataW H × List MemPlace} (h : DataW.trod enc Tryz.prog w b sp hd n t [v] = some y) :
    ∃ A c l, v = .slice A (List.length l) c ∧ l.length ≤ c ∧ c ≤ maxLen ∧ El w k A (l.map cells) ∧ l.length ≤ Rows.uptoBulk y.1 ∧ ∀ x ∈ l, φ x ∧ ∃ D, ψ x D ∧ Rows.uptoBulk D ≤ Rows.uptoBulk y.1 := by
  subst hc
  rcases open_slice ht h with ⟨h1, -⟩ | ⟨a, len, cap, m, n, D, Pl, h1, -, hl, hm, hmm, hy, hx⟩
  · exact ⟨none, 0, [], by simpa using h1, by simp, by simp, El.nil_ _ _ _, by simp, by simp⟩
  · have hlm : len ≤ m := by rw [hmm]; split <;> omega
    obtain ⟨f, hf⟩ := choose_lt (n := len) (p := fun i x => w.cells? b (a.add (i * Tryz.prog.cellsOf e)) (Tryz.prog.cellsOf e) = some (cells x).toList ∧ φ x ∧ ψ x (D i)) fun i hi => by
      obtain ⟨cs, h2, h3⟩ := hx i (by omega)
      obtain ⟨x, rfl, h4, h5⟩ := hq _ _ _ h3
      exact ⟨x, h2, h4, h5⟩
    have hce : ∀ i, i < len → (cells (f i)).size = Tryz.prog.cellsOf e ∧ ∀ j, j < Tryz.prog.cellsOf e → w.cell? ((a.add (i * Tryz.prog.cellsOf e)).add j) = (cells (f i))[j]? := fun i hi => by
      obtain ⟨-, h2, h3⟩ := World.cells?_some (hf i hi).1
      exact ⟨by simpa using h2, fun j hj => by simpa using h3 j hj⟩
    have hsp : 0 < len → a.spot = none := fun h0 => by
      obtain ⟨h2, h3⟩ := hce 0 h0
      have h4 := h3 0 hk
      have h5 : 0 < (cells (f 0)).size := by omega
      rw [Array.getElem?_eq_getElem h5] at h4
      have := spot_of h4
      simpa [Addr.add] using this
    have hbk : ∀ i, i < len → Rows.uptoBulk (D i) ≤ Rows.uptoBulk y.1 := fun i hi => by
      rw [hy]
      exact bulk_elem (List.mem_map.2 ⟨i, by simpa using hi, rfl⟩)
    refine ⟨some a, cap, (List.range len).map f, by simpa using h1, by simpa using hl, hm, ⟨?_, ?_, ?_⟩, ?_, ?_⟩
    · intro h0
      have h0' : 0 < len := by simpa using h0
      obtain ⟨ab, ao, asp⟩ := a
      have : asp = none := hsp h0'
      exact ⟨ab, ao, by rw [this]⟩
    · intro i hi
      have hi' : i < len := by simpa using hi
      simpa using (hce i hi').1
    · intro i hi j hj
      have hi' : i < len := by simpa using hi
      have hc := (hce i hi').2 j hj
      have hs := hsp (by omega)
      obtain ⟨ab, ao, asp⟩ := a
      have e : asp = none := hs
      subst e
      rw [add_one_cell, add_one_cell, Nat.add_assoc] at hc
      rw [adr_some, hc]
      simp
    · rw [hy]
      simp only [Rows.uptoBulk]
      have := bulk_len ((List.range len).map D)
      simp at this ⊢
      omega
    · intro x hx'
      obtain ⟨i, hi, rfl⟩ := List.mem_map.1 hx'
      have hi' : i < len := by simpa using hi
      exact ⟨(hf i hi').2.1, _, (hf i hi').2.2, hbk i hi'⟩
theorem words_bulk {n : Nat} {A : Option Addr} {k c : Nat} {y : DataW H × List MemPlace} (h : DataW.trod enc Tryz.prog w b sp hd n 27 [.slice A k c] = some y) : k ≤ Rows.uptoBulk y.1 := by
  rcases open_slice1 Tryz.underlying27 cellsU64 h with ⟨h1, -⟩ | ⟨a, len, cap, m, n, V, D, Pl, h1, -, hl, hm, hmm, hy, hx⟩
  · have : k = 0 := by simpa using (by simpa using h1 : A = none ∧ k = 0 ∧ c = 0).2.1
    omega
  · have e : A = some a ∧ k = len ∧ c = cap := by simpa using h1
    rw [hy, e.2.1]
    simp only [Rows.uptoBulk]
    have := bulk_len ((List.range len).map D)
    simp at this ⊢
    omega
/-- two cells that read as an Int, and how long they may be -/
theorem int_cells_b {n : Nat} {v0 v1 : Value} {y : DataW H × List MemPlace} (h : DataW.trod enc Tryz.prog w b sp hd n 29 [v0, v1] = some y) :
    ∃ i : IV, v0 = .bool i.neg ∧ v1 = .slice i.A i.k i.c ∧ (∃ z, IntD i z i.k w) ∧ i.k ≤ Rows.uptoBulk y.1 := by
  obtain ⟨i, rfl, rfl, hz⟩ := int_cells h
  obtain ⟨y0, y1, m, hy, -, h0, h1⟩ := trod_struct2 Tryz.underlying29 h
  have k1 : DataW.trod enc Tryz.prog w b sp hd m 27 [.slice i.A i.k i.c] = some y1 := by simpa [cellsWords] using h1
  refine ⟨i, rfl, rfl, hz, Nat.le_trans (words_bulk k1) ?_⟩
  rw [hy]
  exact bulk_agg (by simp)
/-- four cells that read as a Rat -/
theorem rat_cells {n : Nat} {v0 v1 v2 v3 : Value} {y : DataW H × List MemPlace} (h : DataW.trod enc Tryz.prog w b sp hd n 31 [v0, v1, v2, v3] = some y) :
    ∃ r : RV, v0 = .bool r.num.neg ∧ v1 = .slice r.num.A r.num.k r.num.c ∧ v2 = .bool r.den.neg ∧ v3 = .slice r.den.A r.den.k r.den.c ∧ (∃ x, IntD r.num x r.num.k w) ∧ (∃ x, IntD r.den x r.den.k w) ∧ r.num.k ≤ Rows.uptoBulk y.1 ∧ r.den.k ≤ Rows.uptoBulk y.1 := by
  obtain ⟨y0, y1, m, hy, -, h0, h1⟩ := trod_struct2 Tryz.underlying31 h
  have k0 : DataW.trod enc Tryz.prog w b sp hd m 29 [v0, v1] = some y0 := by simpa [cellsInt] using h0
  have k1 : DataW.trod enc Tryz.prog w b sp hd m 29 [v2, v3] = some y1 := by simpa [cellsInt] using h1
  obtain ⟨i, rfl, rfl, hx, hb⟩ := int_cells_b k0
  obtain ⟨j, rfl, rfl, hy', hb'⟩ := int_cells_b k1
  refine ⟨⟨i, j⟩, rfl, rfl, rfl, rfl, hx, hy', Nat.le_trans hb ?_, Nat.le_trans hb' ?_⟩
  · rw [hy]; exact bulk_agg (by simp)
  · rw [hy]; exact bulk_agg (by simp)
end
end Go.Proofs.YtcinoicpibleoaaGreatDoor
namespace Go.Proofs.YtcinoicpibleoaaGreatDoor
open Go.ChangeShapes Go.WideShapes Go.ChangeAt Go.RowKit Go.Deep

instance : Inhabited TiV := ⟨⟨0, ⟨#[]⟩, zeroR, 0, 0, 0⟩⟩
theorem cellsTok : Tryz.prog.cellsOf 33 = 7 := by kernel_rfl
theorem cellsI64 : Tryz.prog.cellsOf 3 = 1 := by kernel_rfl
theorem cellsStr : Tryz.prog.cellsOf 9 = 1 := by kernel_rfl
theorem cellsKind : Tryz.prog.cellsOf 26 = 1 := by kernel_rfl
theorem list7 {α : Type} {l : List α} (h : l.length = 7) : ∃ a b c d e f g, l = [a, b, c, d, e, f, g] := by
  match l, h with
  | [a, b, c, d, e, f, g], _ => exact ⟨a, b, c, d, e, f, g, rfl⟩
/-- how a token that came in may be -/
structure TiB (p : TiV) (B : Nat) : Prop where
  s : p.s.size ≤ maxLen
  x : p.r.num.k ≤ B
  y : p.r.den.k ≤ B
theorem TiB.ok {p : TiV} {B : Nat} (h : TiB p B) (hB : B ≤ 1048576) : p.Ok := ⟨by have := h.s; simp only [maxLen] at this; omega, Nat.le_trans h.x hB, Nat.le_trans h.y hB⟩
section
variable {H : Type} {enc : TypeId × Value → H} {w : World} {b : Nat} {sp : Nat → Bool} {hd : Bool}
theorem tok_cells {n : Nat} {cs : List Value} {y : DataW H × List MemPlace} (h : DataW.trod enc Tryz.prog w b sp hd n 33 cs = some y) :
    ∃ p : TiV, cs = (icells p).toList ∧ ((IntD p.r.num p.x p.r.num.k w ∧ IntD p.r.den p.y p.r.den.k w) ∧ p.s.size ≤ maxLen) ∧ (p.r.num.k ≤ Rows.uptoBulk y.1 ∧ p.r.den.k ≤ Rows.uptoBulk y.1) := by
  obtain ⟨y0, y1, y2, y3, m, hy, hl, h0, h1, h2, h3⟩ := Joins.trod_struct4 Tryz.underlying33 h
  rw [cellsTok] at hl
  obtain ⟨c0, c1, c2, c3, c4, c5, c6, rfl⟩ := list7 hl
  have k0 : DataW.trod enc Tryz.prog w b sp hd m 26 [c0] = some y0 := by simpa [cellsKind] using h0
  have k1 : DataW.trod enc Tryz.prog w b sp hd m 9 [c1] = some y1 := by simpa [cellsStr] using h1
  have k2 : DataW.trod enc Tryz.prog w b sp hd m 31 [c2, c3, c4, c5] = some y2 := by simpa [cellsRat] using h2
  have k3 : DataW.trod enc Tryz.prog w b sp hd m 3 [c6] = some y3 := by simpa [cellsI64] using h3
  obtain ⟨z0, e0, -, hw⟩ := DataW.trod_int Tryz.underlying26 k0
  obtain ⟨s, e1, -, hs⟩ := DataW.trod_string Tryz.underlying9 k1
  obtain ⟨z3, e3, -, -⟩ := DataW.trod_int Tryz.underlying3 k3
  obtain ⟨r, rfl, rfl, rfl, rfl, ⟨x, hx⟩, ⟨y', hy'⟩, hb, hb'⟩ := rat_cells k2
  have hz : 0 ≤ z0 := (bounds_u8 hw).1
  obtain rfl : c0 = .int .u8 z0 := by simpa using e0
  obtain rfl : c1 = .string s := by simpa using e1
  obtain rfl : c6 = .int .i64 z3 := by simpa using e3
  have hbb : Rows.uptoBulk y2.1 ≤ Rows.uptoBulk y.1 := by rw [hy]; exact bulk_agg (by simp)
  refine ⟨⟨z0.toNat, s, r, x, y', z3⟩, ?_, ⟨⟨hx, hy'⟩, hs⟩, Nat.le_trans hb hbb, Nat.le_trans hb' hbb⟩
  simp [icells, Int.toNat_of_nonneg hz]
set_option maxRecDepth 100000 in
theorem toks_arg {b0 : Nat} {rr : Reach} {v : Value} {d : DataW H} {p : List MemPlace} (hv : Value.okWide Tryz.prog w rr b0 22 v) (h : DataW.Trod enc Tryz.prog w b sp hd 22 v d p) :
    ∃ A c l, v = .slice A (List.length l) c ∧ l.length ≤ 9223372036854775807 ∧ LT A l w ∧ ∀ p ∈ l, TiB p (Rows.uptoBulk d) := by
  obtain ⟨a, len, cap, rfl⟩ := okWide_slice Tryz.underlying22 hv
  obtain ⟨n, hf⟩ := h
  obtain ⟨A, c, l, e, h1, h2, h3, -, h4⟩ := slice_els (cells := icells) (φ := fun p => (IntD p.r.num p.x p.r.num.k w ∧ IntD p.r.den p.y p.r.den.k w) ∧ p.s.size ≤ maxLen) (ψ := fun p D => p.r.num.k ≤ Rows.uptoBulk D ∧ p.r.den.k ≤ Rows.uptoBulk D) Tryz.underlying22 cellsTok (by decide) (fun n cs y h => tok_cells h) hf
  refine ⟨A, c, l, e, by simp only [maxLen] at h2; omega, ⟨h3, fun p hp => (h4 p hp).1.1⟩, fun p hp => ?_⟩
  obtain ⟨⟨-, hs⟩, D, ⟨hx, hy⟩, hD⟩ := h4 p hp
  exact ⟨hs, Nat.le_trans hx hD, Nat.le_trans hy hD⟩
set_option maxRecDepth 100000 in
theorem ints_arg {b0 : Nat} {rr : Reach} {v : Value} {d : DataW H} {p : List MemPlace} (hv : Value.okWide Tryz.prog w rr b0 23 v) (h : DataW.Trod enc Tryz.prog w b sp hd 23 v d p) :
    ∃ A c l, v = .slice A (List.length l) c ∧ l.length ≤ 9223372036854775807 ∧ LW A l w ∧ ∀ z ∈ l, -9223372036854775808 ≤ z ∧ z ≤ 9223372036854775807 := by
  obtain ⟨a, len, cap, rfl⟩ := okWide_slice Tryz.underlying23 hv
  obtain ⟨n, hf⟩ := h
  obtain ⟨A, c, l, e, h1, h2, h3, -, h4⟩ := slice_els (cells := fun z : Int => #[.int .i64 z]) (φ := fun z => -9223372036854775808 ≤ z ∧ z ≤ 9223372036854775807) (ψ := fun _ _ => True) Tryz.underlying23 cellsI64 (by decide) (fun n cs y h => by
    obtain ⟨z, e, -, hw⟩ := DataW.trod_int Tryz.underlying3 h
    have hb := bounds_i64 hw
    exact ⟨z, e, by omega, trivial⟩) hf
  exact ⟨A, c, l, e, by simp only [maxLen] at h2; omega, h3, fun z hz => (h4 z hz).1⟩
end
end Go.Proofs.YtcinoicpibleoaaGreatDoor
namespace Go.Proofs.YtcinoicpibleoaaGreatDoor.tokensBack
open Go.ChangeShapes Go.WideShapes Go.ChangeAt Go.RowKit Go.ChangeMaps

set_option maxRecDepth 100000 in
theorem contract (H : Type) (enc : TypeId × Value → H) (W : World) (base : Nat) (args : Array Value) (ds gs : List (DataW H)) (before : List MemPlace)
    (hval : ∀ (j : Nat) t v, Tryz.f3.params[j]? = some t → args[j]? = some v → Value.okWide Tryz.prog W .any base t v)
    (hW : DataW.Whole enc Tryz.prog Tryz.f3.params.toList Rows.tokensBackSpec.vars false W args.toList ds gs before) (hL : laidMetH Tryz.prog Rows.tokensBackUptoRow.laid W) (hk : Rows.uptoSmall H (ds ++ gs) = true) :
    Calls Tryz.prog 3 args W fun e W' => ∃ v, e = .returned v ∧ Rows.tokensBackSpec.post enc Tryz.prog Tryz.f3 false true false false W args v W' := by
  have hW' := hW
  have hlt := hW.lt
  obtain ⟨p, q, hA, hV, rfl, hfz, hnd⟩ := hW
  obtain ⟨rfl, rfl⟩ := trodVars_none hV
  rw [Tryz.params3] at hA
  obtain ⟨v0, vs0, d0, ds0, p0, q0, hargs, rfl, rfl, h0, t0⟩ := trodAll_cons hA
  obtain ⟨v1, vs1, d1, ds1, p1, q1, rfl, rfl, rfl, h1, t1⟩ := trodAll_cons t0
  obtain ⟨rfl, rfl, rfl⟩ := trodAll_nil t1
  obtain rfl : args = #[v0, v1] := by cases args; simp_all
  obtain ⟨A0, c0, l0, rfl, hn0, hl0, hok0⟩ := toks_arg (hval 0 _ v0 (by rw [Tryz.params3]; rfl) rfl) h0
  obtain ⟨A1, c1, l1, rfl, hn1, hl1, hok1⟩ := ints_arg (hval 1 _ v1 (by rw [Tryz.params3]; rfl) rfl) h1
  have hbk := bulk_all (by simpa only [List.append_nil] using hk)
  refine (tokensBack_any W A0 c0 l0 hl0 hn0 (fun p hp => (hok0 p hp).ok (Nat.le_trans (bulk_part (by simp)) hbk)) A1 c1 l1 hl1 hn1 hok1 (tz_of hL) (tab_of hL)).mono fun e W' ⟨he, hb⟩ => ?_
  subst he
  exact ⟨_, rfl, post_kept hW' rfl rfl rfl hb (by rw [Tryz.params3]; simpa only [List.append_nil] using trodAll_cons_mk (Below.trod laidOut (by kernel_rfl) (of_decide_eq_true (by kernel_rfl)) h0 hb (fun x hx => hlt x (by simp [hx]))) (trodAll_cons_mk (Below.trod laidOut (by kernel_rfl) (of_decide_eq_true (by kernel_rfl)) h1 hb (fun x hx => hlt x (by simp [hx]))) (trodAll_mk0)))⟩

theorem laid_met (os : Os) : laidMet Tryz.prog Rows.tokensBackUptoRow.laid ((laidWorld os).forCall (fun _ _ => 0) ⟨#[], #[.slice none 0 0, .slice none 0 0], []⟩).memory :=
  laidMet_of_run' 8 (by kernel_rfl) (by kernel_rfl)
theorem reads (os : Os) {H : Type} (enc : TypeId × Value → H) : ∃ places, DataW.whole enc Tryz.prog ((laidWorld os).forCall (fun _ _ => 0) ⟨#[], #[.slice none 0 0, .slice none 0 0], []⟩).memory Tryz.f3.params.toList Rows.tokensBackSpec.vars false (#[.slice none 0 0, .slice none 0 0] : Array Value).toList 8 = some ([.nil, .nil], [], places) :=
  ⟨[], by kernel_rfl⟩

set_option maxRecDepth 100000 in
theorem lifted (os : Os) (started : os.Started) (H : Type) (enc : TypeId × Value → H) (F : Stop.Interp) :
    ReturnsInHanded {} Tryz.checked os 3 .any ((Rows.OpenSpec.upto Rows.tokensBackSpec).preRow enc Tryz.prog Tryz.f3 Rows.tokensBackUptoRow.domain false Rows.tokensBackUptoRow.laid) (((Rows.OpenSpec.upto Rows.tokensBackSpec).at F).post enc Tryz.prog Tryz.f3 false true false false) := by
  obtain ⟨places, hx⟩ := reads os enc
  refine returnsInHanded_of_row (C := Tryz.checked) (s := Rows.OpenSpec.upto Rows.tokensBackSpec) own started (by kernel_rfl) Tryz.func3
    (witness_row_at (enc := enc) (C := Tryz.checked) false (laidWorld os) #[.slice none 0 0, .slice none 0 0] rfl (by kernel_rfl) (by kernel_rfl) (by kernel_rfl)
      (OpenSpec.preRow_of_cond 8 hx (by kernel_rfl) (fun k hk => by cases hk; kernel_rfl) (by kernel_rfl) (laid_met os))) ?_
  intro W base args ds gs before hval hW _ hcond _ hL _ _
  exact contract H enc W base args ds gs before hval hW hL (hcond _ rfl)

theorem and_tr {a b : Bool} (h : a = true) (h' : b = true) : (a && b) = true := by rw [h, h']; rfl
set_option maxHeartbeats 4000000 in
/-- the row's closed facts, one by one -/
theorem closed : joinedFacts Tryz.pinned.checked.prog 3 Tryz.f3 (Rows.OpenSpec.upto Rows.tokensBackSpec).bare Rows.tokensBackUptoRow = true := by
  unfold joinedFacts
  repeat' (with_reducible refine and_tr ?_ ?_)
  all_goals (as_aux_lemma => kernel_rfl)
theorem said : Rows.TokensBackUptoSaid :=
  OpenClaim.holds_of_cond 3 Tryz.f3 rfl rfl rfl rfl rfl rfl rfl ⟨rfl, rfl, rfl, rfl, rfl⟩ rfl rfl rfl rfl rfl (by kernel_rfl) Tryz.func3 closed
    (of_decide_eq_true (by kernel_rfl)) (by unfold Func.isWrapper; first | (rw [if_pos (by decide +kernel)]; kernel_rfl) | (rw [if_neg (by decide +kernel)]; exact ⟨rfl, rfl⟩))
    (fun os started H enc _ F => by rw [OpenClaim.pre_eq_preRow]; exact lifted os started H enc F)

theorem plain (f : FuncId) (fn : Func) (hf : Tryz.pinned.checked.prog.funcNamed "tripwire/tripwirelaw09.TokensBack" = some f) (hfn : Tryz.pinned.checked.prog.funcs[f]? = some fn) :
    false = Tryz.pinned.checked.prog.looks [] ∧ ∀ (j : Nat) t, fn.params[j]? = some t → Tryz.pinned.checked.prog.wantsStandIn t = false := by
  obtain rfl : f = 3 := Option.some.inj ((show Tryz.prog.funcNamed "tripwire/tripwirelaw09.TokensBack" = some 3 by kernel_rfl).symm.trans hf) |>.symm
  obtain rfl : fn = Tryz.f3 := (Option.some.inj (Tryz.func3.symm.trans hfn)).symm
  refine ⟨by kernel_rfl, fun j t ht => ?_⟩
  rw [Tryz.params3] at ht
  match j, ht with
  | 0, ht => have e := Option.some.inj ht; rw [← e]; exact (show Tryz.prog.wantsStandIn 22 = false by kernel_rfl)
  | 1, ht => have e := Option.some.inj ht; rw [← e]; exact (show Tryz.prog.wantsStandIn 23 = false by kernel_rfl)
  | n + 2, ht => simp at ht

theorem card : Rows.TokensBackUptoCardSaid :=
  Claim7.holds_tied_plain_at .later [] _ _ _ _ said (fun _ h => by cases h) (by kernel_rfl) (fun _ h => by cases h) tokensBackUpto_row_tie rfl ⟨rfl, rfl⟩ (by kernel_rfl) rfl plain (by kernel_rfl)
end Go.Proofs.YtcinoicpibleoaaGreatDoor.tokensBack
#print axioms Go.Proofs.YtcinoicpibleoaaGreatDoor.tokensBack.card
