/-
  tripwireref03.Text. tripwireref03.Parse.
-/
import Derived.Test.YtcinoicpibleoaaGreatDoorRefE
import Derived.Test.YtcinoicpibleoaaGreatDoorBackM
import Derived.Deep.DeepMust
import Derived.Deep.DeepCutAuto
namespace Go.Proofs.YtcinoicpibleoaaGreatDoor
open Go.RowKit

/-- what is written of V when v is left -/
structure TxtInv (K V v : Nat) (t : List UInt8) : Prop where
  zero : v = 0 → t = (if V = 0 then [] else Lib.decDigits V)
  pos : 0 < v → V ≠ 0 ∧ Lib.decDigits V = Lib.decDigits v ++ t
  cnt : v * 10 ^ t.length ≤ V
  len : t.length ≤ 20 * K
theorem TxtInv.start (K V : Nat) : TxtInv K V V [] := ⟨fun h => by rw [if_pos h], fun h => ⟨by omega, by simp⟩, by simp, by simp⟩
theorem ten_B20 (k : Nat) : B64 ^ k ≤ 10 ^ (20 * k) := by
  rw [Nat.pow_mul]; exact Nat.pow_le_pow_left (by decide) _
theorem TxtInv.short {K V v : Nat} {t : List UInt8} (h : TxtInv K V v t) (hv : 0 < v) (hV : V < B64 ^ K) : t.length < 20 * K := by
  have h1 := h.cnt
  have h2 : 1 * 10 ^ t.length ≤ v * 10 ^ t.length := Nat.mul_le_mul_right _ hv
  have h4 := ten_B20 K
  have h5 : 10 ^ t.length < 10 ^ (20 * K) := by omega
  exact (Nat.pow_lt_pow_iff_right (by decide)).1 h5
theorem TxtInv.le {K V v : Nat} {t : List UInt8} (h : TxtInv K V v t) : v ≤ V :=
  Nat.le_trans (Nat.le_mul_of_pos_right v (Nat.pow_pos (by decide))) h.cnt
theorem TxtInv.next {K V v : Nat} {t : List UInt8} (h : TxtInv K V v t) (hv : 0 < v) (hl : t.length < 20 * K) : TxtInv K V (v / 10) (UInt8.ofNat (48 + v % 10) :: t) := by
  obtain ⟨h0, h1⟩ := h.pos hv
  refine ⟨fun hz => ?_, fun hp => ⟨h0, ?_⟩, ?_, by simp; omega⟩
  · have hlt : v < 10 := by omega
    rw [if_neg h0, h1, Lib.decDigits_one hlt, Nat.mod_eq_of_lt hlt]; rfl
  · rw [h1, Lib.decDigits, dif_neg (by omega)]; simp
  · have h2 := h.cnt
    simp only [List.length_cons, Nat.pow_succ]
    have h3 : v / 10 * 10 ≤ v := Nat.div_mul_le_self _ _
    have h4 : v / 10 * 10 * 10 ^ t.length ≤ v * 10 ^ t.length := Nat.mul_le_mul_right _ h3
    have h5 : v / 10 * (10 ^ t.length * 10) = v / 10 * 10 * 10 ^ t.length := by rw [Nat.mul_assoc, Nat.mul_comm 10]
    omega
theorem len8 {K v : Nat} (h : v < B64 ^ K) : (digs 256 v).length ≤ 8 * K := by
  refine digs_length_le (by decide) ?_
  rw [Nat.pow_mul, pow256]; exact h

/-- in the middle of a division by ten of digits of 8 bits, from the top: the places from k on are done -/
structure T8Inv (w0 wr : World) (g n k rest : Nat) (l s : List Nat) : Prop where
  len : s.length = n
  lt : ∀ x ∈ s, x < 256
  blk : Blk wr g 3 (ints .i64 s)
  below : Below g w0 wr
  rlt : rest < 10
  eq : val 256 (l.drop k) = val 256 (s.drop k) * 10 + rest
theorem T8Inv.next {w0 wr : World} {g n k rest : Nat} {l s : List Nat} (h : T8Inv w0 wr g n (k + 1) rest l s) (hk : k < n) (hn : n = l.length) (hl : ∀ x ∈ l, x < 256) :
    T8Inv w0 (wr.setCell ⟨g, k, none⟩ (.int .i64 (((256 * rest + nth l k) / 10 : Nat) : Int))) g n k ((256 * rest + nth l k) % 10) l (s.set k ((256 * rest + nth l k) / 10)) := by
  have hx := getD_lt (b := 256) (by decide) hl k
  have hr := h.rlt
  refine ⟨by simp [h.len], set_lt h.lt _ _ (by omega), ?_, h.below.setCell (Nat.le_refl _) _, Nat.mod_lt _ (by decide), ?_⟩
  · have := h.blk.set_ k (.int .i64 (((256 * rest + nth l k) / 10 : Nat) : Int))
    rw [ints_set] at this
    exact this
  · rw [val_drop_set (by rw [h.len]; exact hk), val_drop (by omega), h.eq]
    have e := Nat.div_add_mod (256 * rest + nth l k) 10
    generalize (256 * rest + nth l k) / 10 = q at *
    generalize (256 * rest + nth l k) % 10 = r at *
    generalize val 256 (s.drop (k + 1)) = v at *
    generalize nth l k = x at *
    omega

/-- the outer loop's state -/
structure TxO (w wr : World) (neg : Bool) (S : Value) (K V v : Nat) (xv sv : Value) : Prop where
  txt : ∃ t, TxtInv K V v t ∧ sv = strV t
  x : ∃ A c, xv = .slice A (digs 256 v).length c ∧ (digs 256 v).length ≤ c ∧ Rd wr .i64 A (digs 256 v)
  box : Blk wr w.heap.size 29 #[.bool neg, S]
  below : Below w.heap.size w wr

set_option maxRecDepth 100000 in
theorem dig_slice (r : Nat) (h : r < 10) (w : World) : (Instr.slice 9 (.string ⟨#[48, 49, 50, 51, 52, 53, 54, 55, 56, 57]⟩) (some (.int .i64 (r : Int))) (some (.int .i64 ((r : Int) + 1))) none).run Tryz.prog w = .ok (.string ⟨#[UInt8.ofNat (48 + r)]⟩) w := by
  have := run_slice_string (P := Tryz.prog) w 9 ⟨#[48, 49, 50, 51, 52, 53, 54, 55, 56, 57]⟩ .i64 .i64 (r : Int) ((r : Int) + 1) Tryz.underlying9 (by omega) (by omega) (by show (r : Int) + 1 ≤ 10; omega)
  rw [this]
  congr 2
  match r, h with
  | 0, _ => rfl
  | 1, _ => rfl
  | 2, _ => rfl
  | 3, _ => rfl
  | 4, _ => rfl
  | 5, _ => rfl
  | 6, _ => rfl
  | 7, _ => rfl
  | 8, _ => rfl
  | 9, _ => rfl
  | n + 10, h => exact absurd h (by omega)
theorem str_cons (a : UInt8) (t : List UInt8) : (⟨#[a]⟩ : ByteArray) ++ ⟨t.toArray⟩ = ⟨(a :: t).toArray⟩ := by
  apply ByteArray.ext
  simp [ByteArray.data_append]

theorem T8Inv.start (w0 : World) (l : List Nat) : T8Inv w0 (w0.alloc (.cells (madeCells #[.int .i64 0] l.length) 3)) w0.heap.size l.length l.length 0 l (List.replicate l.length 0) := by
  refine ⟨by simp, ?_, ?_, Below.of_alloc _ _, by decide, by simp [val]⟩
  · intro x hx; rw [(List.mem_replicate.1 hx).2]; decide
  · rw [← ints_made]; exact Blk.new _ _ _

set_option maxRecDepth 100000 in
set_option maxHeartbeats 4000000 in
theorem reftext_any (w : World) (neg : Bool) (A : Option Addr) (c : Nat) (l : List Nat) (hl : l.length ≤ 60) (ha : Rd w .u64 A l) (hx : ∀ x ∈ l, x < B64) :
    Calls Tryz.prog 93 #[.agg #[.bool neg, .slice A l.length c]] w fun e w' => e = .returned (strV (intText neg (val B64 l))) ∧ Below w.heap.size w w' := by
  have h1 := size_int
  have HVl := Lib.hid (show val B64 l < B64 ^ 60 from Nat.lt_of_lt_of_le (val_lt hx) (Nat.pow_le_pow_right B64_pos hl))
  have Hsm := Lib.hid (small_any (w.alloc (.cells #[.bool neg, .slice A l.length c] 29)) A c l (by omega) (ha.alloc _) hx)
  have HB0 := Lib.hid (Blk.new w 29 #[.bool neg, .slice A l.length c])
  clear ha hx
  generalize val B64 l = V at *
  generalize l.length = ln at *
  go_enter Tryz.func93, Tryz.ntmps93
  go_wp2_with fail
  refine Hsm.out.mono ?_
  clear Hsm
  rintro e w1 ⟨A1, c1, rfl, hc1, hr1, hb1, -⟩
  have HI := Lib.hid (show TxO w w1 neg (.slice A ln c) 60 V V (.slice A1 (digs 256 V).length c1) (strV []) from
    ⟨⟨[], TxtInv.start 60 V, rfl⟩, ⟨A1, c1, rfl, hc1, hr1⟩, HB0.out.below hb1 (by simp), (Below.of_alloc _ _).trans (hb1.mono (by simp))⟩)
  clear hc1 hr1 hb1 HB0
  go_wp2_with fail
  go_loopg [3, 4] V (fun v xv sv wr => TxO w wr neg (.slice A ln c) 60 V v xv sv)
  case atStart => exact HI.out
  case round =>
    clear HI
    obtain ⟨wo, rfl⟩ : ∃ wo : World, wo = wr := ⟨_, rfl⟩
    obtain ⟨t, ht, rfl⟩ := hrel.txt
    obtain ⟨Ax, cx, rfl, hcx, hrx⟩ := hrel.x
    by_cases hv : gk = 0
    · subst hv
      have hte := ht.zero rfl
      have htl := ht.len
      have hdz : (digs 256 0).length = 0 := rfl
      rw [hdz]
      have hc0 : wo.cell? ⟨w.heap.size, 0, none⟩ = some (.bool neg) := hrel.box.cell 0
      have Hbl := Lib.hid hrel.below
      clear hrel ht hcx hrx hdz
      by_cases hV : V = 0
      · rw [if_pos hV] at hte
        have He := Lib.hid (show intText neg V = [48] from by rw [hV]; rfl)
        clear hV HVl
        subst hte
        go_wp2_with fail
        go_ret
        exact ⟨by rw [He.out]; rfl, Hbl.out⟩
      · rw [if_neg hV] at hte
        have hne : t.isEmpty = false := by
          rw [hte]; have := (dec_len_pos V); cases hh : Lib.decDigits V with
          | nil => rw [hh] at this; simp at this
          | cons a b => rfl
        have He := Lib.hid (show intText neg V = (if neg then [45] else []) ++ t from by unfold intText; rw [if_neg hV, hte])
        have hts : (ByteArray.mk t.toArray).size ≤ 1200 := by rw [size_str]; exact htl
        have hTL : (ByteArray.mk t.toArray).toList.isEmpty = false := by rw [ByteArray.toList_eq]; simpa using hne
        have hSC := Lib.hid (str_cons 45 t)
        clear hV HVl hte htl hne
        obtain ⟨T, hT⟩ : ∃ T : ByteArray, T = ⟨t.toArray⟩ := ⟨_, rfl⟩
        rw [show strV t = .string T from by rw [hT]]
        rw [← hT] at hts hTL hSC
        have HTT := Lib.hid hT
        clear hT
        cases neg
        · go_wp2_with fail
          go_ret
          exact ⟨by rw [He.out, HTT.out]; rfl, Hbl.out⟩
        · go_wp2_with fail
          go_ret
          refine ⟨?_, Hbl.out⟩
          rw [He.out, hSC.out]; rfl
    · have hv0 : 0 < gk := by omega
      have htl := ht.short hv0 HVl.out
      have hts : (ByteArray.mk t.toArray).size < 1200 := by rw [size_str]; exact htl
      have HT' := Lib.hid (ht.next hv0 htl)
      have Hgd := Lib.hid (show gk / 10 < gk by omega)
      have HV := Lib.hid (val_digs (b := 256) (by decide) gk)
      have Hd := Lib.hid (digs_lt (b := 256) (by decide) gk)
      have hnp : 0 < (digs 256 gk).length := by
        rcases Nat.eq_zero_or_pos (digs 256 gk).length with h | h
        · exact absurd ((digs_nil_iff (by decide)).1 (List.eq_nil_of_length_eq_zero h)) hv
        · exact h
      have hnm : (digs 256 gk).length ≤ 480 := len8 (Nat.lt_of_le_of_lt ht.le HVl.out)
      have hslx := hrx.sl
      have Hrx := Lib.hid hrx
      have Hbox := Lib.hid hrel.box
      have Hbl := Lib.hid hrel.below
      clear ht hrx hv htl hcx hrel
      generalize digs 256 gk = xs at *
      have hmk := fun W => run_make_row' (P := Tryz.prog) 23 3 (.int .i64 0) 8 Tryz.underlying23 info_int rfl .i64 .i64 xs.length (by omega) (by omega) W
      have HS0 := Lib.hid (T8Inv.start wo xs)
      have Hsc := Lib.hid (str_cons (UInt8.ofNat (48 + gk % 10)) t)
      have Hds := Lib.hid (fun (r : Nat) (h : r < 10) (W : World) => dig_slice r h W)
      obtain ⟨T, hT⟩ : ∃ T : ByteArray, T = ⟨t.toArray⟩ := ⟨_, rfl⟩
      rw [show strV t = .string T from by rw [hT]]
      rw [← hT] at hts Hsc
      clear hT
      go_wp2_with fail
      go_loopw [5, 7] (fun rv iv wr => ∃ (k rest : Nat) (s : List Nat), k ≤ xs.length ∧ iv = .int .i64 ((k : Int) - 1) ∧ rv = .int .i64 rest ∧ T8Inv wo wr wo.heap.size xs.length k rest xs s) (fun _ iv _ => ((intOf iv) + 1).toNat)
      case atStart => exact ⟨xs.length, 0, _, Nat.le_refl _, rfl, rfl, HS0.out⟩
      case round =>
        clear HS0
        obtain ⟨k, rest, s, hk, rfl, rfl, hI⟩ := hrel
        rcases k with _ | k
        · have hrl := hI.rlt
          have hev : gk = val 256 s * 10 + rest := by have := hI.eq; simp only [List.drop_zero] at this; rw [← HV.out]; exact this
          have hq : gk / 10 = val 256 s := by omega
          have hr : gk % 10 = rest := by omega
          rw [hq] at Hgd HT'
          rw [hr] at HT' Hsc
          have Hv8 := Lib.hid (trim_eq (b := 256) (by decide) hI.lt)
          have hsl := hI.len
          have hds := fun W => Hds.out rest hrl W
          generalize UInt8.ofNat (48 + rest) = u at *
          have Hblk := Lib.hid hI.blk
          have HIb := Lib.hid hI.below
          have Hrd := Lib.hid (Rd.of_blk hI.blk)
          have HT := Lib.hid (length_trim s)
          unfold used at HT
          obtain ⟨wi, rfl⟩ : ∃ wi : World, wi = wr := ⟨_, rfl⟩
          have Hz := Lib.hid hev
          clear hI hev hq hr
          rw [← hsl] at hnm hnp hslx hmk ⊢
          have hsx : Sl (some ⟨wo.heap.size, 0, none⟩) s.length := Sl.some_ _ _ _
          clear hk hsl
          go_wp2_with fail
          go_loop [9] (fun nv => ∃ k : Nat, k ≤ s.length ∧ nv = .int .i64 k ∧ Hid (usedN s s.length = usedN s k)) (fun nv => (intOf nv).toNat)
          case atStart => exact ⟨s.length, Nat.le_refl _, rfl, Lib.hid rfl⟩
          case round =>
            obtain ⟨k, hk, rfl, hu⟩ := hrel
            have Hend := Lib.hid (fun (n : Nat) (hn : (trim s).length = n) => (⟨⟨_, HT'.out, rfl⟩, ⟨some ⟨wo.heap.size, 0, none⟩, s.length, by rw [← Hv8.out, hn], by rw [← Hv8.out, length_trim]; exact used_le s, by rw [← Hv8.out]; exact Hrd.out.take _⟩, Hbox.out.below HIb.out Hbox.out.lt, Hbl.out.trans (HIb.out.mono Hbl.out.size)⟩ : TxO w wi neg (.slice A ln c) 60 V (val 256 s) (.slice (some ⟨wo.heap.size, 0, none⟩) n s.length) (strV (u :: t))))
            rcases k with _ | k
            · have Hu := Lib.hid (show (trim s).length = 0 by rw [HT.out, hu.out]; rfl)
              clear hu
              go_wp2_with fail
              go_roundg (val 256 s)
              case measure => exact Hgd.out
              case rel => rw [Hsc.out]; exact Hend.out _ Hu.out
            · have hcell := Hrd.out.cell k (by omega)
              by_cases h0 : nth s k = 0
              · rw [h0] at hcell
                have Hu : Hid (usedN s s.length = usedN s k) := by rw [hu.out]; show usedN s (k + 1) = _; simp only [usedN, if_pos h0]
                clear h0 hu Hend
                go_wp2_with fail
                go_round
                case rel => exact ⟨k, by omega, by go_num, Hu⟩
                case measure => simp [intOf]
              · have Hu := Lib.hid (show (trim s).length = k + 1 by rw [HT.out, hu.out]; show usedN s (k + 1) = _; simp only [usedN, if_neg h0])
                have hne : ((nth s k : Int) == 0) = false := by simpa using h0
                clear h0 hu
                generalize nth s k = x at *
                go_wp2_with fail
                go_roundg (val 256 s)
                case measure => exact Hgd.out
                case rel => rw [Hsc.out]; exact Hend.out _ Hu.out
        · have hcl := hI.blk.cell k
          have hfz := hI.blk.frozen k
          have hkl : k < xs.length := by omega
          rw [ints_get .i64 s k (by rw [hI.len]; exact hkl)] at hcl
          have hcx := (Hrx.out.below hI.below (Nat.le_refl _)).cell k hkl
          have hxb := getD_lt (b := 256) (by decide) Hd.out k
          have hrl := hI.rlt
          have HN := Lib.hid (hI.next hkl rfl Hd.out)
          have k0 : (((k + 1 : Nat) : Int) - 1) = (k : Int) := by omega
          rw [k0]
          have d1 : (256 * (rest : Int) + (nth xs k : Int)) / 10 = (((256 * rest + nth xs k) / 10 : Nat) : Int) := by omega
          have d2 : (256 * (rest : Int) + (nth xs k : Int)) % 10 = (((256 * rest + nth xs k) % 10 : Nat) : Int) := by omega
          have D2 := Lib.hid d2
          clear hI d2
          generalize (256 * rest + nth xs k) / 10 = q at *
          generalize (256 * rest + nth xs k) % 10 = r at *
          generalize nth xs k = x at *
          go_wp2_with fail
          go_roundw
          case rel => exact ⟨k, r, s.set k q, by omega, by first | rfl | go_num, by rw [D2.out], HN.out⟩
          case measure => simp [intOf]
end Go.Proofs.YtcinoicpibleoaaGreatDoor
namespace Go.Proofs.YtcinoicpibleoaaGreatDoor
open Go.RowKit

theorem ext_drop (s : ByteArray) : (s.extract 1 s.size).data.toList = s.data.toList.drop 1 := by
  rw [ByteArray.data_extract]
  simp [List.extract]
  exact List.take_of_length_le (by simp)
theorem head_tail (s : ByteArray) (h : 0 < s.size) : s.data.toList = s[0] :: s.data.toList.drop 1 := by
  have h' : 0 < s.data.toList.length := by simpa using h
  have := List.getElem_cons_drop h'
  rw [List.drop_zero] at this
  exact this.symm
/-- what a text is cut into: a minus or none, and the rest -/
structure CutP (s body : ByteArray) (neg : Bool) : Prop where
  pn : parseN s.data.toList = if numB body.data.toList neg = false then (11, false, 0) else if 600 < body.size then (3, false, 0) else (0, neg, decVal body.data.toList)
  le : body.size ≤ s.size
theorem cutP_neg {s : ByteArray} (h : 0 < s.size) (h0 : s[0].toNat = 45) : CutP s (s.extract 1 s.size) true := by
  have e : s.data.toList = 45 :: s.data.toList.drop 1 := by
    rw [head_tail s h]
    rw [show s[0] = 45 from UInt8.toNat_inj.1 h0]; rfl
  have e2 := ext_drop s
  have hsz : (s.extract 1 s.size).size = (s.data.toList.drop 1).length := by rw [← e2]; simp
  refine ⟨?_, by rw [hsz]; simp⟩
  unfold parseN
  rw [e, (cut_neg _).1, (cut_neg _).2, ← e2, hsz, ← e2]
theorem cutP_pos {s : ByteArray} (h : s.size = 0 ∨ ∃ h : 0 < s.size, s[0].toNat ≠ 45) : CutP s s false := by
  have e : Lib.hasPrefix s.data.toList [45] = false := by
    rcases h with h | ⟨h, h0⟩
    · rw [List.eq_nil_of_length_eq_zero (show s.data.toList.length = 0 by simpa using h)]; rfl
    · rw [head_tail s h]
      have : s[0] ≠ 45 := fun e => h0 (by rw [e]; rfl)
      have h2 : ((45 : UInt8) == s[0]) = false := by simpa using fun e => this e.symm
      simp only [Lib.hasPrefix, List.isPrefixOf, h2, Bool.false_and]
  refine ⟨?_, Nat.le_refl _⟩
  unfold parseN Lib.trimPrefix
  rw [e]
  simp
/-- the first test of what is no numeral -/
def badL (l : List UInt8) (neg : Bool) : Bool := l.isEmpty || (l.headD 0 == 48 && decide (1 < l.length)) || (l == [48] && neg)
theorem badL_num {l : List UInt8} {neg : Bool} (h : badL l neg = true) : numB l neg = false := by
  unfold badL at h; unfold numB
  cases l with
  | nil => rfl
  | cons a t =>
    simp at h ⊢
    intro hd h1
    rcases h with ⟨h4, h5⟩ | ⟨⟨h4, h5⟩, h6⟩
    · exact ⟨h4, fun h2 => by rw [h2] at h5; simp at h5⟩
    · exact ⟨h4, fun _ => h6⟩
theorem badL_ok {l : List UInt8} {neg : Bool} (h : badL l neg = false) (hd : ∀ c ∈ l, isDig c = true) : numB l neg = true := by
  unfold badL at h; unfold numB
  cases l with
  | nil => simp at h
  | cons a t =>
    have hall : (a :: t).all isDig = true := List.all_eq_true.2 hd
    rw [hall]
    simp at h ⊢
    by_cases ha : a = 48
    · right
      subst ha
      have ht : t = [] := by simpa using h.1
      subst ht
      simpa using h
    · exact .inl ha
theorem dig_no {b : ByteArray} {neg : Bool} {i : Nat} (h : i < b.size) (hd : isDig b[i] ≠ true) : numB b.data.toList neg = false := by
  unfold numB
  have : b.data.toList.all isDig = false := by
    rw [List.all_eq_false]
    exact ⟨b[i], List.mem_iff_getElem.2 ⟨i, by simpa using h, rfl⟩, hd⟩
  rw [this]; simp
theorem dig_all {b : ByteArray} (h : ∀ i, (h : i < b.size) → isDig b[i] = true) : ∀ c ∈ b.data.toList, isDig c = true := fun c hc => by
  obtain ⟨i, hi, rfl⟩ := List.mem_iff_getElem.1 hc
  exact h i (by simpa using hi)

theorem num_zero {l : List UInt8} {neg : Bool} (h : numB l neg = true) (h0 : decVal l = 0) : neg = false := by
  have h1 := h
  unfold numB at h1
  simp only [Bool.and_eq_true, List.all_eq_true, Bool.or_eq_true, Bool.not_eq_true', List.isEmpty_eq_false_iff, bne_iff_ne, beq_iff_eq] at h1
  obtain ⟨⟨h2, h3⟩, h4⟩ := h1
  have h5 := dec_of l h3 h2 (h4.imp id (fun h => h.1))
  rw [h0] at h5
  have h6 : l = [48] := by rw [← h5, Lib.decDigits_one (by decide)]; rfl
  rw [h6] at h4
  rcases h4 with h4 | h4
  · exact absurd rfl h4
  · exact h4.2
theorem sgn_same {neg : Bool} {v : Nat} (h : v = 0 → neg = false) : sgn neg v = neg := by
  unfold sgn
  split
  · rw [h (by assumption)]
  · rfl
/-- in the middle of reading digits -/
structure RpInv (w wr : World) (v : Nat) (av : Value) : Prop where
  own : ∃ A c, av = .slice A (digs B64 v).length c ∧ Rd wr .u64 A (digs B64 v)
  box : Blk wr w.heap.size 29 #[.bool false, .slice none 0 0]
  below : Below w.heap.size w wr

/-- does a text begin with a minus? -/
def minus (s : ByteArray) : Bool := Lib.hasPrefix s.data.toList [45]

set_option maxRecDepth 100000 in
set_option maxHeartbeats 4000000 in
theorem rparse_any (s : ByteArray) (w : World) (hs : s.size ≤ 1048576) :
    Calls Tryz.prog 97 #[.string s] w (RetInt (parseN s.data.toList) w) := by
  go_enter Tryz.func97, Tryz.ntmps97
  go_upto_region 2 with fail
  go_cut [15] (fun cv wx => ∃ b : Bool, cv = .bool b ∧ Hid (if b = true then ∃ h : 0 < s.size, s[0].toNat = 45 else s.size = 0 ∨ ∃ h : 0 < s.size, s[0].toNat ≠ 45) ∧ wx = w.alloc (.cells #[.bool false, .slice none 0 0] 29))
  case first =>
    by_cases h0 : s.size = 0
    · go_wp2_with fail
      go_meet
      exact ⟨false, rfl, Lib.hid (.inl h0), rfl⟩
    · have hp : 0 < s.size := by omega
      by_cases h45 : s[0].toNat = 45
      · have H45 := Lib.hid h45
        have ht : ((s[0].toNat : Int) == 45) = true := by rw [h45]; rfl
        clear h45 h0
        go_wp2_with fail
        go_meet
        exact ⟨true, rfl, Lib.hid ⟨hp, H45.out⟩, rfl⟩
      · have H45 := Lib.hid h45
        have ht : ((s[0].toNat : Int) == 45) = false := by simp; omega
        clear h45 h0
        go_wp2_with fail
        go_meet
        exact ⟨false, rfl, Lib.hid (.inr ⟨hp, H45.out⟩), rfl⟩
  case rest =>
    obtain ⟨b, rfl, hb, rfl⟩ := hcut
    go_upto_if 15 with fail
    go_cut [0, 4] (fun sv nv wx => ∃ (body : ByteArray) (neg : Bool), sv = .string body ∧ nv = .bool neg ∧ CutP s body neg ∧ wx = w.alloc (.cells #[.bool false, .slice none 0 0] 29))
    case first =>
      cases b
      · have HC := Lib.hid (cutP_pos (s := s) hb.out)
        clear hb
        go_wp2_with fail
        go_meet
        exact ⟨s, false, rfl, rfl, HC.out, rfl⟩
      · obtain ⟨hp, h45⟩ := hb.out
        have HC := Lib.hid (cutP_neg hp h45)
        clear hb h45
        go_wp2_with fail
        go_meet
        exact ⟨_, true, rfl, rfl, HC.out, rfl⟩
    case rest =>
      clear hb
      obtain ⟨body, neg, rfl, rfl, hC, rfl⟩ := hcut
      have HC := Lib.hid hC
      have hbs : body.size ≤ 1048576 := by have := hC.le; omega
      clear hC
      go_upto_region 5 with fail
      go_cut [37] (fun cv wx => ∃ b : Bool, cv = .bool b ∧ Hid (badL body.data.toList neg = b) ∧ wx = w.alloc (.cells #[.bool false, .slice none 0 0] 29))
      case first =>
        have Hlen := Lib.hid (show body.data.toList.length = body.size by simp)
        by_cases h0 : body.size = 0
        · have HB := Lib.hid (show badL body.data.toList neg = true from by
            have e : body.data.toList = [] := List.eq_nil_of_length_eq_zero (by rw [Hlen.out]; exact h0)
            rw [e]; rfl)
          go_wp2_with fail
          go_meet
          exact ⟨true, rfl, HB, rfl⟩
        · have hp : 0 < body.size := by omega
          have hz : ((body.size : Int) == 0) = false := by simpa using h0
          have HT := Lib.hid (head_tail body hp)
          clear h0
          by_cases h48 : body[0].toNat = 48
          · have h48' : body[0] = 48 := UInt8.toNat_inj.1 h48
            have ht : ((body[0].toNat : Int) == 48) = true := by rw [h48]; rfl
            by_cases h1 : 1 < body.size
            · have hd : decide ((1 : Int) < (body.size : Int)) = true := by simp; omega
              have HB := Lib.hid (show badL body.data.toList neg = true from by
                unfold badL
                rw [Hlen.out, HT.out, h48']
                simp [h1])
              clear h48 h48'
              go_wp2_with fail
              go_meet
              exact ⟨true, rfl, HB, rfl⟩
            · have hd : decide ((1 : Int) < (body.size : Int)) = false := by simp; omega
              have he : body.data.toList = [48] := by
                rw [HT.out, h48', List.eq_nil_of_length_eq_zero (show (body.data.toList.drop 1).length = 0 by rw [List.length_drop, Hlen.out]; omega)]
              obtain rfl : body = ⟨#[48]⟩ := by
                cases body with | mk d => exact congrArg ByteArray.mk (Array.toList_inj.1 he)
              clear h48 h48' h1
              have HB := Lib.hid (show badL [48] neg = neg from by cases neg <;> rfl)
              go_wp2_with fail
              go_meet
              exact ⟨neg, rfl, HB, rfl⟩
          · have ht : ((body[0].toNat : Int) == 48) = false := by simp; omega
            have hn : body.toList ≠ [48] := by
              rw [ByteArray.toList_eq, HT.out]
              intro e
              injection e with e1 e2
              exact h48 (by rw [e1]; rfl)
            have hn2 : (body.toList == [48]) = false := by simpa using hn
            have HB := Lib.hid (show badL body.data.toList neg = false from by
              have h48' : body[0] ≠ 48 := fun e => h48 (by rw [e]; rfl)
              unfold badL
              rw [← ByteArray.toList_eq, hn2, ByteArray.toList_eq, HT.out]
              simp [h48'])
            clear h48
            go_wp2_with fail
            go_meet
            exact ⟨false, rfl, HB, rfl⟩
      case rest =>
        obtain ⟨b, rfl, hb, rfl⟩ := hcut
        have HBx := Lib.hid (Blk.new w 29 #[.bool false, .slice none 0 0])
        have hc0 : (w.alloc (.cells #[.bool false, .slice none 0 0] 29)).cell? ⟨w.heap.size, 0, none⟩ = some (.bool false) := HBx.out.cell 0
        have hc1 : (w.alloc (.cells #[.bool false, .slice none 0 0] 29)).cell? ⟨w.heap.size, 1, none⟩ = some (.slice none 0 0) := HBx.out.cell 1
        have hf0 : (w.alloc (.cells #[.bool false, .slice none 0 0] 29)).frozen? ⟨w.heap.size, 0, none⟩ = false := HBx.out.frozen 0
        have hf1 : (w.alloc (.cells #[.bool false, .slice none 0 0] 29)).frozen? ⟨w.heap.size, 1, none⟩ = false := HBx.out.frozen 1
        have Hbw := Lib.hid (Below.of_alloc w (.cells #[.bool false, .slice none 0 0] 29))
        have hlw : w.heap.size < (w.alloc (.cells #[.bool false, .slice none 0 0] 29)).heap.size := HBx.out.lt
        generalize w.alloc (.cells #[.bool false, .slice none 0 0] 29) = w1 at *
        have Hbad := Lib.hid (fun (k : Nat) (hp : parseN s.data.toList = (k, false, 0)) => (⟨none, 0, by rw [hp]; rfl, by rw [hp]; exact Nat.le_refl _, by rw [hp]; exact Rd.nil_ _ _, (Hbw.out.setCell (p := ⟨w.heap.size, 0, none⟩) (Nat.le_refl _) (.bool false)).setCell (p := ⟨w.heap.size, 1, none⟩) (Nat.le_refl _) (.slice none 0 0)⟩ : RetInt (parseN s.data.toList) w (.returned (.tuple #[.agg #[.bool false, .slice none 0 0], .int .i64 (k : Int)])) ((w1.setCell ⟨w.heap.size, 0, none⟩ (.bool false)).setCell ⟨w.heap.size, 1, none⟩ (.slice none 0 0))))
        have hB2 := (HBx.out.set_ 0 (.bool false)).set_ 1 (.slice none 0 0)
        have Hq0 := Lib.hid (hB2.cell 0); have Hq1 := Lib.hid (hB2.cell 1)
        clear hB2
        have Hpn := Lib.hid HC.out.pn
        clear HC
        cases b
        · go_wp2_with fail
          go_loop [5] (fun iv => ∃ k : Nat, k ≤ body.size ∧ iv = .int .i64 k ∧ Hid (∀ i, (h : i < body.size) → i < k → isDig body[i] = true)) (fun iv => body.size - (intOf iv).toNat)
          case atStart => exact ⟨0, Nat.zero_le _, rfl, Lib.hid (fun i _ h => absurd h (Nat.not_lt_zero i))⟩
          case round =>
            obtain ⟨k, hk, rfl, hall⟩ := hrel
            by_cases hlt : k < body.size
            · by_cases hd : isDig body[k] = true
              · have hd2 : 48 ≤ body[k].toNat ∧ body[k].toNat ≤ 57 := by simpa [isDig] using hd
                have Hall := Lib.hid (show ∀ i, (h : i < body.size) → i < k + 1 → isDig body[i] = true from fun i h1 h2 => by
                  by_cases e : i = k
                  · subst e; exact hd
                  · exact hall.out i h1 (by omega))
                obtain ⟨hd3, hd4⟩ := hd2
                have t1 : ¬ (body[k].toNat : Int) < 48 := by omega
                have t2 : ¬ (57 : Int) < (body[k].toNat : Int) := by omega
                clear hd hall
                go_wp2_with fail
                go_round
                case rel => exact ⟨k + 1, by omega, by go_num, Hall⟩
                case measure => simp [intOf]; omega
              · have HP := Lib.hid (show parseN s.data.toList = (11, false, 0) from by rw [Hpn.out, if_pos (dig_no hlt hd)])
                have hd2 : body[k].toNat < 48 ∨ 57 < body[k].toNat := by
                  have : ¬ (48 ≤ body[k].toNat ∧ body[k].toNat ≤ 57) := by simpa [isDig] using hd
                  omega
                clear hd hall Hpn hb
                by_cases hl : body[k].toNat < 48
                · have t1 : (body[k].toNat : Int) < 48 := by omega
                  clear hd2 hl
                  go_wp2_with fail
                  have HR := Hbad.out 11 HP.out
                  have q0 := Hq0.out; have q1 := Hq1.out
                  clear hc0 hc1 hf0 hf1 Hq0 Hq1 Hbad
                  generalize ((w1.setCell ⟨w.heap.size, 0, none⟩ (.bool false)).setCell ⟨w.heap.size, 1, none⟩ (.slice none 0 0)) = W at *
                  exact bodyPost_ret (v := .tuple #[.agg #[.bool false, .slice none 0 0], .int .i64 11]) (by simp [results, Tryz.results97, go_sem, q0, q1]) rfl HR
                · have t1 : ¬ (body[k].toNat : Int) < 48 := by omega
                  have t2 : (57 : Int) < (body[k].toNat : Int) := by omega
                  clear hd2 hl
                  go_wp2_with fail
                  have HR := Hbad.out 11 HP.out
                  have q0 := Hq0.out; have q1 := Hq1.out
                  clear hc0 hc1 hf0 hf1 Hq0 Hq1 Hbad
                  generalize ((w1.setCell ⟨w.heap.size, 0, none⟩ (.bool false)).setCell ⟨w.heap.size, 1, none⟩ (.slice none 0 0)) = W at *
                  exact bodyPost_ret (v := .tuple #[.agg #[.bool false, .slice none 0 0], .int .i64 11]) (by simp [results, Tryz.results97, go_sem, q0, q1]) rfl HR
            · have Hdig := Lib.hid (dig_all (b := body) (fun i h => hall.out i h (by omega)))
              have hnb := badL_ok hb.out Hdig.out
              rw [if_neg (by rw [hnb]; simp)] at Hpn
              have Hnb := Lib.hid hnb
              clear hall hb hnb
              by_cases hlong : 600 < body.size
              · have HP := Lib.hid (show parseN s.data.toList = (3, false, 0) from by rw [Hpn.out, if_pos hlong])
                clear Hpn
                have hl2 : decide ((600 : Int) < (body.size : Int)) = true := by simp; omega
                go_wp2_with fail
                have HR := Hbad.out 3 HP.out
                have q0 := Hq0.out; have q1 := Hq1.out
                clear hc0 hc1 hf0 hf1 Hq0 Hq1 Hbad
                generalize ((w1.setCell ⟨w.heap.size, 0, none⟩ (.bool false)).setCell ⟨w.heap.size, 1, none⟩ (.slice none 0 0)) = W at *
                exact bodyPost_ret (v := .tuple #[.agg #[.bool false, .slice none 0 0], .int .i64 3]) (by simp [results, Tryz.results97, go_sem, q0, q1]) rfl HR
              · rw [if_neg hlong] at Hpn
                have hl2 : decide ((600 : Int) < (body.size : Int)) = false := by simp; omega
                have hb600 : body.size ≤ 600 := by omega
                have HI0 := Lib.hid (show RpInv w w1 (decVal (body.data.toList.take 0)) (.slice none 0 0) from ⟨⟨none, 0, rfl, Rd.nil_ _ _⟩, HBx.out, Hbw.out⟩)
                clear hlong Hbad Hq0 Hq1 hc0 hc1 hf0 hf1
                go_wp2_with fail
                go_loopw [6, 7] (fun av iv wr => ∃ k : Nat, k ≤ body.size ∧ iv = .int .i64 k ∧ RpInv w wr (decVal (body.data.toList.take k)) av) (fun _ iv _ => body.size - (intOf iv).toNat)
                case atStart => exact ⟨0, Nat.zero_le _, rfl, HI0.out⟩
                case round =>
                  clear HI0
                  obtain ⟨k, hk, rfl, hI⟩ := hrel
                  obtain ⟨A1, c1, rfl, hr1⟩ := hI.own
                  have Hbox := Lib.hid hI.box; have Hbl := Lib.hid hI.below
                  obtain ⟨wo, rfl⟩ : ∃ wo : World, wo = wr := ⟨_, rfl⟩
                  have Hlen := Lib.hid (show body.data.toList.length = body.size by simp)
                  have hv : ∀ j, j ≤ 600 → (digs B64 (decVal (body.data.toList.take j))).length ≤ 100 := fun j hj => by
                    have h1 := decVal_lt (body.data.toList.take j) (fun c hc => Hdig.out c (List.mem_of_mem_take hc))
                    have h2 : (body.data.toList.take j).length ≤ 6 * 100 := by rw [List.length_take]; omega
                    exact digs_length_lt (Nat.lt_trans h1 (ten_pow 100 (by decide) h2))
                  by_cases hlt : k < body.size
                  · have hdv : decVal (body.data.toList.take (k + 1)) = decVal (body.data.toList.take k) * 10 + (body[k].toNat - 48) := by
                      rw [List.take_succ_eq_append_getElem (by rw [Hlen.out]; exact hlt), decVal_snoc, Nat.mul_comm]; rfl
                    have hd2 : 48 ≤ body[k].toNat ∧ body[k].toNat ≤ 57 := by
                      have := Hdig.out body[k] (List.mem_iff_getElem.2 ⟨k, by simpa using hlt, rfl⟩)
                      simpa [isDig] using this
                    have hl1 := hv k (by omega)
                    have hl2' : (digs B64 (decVal (body.data.toList.take k) * 10)).length ≤ 101 := by
                      apply digs_length_lt
                      have h1 := val_lt (digs_lt (b := B64) (by decide) (decVal (body.data.toList.take k)))
                      rw [val_digs (by decide)] at h1
                      have h2 : B64 ^ (digs B64 (decVal (body.data.toList.take k))).length ≤ B64 ^ 100 := Nat.pow_le_pow_right B64_pos hl1
                      rw [Nat.pow_succ]
                      exact Nat.mul_lt_mul'' (Nat.lt_of_lt_of_le h1 h2) (by decide)
                    have Hdv := Lib.hid hdv
                    clear hdv hv hI
                    generalize decVal (body.data.toList.take k) = v at *
                    have HMul := Lib.hid (fun (W : World) (B : Nat) (h1 : Below wo.heap.size wo W) (h2 : W.cell? ⟨B, 0, none⟩ = some (.int .u64 10)) => by
                      have h := refmulA W A1 (some ⟨B, 0, none⟩) c1 1 (digs B64 v) [10] (by omega) (by simp) (hr1.below h1 (Nat.le_refl _)) (rd_one (x := 10) h2) (digs_lt (by decide) _) (lt_one (by decide))
                      rw [val_digs (by decide), val_one] at h
                      exact h.mono (R' := fun e w1 => ∃ A1 c1, e = .returned (.slice A1 (digs B64 (v * 10)).length c1) ∧ Hid (Rd w1 .u64 A1 (digs B64 (v * 10)) ∧ Below wo.heap.size wo w1 ∧ Below W.heap.size W w1)) (fun e w1 ⟨A1, c1, he, _, hr, hb, _⟩ => ⟨A1, c1, he, hr, h1.trans (hb.mono h1.size), hb⟩))
                    have HAdd := Lib.hid (fun (W : World) (A1 : Option Addr) (c1 B : Nat) (h0 : Below wo.heap.size wo W) (h1 : Rd W .u64 A1 (digs B64 (v * 10))) (h2 : W.cell? ⟨B, 0, none⟩ = some (.int .u64 ((body[k].toNat - 48 : Nat) : Int))) => by
                      have h := refaddA W A1 (some ⟨B, 0, none⟩) c1 1 (digs B64 (v * 10)) [body[k].toNat - 48] (by omega) (by simp) h1 (rd_one h2) (digs_lt (by decide) _) (lt_one (by simp only [B64]; omega))
                      rw [val_digs (by decide), val_one] at h
                      exact h.mono (R' := fun e w2 => ∃ A2 c2, e = .returned (.slice A2 (digs B64 (v * 10 + (body[k].toNat - 48))).length c2) ∧ Hid (Rd w2 .u64 A2 (digs B64 (v * 10 + (body[k].toNat - 48))) ∧ Below wo.heap.size wo w2)) (fun e w2 ⟨A2, c2, he, hc, hr, hb, hf⟩ => ⟨A2, c2, he, hr, h0.trans (hb.mono h0.size)⟩))
                    obtain ⟨hd3, hd4⟩ := hd2
                    have e1 : IntKind.u8.wrap ((body[k].toNat : Int) - 48) = ((body[k].toNat - 48 : Nat) : Int) := by rw [IntKind.wrap_u8]; omega
                    have e2 : IntKind.u64.wrap ((body[k].toNat - 48 : Nat) : Int) = ((body[k].toNat - 48 : Nat) : Int) := by rw [IntKind.wrap_u64]; omega
                    have e3 : (body[k].toNat : Int) - 48 = ((body[k].toNat - 48 : Nat) : Int) := by omega
                    have e4 : IntKind.u8.wrap ((body[k].toNat - 48 : Nat) : Int) = ((body[k].toNat - 48 : Nat) : Int) := by rw [IntKind.wrap_u8]; omega
                    clear hr1 hl1 hl2'
                    go_wp2_with fail
                    go_region_held3 (fun _ => True) (exact trivial)
                      (first
                        | (go_at_call 121; go_must (refine (HMul.out _ _ (by repeat (first | exact Below.refl _ _ | apply Below.drew | refine Below.alloc ?_ (by simp) _)) (by simp [World.cell?_alloc_new])).mono ?_; rintro e w1 ⟨A1, c1, rfl, H1⟩))
                        | (go_at_call 118; go_must (refine (HAdd.out _ _ _ _ (by repeat (first | exact H1.out.2.1 | apply Below.drew | refine Below.alloc ?_ (by have := H1.out.2.1.size; simp <;> omega) _)) (by repeat (first | exact H1.out.1 | apply Rd.alloc | apply Rd.drew)) (by first | (simp [World.cell?_alloc_new]; done) | (rw [H1.out.2.2.cell (by simp <;> omega)]; simp; done))).mono ?_; rintro e w2 ⟨A2, c2, rfl, H2⟩)))
                    all_goals
                      go_wp2_with fail
                      go_roundw
                      case rel => exact ⟨k + 1, by omega, by go_num, ⟨by rw [Hdv.out]; exact ⟨_, _, rfl, H2.out.1⟩, Hbox.out.below H2.out.2 Hbox.out.lt, Hbl.out.trans (H2.out.2.mono Hbl.out.size)⟩⟩
                      case measure => simp [intOf]; omega
                  · have hkk : k = body.size := by omega
                    have hl1 := hv k (by omega)
                    have hdk : decVal (body.data.toList.take k) = decVal body.data.toList := by rw [hkk, ← Hlen.out, List.take_length]
                    rw [hdk] at hr1 hl1 ⊢
                    have HSg := num_zero Hnb.out
                    clear hI hv hdk hkk
                    generalize decVal body.data.toList = D at *
                    have Hmk := Lib.hid (rmake_any wo neg A1 c1 (digs B64 D) (by omega) hr1 (digs_lt (by decide) _))
                    rw [val_digs (by decide), sgn_same HSg] at Hmk
                    clear hr1 hl1 HSg
                    go_wp2_with fail
                    refine Hmk.out.mono ?_
                    rintro e w3 ⟨A3, c3, rfl, k2, k3, hb3, k4⟩
                    have hB3 := Hbox.out.below hb3 Hbox.out.lt
                    have hlo : w.heap.size < wo.heap.size := Hbox.out.lt
                    have Hb3 := Lib.hid (Hbl.out.trans (hb3.mono Hbl.out.size))
                    have p0 : w3.cell? ⟨w.heap.size, 0, none⟩ = some (.bool false) := hB3.cell 0
                    have p1 : w3.cell? ⟨w.heap.size, 1, none⟩ = some (.slice none 0 0) := hB3.cell 1
                    have p2 : w3.frozen? ⟨w.heap.size, 0, none⟩ = false := hB3.frozen 0
                    have p3 : w3.frozen? ⟨w.heap.size, 1, none⟩ = false := hB3.frozen 1
                    have HB3 := Lib.hid hB3; have K2 := Lib.hid k2; have K3 := Lib.hid k3; have K4 := Lib.hid k4
                    clear hB3 k2 k3 k4 hb3 Hmk
                    go_wp2_with fail
                    have hB4 := (HB3.out.set_ 0 (.bool neg)).set_ 1 (.slice A3 (digs B64 D).length c3)
                    have hb4 := (Hb3.out.setCell (p := ⟨w.heap.size, 0, none⟩) (Nat.le_refl _) (.bool neg)).setCell (p := ⟨w.heap.size, 1, none⟩) (Nat.le_refl _) (.slice A3 (digs B64 D).length c3)
                    have hr4 : Rd ((w3.setCell ⟨w.heap.size, 0, none⟩ (.bool neg)).setCell ⟨w.heap.size, 1, none⟩ (.slice A3 (digs B64 D).length c3)) .u64 A3 (digs B64 D) := by
                      refine ⟨K3.out.sl, fun i hi => ?_⟩
                      have hh := K4.out i hi
                      rw [World.cell?_setCell_other _ _ _ _ (fun e => by rw [← e] at hh; simp at hh; omega), World.cell?_setCell_other _ _ _ _ (fun e => by rw [← e] at hh; simp at hh; omega)]
                      exact K3.out.cell i hi
                    clear p0 p1 p2 p3
                    generalize ((w3.setCell ⟨w.heap.size, 0, none⟩ (.bool neg)).setCell ⟨w.heap.size, 1, none⟩ (.slice A3 (digs B64 D).length c3)) = W at *
                    have q0 : W.cell? ⟨w.heap.size, 0, none⟩ = some (.bool neg) := hB4.cell 0
                    have q1 : W.cell? ⟨w.heap.size, 1, none⟩ = some (.slice A3 (digs B64 D).length c3) := hB4.cell 1
                    refine bodyPost_ret (v := .tuple #[.agg #[.bool neg, .slice A3 (digs B64 D).length c3], .int .i64 0]) (by simp [results, Tryz.results97, go_sem, q0, q1]) rfl ?_
                    rw [Hpn.out]
                    exact ⟨A3, c3, rfl, K2.out, hr4, hb4⟩
        · have HP := Lib.hid (show parseN s.data.toList = (11, false, 0) from by rw [Hpn.out, if_pos (badL_num hb.out)])
          clear Hpn hb
          go_wp2_with fail
          have HR := Hbad.out 11 HP.out
          have q0 := Hq0.out; have q1 := Hq1.out
          clear hc0 hc1 hf0 hf1 Hq0 Hq1 Hbad
          generalize ((w1.setCell ⟨w.heap.size, 0, none⟩ (.bool false)).setCell ⟨w.heap.size, 1, none⟩ (.slice none 0 0)) = W at *
          exact bodyPost_ret (v := .tuple #[.agg #[.bool false, .slice none 0 0], .int .i64 11]) (by simp [results, Tryz.results97, go_sem, q0, q1]) rfl HR
end Go.Proofs.YtcinoicpibleoaaGreatDoor
