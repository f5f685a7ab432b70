/-
  tripwireref03.Text.
-/
import Derived.Test.YthffandpjjnkhaaDoorRefE
namespace Go.Proofs.YthffandpjjnkhaaDoor
open Go.RowKit

/-- what is written of V when v is left -/
structure TxtInv (K V v : Nat) (t : List UInt8) : Prop where
  zero : v = 0 → t = (if V = 0 then [] else Lib.decDigits V)
  pos : 0 < v → V ≠ 0 ∧ Lib.decDigits V = Lib.decDigits v ++ t
  cnt : v * 10 ^ t.length ≤ V
  len : t.length ≤ 20 * K
theorem TxtInv.start (K V : Nat) : TxtInv K V V [] := ⟨fun h => by rw [if_pos h], fun h => ⟨by omega, by simp⟩, by simp, by simp⟩
theorem ten_B20 (k : Nat) : B64 ^ k ≤ 10 ^ (20 * k) := by
  rw [Nat.pow_mul]; exact Nat.pow_le_pow_left (by decide) _
theorem TxtInv.short {K V v : Nat} {t : List UInt8} (h : TxtInv K V v t) (hv : 0 < v) (hV : V < B64 ^ K) : t.length < 20 * K := by
  have h1 := h.cnt
  have h2 : 1 * 10 ^ t.length ≤ v * 10 ^ t.length := Nat.mul_le_mul_right _ hv
  have h4 := ten_B20 K
  have h5 : 10 ^ t.length < 10 ^ (20 * K) := by omega
  exact (Nat.pow_lt_pow_iff_right (by decide)).1 h5
theorem TxtInv.le {K V v : Nat} {t : List UInt8} (h : TxtInv K V v t) : v ≤ V :=
  Nat.le_trans (Nat.le_mul_of_pos_right v (Nat.pow_pos (by decide))) h.cnt
theorem TxtInv.next {K V v : Nat} {t : List UInt8} (h : TxtInv K V v t) (hv : 0 < v) (hl : t.length < 20 * K) : TxtInv K V (v / 10) (UInt8.ofNat (48 + v % 10) :: t) := by
  obtain ⟨h0, h1⟩ := h.pos hv
  refine ⟨fun hz => ?_, fun hp => ⟨h0, ?_⟩, ?_, by simp; omega⟩
  · have hlt : v < 10 := by omega
    rw [if_neg h0, h1, Lib.decDigits_one hlt, Nat.mod_eq_of_lt hlt]; rfl
  · rw [h1, Lib.decDigits, dif_neg (by omega)]; simp
  · have h2 := h.cnt
    simp only [List.length_cons, Nat.pow_succ]
    have h3 : v / 10 * 10 ≤ v := Nat.div_mul_le_self _ _
    have h4 : v / 10 * 10 * 10 ^ t.length ≤ v * 10 ^ t.length := Nat.mul_le_mul_right _ h3
    have h5 : v / 10 * (10 ^ t.length * 10) = v / 10 * 10 * 10 ^ t.length := by rw [Nat.mul_assoc, Nat.mul_comm 10]
    omega
theorem len8 {K v : Nat} (h : v < B64 ^ K) : (digs 256 v).length ≤ 8 * K := by
  refine digs_length_le (by decide) ?_
  rw [Nat.pow_mul, pow256]; exact h

/-- in the middle of a division by ten of digits of 8 bits, from the top: the places from k on are done -/
structure T8Inv (w0 wr : World) (g n k rest : Nat) (l s : List Nat) : Prop where
  len : s.length = n
  lt : ∀ x ∈ s, x < 256
  blk : Blk wr g 3 (ints .i64 s)
  below : Below g w0 wr
  rlt : rest < 10
  eq : val 256 (l.drop k) = val 256 (s.drop k) * 10 + rest
theorem T8Inv.next {w0 wr : World} {g n k rest : Nat} {l s : List Nat} (h : T8Inv w0 wr g n (k + 1) rest l s) (hk : k < n) (hn : n = l.length) (hl : ∀ x ∈ l, x < 256) :
    T8Inv w0 (wr.setCell ⟨g, k, none⟩ (.int .i64 (((256 * rest + nth l k) / 10 : Nat) : Int))) g n k ((256 * rest + nth l k) % 10) l (s.set k ((256 * rest + nth l k) / 10)) := by
  have hx := getD_lt (b := 256) (by decide) hl k
  have hr := h.rlt
  refine ⟨by simp [h.len], set_lt h.lt _ _ (by omega), ?_, h.below.setCell (Nat.le_refl _) _, Nat.mod_lt _ (by decide), ?_⟩
  · have := h.blk.set_ k (.int .i64 (((256 * rest + nth l k) / 10 : Nat) : Int))
    rw [ints_set] at this
    exact this
  · rw [val_drop_set (by rw [h.len]; exact hk), val_drop (by omega), h.eq]
    have e := Nat.div_add_mod (256 * rest + nth l k) 10
    generalize (256 * rest + nth l k) / 10 = q at *
    generalize (256 * rest + nth l k) % 10 = r at *
    generalize val 256 (s.drop (k + 1)) = v at *
    generalize nth l k = x at *
    omega

/-- the outer loop's state -/
structure TxO (w wr : World) (neg : Bool) (S : Value) (K V v : Nat) (xv sv : Value) : Prop where
  txt : ∃ t, TxtInv K V v t ∧ sv = strV t
  x : ∃ A c, xv = .slice A (digs 256 v).length c ∧ (digs 256 v).length ≤ c ∧ Rd wr .i64 A (digs 256 v)
  box : Blk wr w.heap.size 25 #[.bool neg, S]
  below : Below w.heap.size w wr

set_option maxRecDepth 100000 in
theorem dig_slice (r : Nat) (h : r < 10) (w : World) : (Instr.slice 9 (.string ⟨#[48, 49, 50, 51, 52, 53, 54, 55, 56, 57]⟩) (some (.int .i64 (r : Int))) (some (.int .i64 ((r : Int) + 1))) none).run Tryd.prog w = .ok (.string ⟨#[UInt8.ofNat (48 + r)]⟩) w := by
  have := run_slice_string (P := Tryd.prog) w 9 ⟨#[48, 49, 50, 51, 52, 53, 54, 55, 56, 57]⟩ .i64 .i64 (r : Int) ((r : Int) + 1) Tryd.underlying9 (by omega) (by omega) (by show (r : Int) + 1 ≤ 10; omega)
  rw [this]
  congr 2
  match r, h with
  | 0, _ => rfl
  | 1, _ => rfl
  | 2, _ => rfl
  | 3, _ => rfl
  | 4, _ => rfl
  | 5, _ => rfl
  | 6, _ => rfl
  | 7, _ => rfl
  | 8, _ => rfl
  | 9, _ => rfl
  | n + 10, h => exact absurd h (by omega)
theorem str_cons (a : UInt8) (t : List UInt8) : (⟨#[a]⟩ : ByteArray) ++ ⟨t.toArray⟩ = ⟨(a :: t).toArray⟩ := by
  apply ByteArray.ext
  simp [ByteArray.data_append]

theorem T8Inv.start (w0 : World) (l : List Nat) : T8Inv w0 (w0.alloc (.cells (madeCells #[.int .i64 0] l.length) 3)) w0.heap.size l.length l.length 0 l (List.replicate l.length 0) := by
  refine ⟨by simp, ?_, ?_, Below.of_alloc _ _, by decide, by simp [val]⟩
  · intro x hx; rw [(List.mem_replicate.1 hx).2]; decide
  · rw [← ints_made]; exact Blk.new _ _ _

set_option maxRecDepth 100000 in
set_option maxHeartbeats 4000000 in
theorem rtext_any (w : World) (neg : Bool) (A : Option Addr) (c : Nat) (l : List Nat) (hl : l.length ≤ 60) (ha : Rd w .u64 A l) (hx : ∀ x ∈ l, x < B64) :
    Calls Tryd.prog 15 #[.agg #[.bool neg, .slice A l.length c]] w fun e w' => e = .returned (strV (intText neg (val B64 l))) ∧ Below w.heap.size w w' := by
  have h1 := size_int
  have HVl := Lib.hid (show val B64 l < B64 ^ 60 from Nat.lt_of_lt_of_le (val_lt hx) (Nat.pow_le_pow_right B64_pos hl))
  have Hsm := Lib.hid (small_any (w.alloc (.cells #[.bool neg, .slice A l.length c] 25)) A c l (by omega) (ha.alloc _) hx)
  have HB0 := Lib.hid (Blk.new w 25 #[.bool neg, .slice A l.length c])
  clear ha hx
  generalize val B64 l = V at *
  generalize l.length = ln at *
  go_enter Tryd.func15, Tryd.ntmps15
  go_wp2_with fail
  refine Hsm.out.mono ?_
  clear Hsm
  rintro e w1 ⟨A1, c1, rfl, hc1, hr1, hb1, -⟩
  have HI := Lib.hid (show TxO w w1 neg (.slice A ln c) 60 V V (.slice A1 (digs 256 V).length c1) (strV []) from
    ⟨⟨[], TxtInv.start 60 V, rfl⟩, ⟨A1, c1, rfl, hc1, hr1⟩, HB0.out.below hb1 (by simp), (Below.of_alloc _ _).trans (hb1.mono (by simp))⟩)
  clear hc1 hr1 hb1 HB0
  go_wp2_with fail
  go_loopg [3, 4] V (fun v xv sv wr => TxO w wr neg (.slice A ln c) 60 V v xv sv)
  case atStart => exact HI.out
  case round =>
    clear HI
    obtain ⟨wo, rfl⟩ : ∃ wo : World, wo = wr := ⟨_, rfl⟩
    obtain ⟨t, ht, rfl⟩ := hrel.txt
    obtain ⟨Ax, cx, rfl, hcx, hrx⟩ := hrel.x
    by_cases hv : gk = 0
    · subst hv
      have hte := ht.zero rfl
      have htl := ht.len
      have hdz : (digs 256 0).length = 0 := rfl
      rw [hdz]
      have hc0 : wo.cell? ⟨w.heap.size, 0, none⟩ = some (.bool neg) := hrel.box.cell 0
      have Hbl := Lib.hid hrel.below
      clear hrel ht hcx hrx hdz
      by_cases hV : V = 0
      · rw [if_pos hV] at hte
        have He := Lib.hid (show intText neg V = [48] from by rw [hV]; rfl)
        clear hV HVl
        subst hte
        go_wp2_with fail
        go_ret
        exact ⟨by rw [He.out]; rfl, Hbl.out⟩
      · rw [if_neg hV] at hte
        have hne : t.isEmpty = false := by
          rw [hte]; have := (dec_len_pos V); cases hh : Lib.decDigits V with
          | nil => rw [hh] at this; simp at this
          | cons a b => rfl
        have He := Lib.hid (show intText neg V = (if neg then [45] else []) ++ t from by unfold intText; rw [if_neg hV, hte])
        have hts : (ByteArray.mk t.toArray).size ≤ 1200 := by rw [size_str]; exact htl
        have hTL : (ByteArray.mk t.toArray).toList.isEmpty = false := by rw [ByteArray.toList_eq]; simpa using hne
        have hSC := Lib.hid (str_cons 45 t)
        clear hV HVl hte htl hne
        obtain ⟨T, hT⟩ : ∃ T : ByteArray, T = ⟨t.toArray⟩ := ⟨_, rfl⟩
        rw [show strV t = .string T from by rw [hT]]
        rw [← hT] at hts hTL hSC
        have HTT := Lib.hid hT
        clear hT
        cases neg
        · go_wp2_with fail
          go_ret
          exact ⟨by rw [He.out, HTT.out]; rfl, Hbl.out⟩
        · go_wp2_with fail
          go_ret
          refine ⟨?_, Hbl.out⟩
          rw [He.out, hSC.out]; rfl
    · have hv0 : 0 < gk := by omega
      have htl := ht.short hv0 HVl.out
      have hts : (ByteArray.mk t.toArray).size < 1200 := by rw [size_str]; exact htl
      have HT' := Lib.hid (ht.next hv0 htl)
      have Hgd := Lib.hid (show gk / 10 < gk by omega)
      have HV := Lib.hid (val_digs (b := 256) (by decide) gk)
      have Hd := Lib.hid (digs_lt (b := 256) (by decide) gk)
      have hnp : 0 < (digs 256 gk).length := by
        rcases Nat.eq_zero_or_pos (digs 256 gk).length with h | h
        · exact absurd ((digs_nil_iff (by decide)).1 (List.eq_nil_of_length_eq_zero h)) hv
        · exact h
      have hnm : (digs 256 gk).length ≤ 480 := len8 (Nat.lt_of_le_of_lt ht.le HVl.out)
      have hslx := hrx.sl
      have Hrx := Lib.hid hrx
      have Hbox := Lib.hid hrel.box
      have Hbl := Lib.hid hrel.below
      clear ht hrx hv htl hcx hrel
      generalize digs 256 gk = xs at *
      have hmk := fun W => run_make_row' (P := Tryd.prog) 86 3 (.int .i64 0) 8 Tryd.underlying86 info_int rfl .i64 .i64 xs.length (by omega) (by omega) W
      have HS0 := Lib.hid (T8Inv.start wo xs)
      have Hsc := Lib.hid (str_cons (UInt8.ofNat (48 + gk % 10)) t)
      have Hds := Lib.hid (fun (r : Nat) (h : r < 10) (W : World) => dig_slice r h W)
      obtain ⟨T, hT⟩ : ∃ T : ByteArray, T = ⟨t.toArray⟩ := ⟨_, rfl⟩
      rw [show strV t = .string T from by rw [hT]]
      rw [← hT] at hts Hsc
      clear hT
      go_wp2_with fail
      go_loopw [5, 7] (fun rv iv wr => ∃ (k rest : Nat) (s : List Nat), k ≤ xs.length ∧ iv = .int .i64 ((k : Int) - 1) ∧ rv = .int .i64 rest ∧ T8Inv wo wr wo.heap.size xs.length k rest xs s) (fun _ iv _ => ((intOf iv) + 1).toNat)
      case atStart => exact ⟨xs.length, 0, _, Nat.le_refl _, rfl, rfl, HS0.out⟩
      case round =>
        clear HS0
        obtain ⟨k, rest, s, hk, rfl, rfl, hI⟩ := hrel
        rcases k with _ | k
        · have hrl := hI.rlt
          have hev : gk = val 256 s * 10 + rest := by have := hI.eq; simp only [List.drop_zero] at this; rw [← HV.out]; exact this
          have hq : gk / 10 = val 256 s := by omega
          have hr : gk % 10 = rest := by omega
          rw [hq] at Hgd HT'
          rw [hr] at HT' Hsc
          have Hv8 := Lib.hid (trim_eq (b := 256) (by decide) hI.lt)
          have hsl := hI.len
          have hds := fun W => Hds.out rest hrl W
          generalize UInt8.ofNat (48 + rest) = u at *
          have Hblk := Lib.hid hI.blk
          have HIb := Lib.hid hI.below
          have Hrd := Lib.hid (Rd.of_blk hI.blk)
          have HT := Lib.hid (length_trim s)
          unfold used at HT
          obtain ⟨wi, rfl⟩ : ∃ wi : World, wi = wr := ⟨_, rfl⟩
          have Hz := Lib.hid hev
          clear hI hev hq hr
          rw [← hsl] at hnm hnp hslx hmk ⊢
          have hsx : Sl (some ⟨wo.heap.size, 0, none⟩) s.length := Sl.some_ _ _ _
          clear hk hsl
          go_wp2_with fail
          go_loop [9] (fun nv => ∃ k : Nat, k ≤ s.length ∧ nv = .int .i64 k ∧ Hid (usedN s s.length = usedN s k)) (fun nv => (intOf nv).toNat)
          case atStart => exact ⟨s.length, Nat.le_refl _, rfl, Lib.hid rfl⟩
          case round =>
            obtain ⟨k, hk, rfl, hu⟩ := hrel
            have Hend := Lib.hid (fun (n : Nat) (hn : (trim s).length = n) => (⟨⟨_, HT'.out, rfl⟩, ⟨some ⟨wo.heap.size, 0, none⟩, s.length, by rw [← Hv8.out, hn], by rw [← Hv8.out, length_trim]; exact used_le s, by rw [← Hv8.out]; exact Hrd.out.take _⟩, Hbox.out.below HIb.out Hbox.out.lt, Hbl.out.trans (HIb.out.mono Hbl.out.size)⟩ : TxO w wi neg (.slice A ln c) 60 V (val 256 s) (.slice (some ⟨wo.heap.size, 0, none⟩) n s.length) (strV (u :: t))))
            rcases k with _ | k
            · have Hu := Lib.hid (show (trim s).length = 0 by rw [HT.out, hu.out]; rfl)
              clear hu
              go_wp2_with fail
              go_roundg (val 256 s)
              case measure => exact Hgd.out
              case rel => rw [Hsc.out]; exact Hend.out _ Hu.out
            · have hcell := Hrd.out.cell k (by omega)
              by_cases h0 : nth s k = 0
              · rw [h0] at hcell
                have Hu : Hid (usedN s s.length = usedN s k) := by rw [hu.out]; show usedN s (k + 1) = _; simp only [usedN, if_pos h0]
                clear h0 hu Hend
                go_wp2_with fail
                go_round
                case rel => exact ⟨k, by omega, by go_num, Hu⟩
                case measure => simp [intOf]
              · have Hu := Lib.hid (show (trim s).length = k + 1 by rw [HT.out, hu.out]; show usedN s (k + 1) = _; simp only [usedN, if_neg h0])
                have hne : ((nth s k : Int) == 0) = false := by simpa using h0
                clear h0 hu
                generalize nth s k = x at *
                go_wp2_with fail
                go_roundg (val 256 s)
                case measure => exact Hgd.out
                case rel => rw [Hsc.out]; exact Hend.out _ Hu.out
        · have hcl := hI.blk.cell k
          have hfz := hI.blk.frozen k
          have hkl : k < xs.length := by omega
          rw [ints_get .i64 s k (by rw [hI.len]; exact hkl)] at hcl
          have hcx := (Hrx.out.below hI.below (Nat.le_refl _)).cell k hkl
          have hxb := getD_lt (b := 256) (by decide) Hd.out k
          have hrl := hI.rlt
          have HN := Lib.hid (hI.next hkl rfl Hd.out)
          have k0 : (((k + 1 : Nat) : Int) - 1) = (k : Int) := by omega
          rw [k0]
          have d1 : (256 * (rest : Int) + (nth xs k : Int)) / 10 = (((256 * rest + nth xs k) / 10 : Nat) : Int) := by omega
          have d2 : (256 * (rest : Int) + (nth xs k : Int)) % 10 = (((256 * rest + nth xs k) % 10 : Nat) : Int) := by omega
          have D2 := Lib.hid d2
          clear hI d2
          generalize (256 * rest + nth xs k) / 10 = q at *
          generalize (256 * rest + nth xs k) % 10 = r at *
          generalize nth xs k = x at *
          go_wp2_with fail
          go_roundw
          case rel => exact ⟨k, r, s.set k q, by omega, by first | rfl | go_num, by rw [D2.out], HN.out⟩
          case measure => simp [intOf]
end Go.Proofs.YthffandpjjnkhaaDoor
