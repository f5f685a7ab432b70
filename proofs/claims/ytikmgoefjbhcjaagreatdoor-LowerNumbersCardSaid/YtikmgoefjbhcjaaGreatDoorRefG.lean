/-
 tripwireref01: Shr by one. tripwireref01: Shl. tripwireref01: Gcd.
-/
import Derived.Test.YtikmgoefjbhcjaaGreatDoorRefZ
import Derived.Test.YtikmgoefjbhcjaaGreatDoorGcdM
import Derived.Deep.DeepCutAuto
namespace Go.Proofs.YtikmgoefjbhcjaaGreatDoor
set_option maxHeartbeats 8000000
open Go.RowKit

def shD (a b : Nat) : Nat := (a + 256 * b) / 2 % 256
structure ShI (w wr : World) (pv : Value) (X : Nat) (xs o : List Nat) (i : Nat) : Prop where
 own : Own wr w.heap.size 3 .i64 pv o
 below : Below w.heap.size w wr
 len : o.length = i
 lt : ∀ x ∈ o, x < 256
 eq : val 256 o = X / 2 % 256 ^ i
theorem zp0 {xs : List Nat} {i : Nat} (h : xs.length ≤ i) : nth xs i = 0 := by simp [nth, List.getD, h]
theorem zr3 {xs : List Nat} (hx : ∀ x ∈ xs, x < 256) (i : Nat) (hi : i < xs.length) : ∃ m, val 256 xs / 256 ^ i = nth xs i + 256 * nth xs (i + 1) + 65536 * m := by
 obtain ⟨m, hm⟩ := znN hx i hi
 by_cases h : i + 1 < xs.length
 ·obtain ⟨m', hm'⟩ := znN hx (i + 1) h
  refine ⟨m', ?_⟩
  have e : val 256 xs / 256 ^ (i + 1) = m := by
   rw [Nat.pow_succ, ← Nat.div_div_eq_div_mul, hm]
   have := zab (b := 256) (by decide) hx i
   have h0 : nth xs i < 256 := this
   omega
  rw [hm, ← e, hm']
  omega
 ·refine ⟨0, ?_⟩
  have e : val 256 (xs.drop i) = nth xs i := by
   rw [List.drop_eq_getElem_cons hi, List.drop_eq_nil_of_le (by omega)]
   simp [val, nth, List.getD, hi]
  rw [zoB hx i (Nat.le_of_lt hi), e, zp0 (xs := xs) (i := i + 1) (by omega)]
  omega
theorem ShI.next {w wr w' : World} {pv v' : Value} {X : Nat} {xs o : List Nat} {i : Nat} (h : ShI w wr pv X xs o i) (hX : val 256 xs = X) (hx : ∀ x ∈ xs, x < 256) (hi : i < xs.length)
 (ho : Own w' w.heap.size 3 .i64 v' (o ++ [shD (nth xs i) (nth xs (i + 1))])) (hb : Below w.heap.size w w') : ShI w w' v' X xs (o ++ [shD (nth xs i) (nth xs (i + 1))]) (i + 1) := by
 refine ⟨ho, hb, by simp [h.len], ?_, ?_⟩
 ·intro x hx
  rcases List.mem_append.1 hx with hx | hx
  ·exact h.lt x hx
  ·simp at hx; rw [hx]; exact Nat.mod_lt _ (by decide)
 ·obtain ⟨m, hm⟩ := zr3 hx i hi
  rw [hX] at hm
  have e : X / 2 / 256 ^ i % 256 = shD (nth xs i) (nth xs (i + 1)) := by
   rw [Nat.div_div_eq_div_mul, Nat.mul_comm 2, ← Nat.div_div_eq_div_mul, hm]
   unfold shD
   omega
  rw [zbg, h.len, h.eq, Nat.pow_succ, Nat.mod_mul, e]
  simp [val]

set_option maxRecDepth 100000 in
theorem znx (w : World) (A : Option Addr) (c : Nat) (l : List Nat) (hl : l.length ≤ 1000000) (ha : Rd w .u64 A l) (hx : ∀ x ∈ l, x < B64) :
 Calls Tryz.prog 227 #[.slice A l.length c, .int .i64 1] w (RetL .u64 (digs B64 (val B64 l / 2)) w) := by
 have hlx := zn2 hx
 have h1 := zng
 have Hs1 := zmZ (zn3 w A c l (by omega) ha hx)
 clear ha hx
 go_enter Tryz.func227, Tryz.ntmps227
 go_wp2_with fail
 refine Hs1.out.mono ?_
 rintro e w1 ⟨A1, c1, rfl, hc1, hr1, hb1, -⟩
 have Hb1 := zmZ hb1; have Hr1 := zmZ hr1
 have hsl := hr1.sl
 clear hb1 hr1 Hs1
 by_cases h0 : val B64 l = 0
 ·have hd : digs 256 (val B64 l) = [] := by rw [h0]; rfl
  have H0 := zmZ (show digs B64 (val B64 l / 2) = [] by rw [h0]; rfl)
  rw [hd] at hsl ⊢
  clear h0 hd Hr1 hc1
  go_wp2_with fail
  go_ret
  rw [H0.out]
  exact ⟨none, 0, rfl, Nat.le_refl _, Rd.nil_ _ _, Hb1.out, Fr.none_ _ _⟩
 ·have hne : digs 256 (val B64 l) ≠ [] := fun e => h0 ((zaD (by decide)).1 e)
  have hpos := List.length_pos_iff.2 hne
  have Hlt := zmZ (zaS (b := 256) (by decide) (val B64 l))
  have Hv := zmZ (zag (b := 256) (by decide) (val B64 l))
  have hx2 : (digs 256 (val B64 l)).length ≤ 8000000 := by omega
  clear h0 hne hlx
  generalize digs 256 (val B64 l) = xs at *
  have t1 : ¬ (8 * (xs.length : Int) ≤ 1) := by omega
  obtain ⟨b1, o1, rfl⟩ := hsl hpos
  have hsl2 : Sl (some ⟨b1, o1, none⟩) xs.length := hsl
  go_upto_region 9 with fail
  go_loopw [6, 7] (fun pv iv wr => ∃ (i : Nat) (o : List Nat), i ≤ xs.length ∧ iv = .int .i64 i ∧ Hid (ShI w1 wr pv (val B64 l) xs o i)) (fun _ iv _ => xs.length - (intOf iv).toNat)
  case atStart => exact ⟨0, [], Nat.zero_le _, rfl, zmZ ⟨Own.nil_ _ _ _ _, Below.refl _ _, rfl, by simp, by simp [val, Nat.mod_one]⟩⟩
  case round =>
   obtain ⟨i, o, hi, rfl, hI⟩ := hrel
   by_cases hlt : i < xs.length
   ·have hca := (Hr1.out.below hI.out.below (Nat.le_refl _)).cell i hlt
    have hbx := zab (b := 256) (by decide) Hlt.out i
    obtain ⟨v', w', hrun, ho', hb', -, -⟩ := hI.out.own.app (P := Tryz.prog) (t := 46) Tryz.underlying46 znk rfl (shD (nth xs i) (nth xs (i + 1))) (by rw [hI.out.len]; omega) (by rw [hI.out.len]; simp only [maxLen]; omega) hI.out.below.size
    have Hrun := zmZ hrun
    have HN := zmZ (hI.out.next Hv.out Hlt.out hlt ho' (hI.out.below.trans hb'))
    by_cases hl2 : i + 1 < xs.length
    ·have hcb := (Hr1.out.below hI.out.below (Nat.le_refl _)).cell (i + 1) hl2
     have hby := zab (b := 256) (by decide) Hlt.out (i + 1)
     have r1 : ((nth xs i : Int) + 256 * (nth xs (i + 1) : Int)) / 2 % 256 = ((shD (nth xs i) (nth xs (i + 1)) : Nat) : Int) := by unfold shD; omega
     have t2 : (i : Int) + 1 < (xs.length : Int) := by omega
     clear hrun ho' hb' hI
     generalize shD (nth xs i) (nth xs (i + 1)) = dd at *
     generalize nth xs (i + 1) = yy at *
     generalize nth xs i = xx at *
     go_wp2_with (at_builtin; refine za1 rfl (.tmp 47) (.tmp 54) 46 _ _ _ rfl rfl rfl Hrun.out ?_)
     go_roundw
     case rel => exact ⟨i + 1, _, by omega, by go_num, HN⟩
     case measure => simp [intOf]; omega
    ·have hy0 := zp0 (xs := xs) (i := i + 1) (by omega)
     rw [hy0] at Hrun HN
     have r1 : (nth xs i : Int) / 2 % 256 = ((shD (nth xs i) 0 : Nat) : Int) := by unfold shD; omega
     have t2 : ¬ (i : Int) + 1 < (xs.length : Int) := by omega
     clear hrun ho' hb' hI hy0
     generalize shD (nth xs i) 0 = dd at *
     generalize nth xs i = xx at *
     go_wp2_with (at_builtin; refine za1 rfl (.tmp 47) (.tmp 54) 46 _ _ _ rfl rfl rfl Hrun.out ?_)
     go_roundw
     case rel => exact ⟨i + 1, _, by omega, by go_num, HN⟩
     case measure => simp [intOf]; omega
   ·obtain rfl : i = xs.length := by omega
    have hv : val 256 o = val B64 l / 2 := by
     have h3 := hI.out.eq
     have h4 := zd0 Hlt.out
     rw [Hv.out] at h4
     rw [h3, Nat.mod_eq_of_lt (Nat.lt_of_le_of_lt (Nat.div_le_self _ _) h4)]
    obtain ⟨A3, c3, rfl, hc3, -, hr3, hf3⟩ := hI.out.own.form
    have hol := hI.out.len
    have Hlg := zmZ (zn6 wr A3 c3 o (by rw [hol]; omega) hc3 hr3 hI.out.lt)
    rw [hv] at Hlg
    have Hbl := zmZ (Hb1.out.trans (hI.out.below.mono Hb1.out.size))
    clear hI hr3 hf3 hc3 hv hol
    generalize o.length = ol at *
    go_wp2_with fail
    refine Hlg.out.mono ?_
    rintro e w4 ⟨A4, c4, rfl, hc4, hr4, hb4, hf4⟩
    have HC := zmZ hc4; have HR := zmZ hr4; have HB := zmZ hb4; have HF := zmZ hf4
    clear hc4 hr4 hb4 hf4
    go_wp2_with fail
    go_ret
    exact ⟨A4, c4, rfl, HC.out, HR.out, Hbl.out.trans (HB.out.mono Hbl.out.size), fun j hj => Nat.le_trans Hbl.out.size (HF.out j hj)⟩

theorem Own.apps {P : Program} {W : World} {B : Nat} {t e : TypeId} {k : IntKind} {bytes : Nat} {pv z : Value} {l ds : List Nat} (ht : P.underlying t = some (.slice e)) (hinfo : (P.info? e).map (fun i => (i.zero, i.size, i.bytes)) = some (some z, 1, bytes)) (hz : z.cells.size = 1)
 (hown : Own W B e k pv l) {b o c : Nat} (hd : Rd W k (some ⟨b, o, none⟩) ds) (hlen : (l.length + ds.length) * bytes ≤ 140737488355328) (hl : l.length + ds.length ≤ maxLen) (hB : B ≤ W.heap.size) :
 ∃ v' w', (Builtin.append_ #[t, t] t #[pv, .slice (some ⟨b, o, none⟩) ds.length c]).run P W = .ok v' w' ∧ Own w' B e k v' (l ++ ds) ∧ Below B W w' := by
 obtain ⟨i0, hi0, hz0, hz1, hz2⟩ := info_parts hinfo
 obtain ⟨v', w', hrun, h2, h3, -⟩ := run_append_own (P := P) W B t t e i0 z 1 bytes ht hi0 hz0 hz1 hz2 hz (by decide) pv l.length (vals k l) hown
  ⟨b, o, none⟩ ds.length c (vals k ds) (by simp [vals]) (fun j u hu => by
   have hj : j < ds.length := by have := (List.getElem?_eq_some_iff.1 hu).1; simpa [vals] using this
   have := hd.cell j hj
   rw [za4] at this
   rw [zac, this, ← hu]
   simp [vals, nth, List.getD, hj]) (fun u hu => by
   obtain ⟨x, _, rfl⟩ := List.mem_map.1 hu
   rfl) hl hlen hB
 have hlt := hown.lt
 refine ⟨v', w', hrun, ?_, ?_⟩
 ·simpa [Own, vals] using h2
 ·exact (Below.refl _ _).grown h3 hB (fun b hb => (hlt b hb).1)
theorem zpt {V : Nat} (h : 0 < V) : (0 : Nat) :: digs 256 V = digs 256 (256 * V) := by
 have h1 := zf2 (b := 256) (l := 0 :: digs 256 V) (by decide) (fun x hx => by
  rcases List.mem_cons.1 hx with rfl | hx
  ·decide
  ·exact zaS (by decide) _ x hx) (by
  rcases digs_tidy (b := 256) (by decide) V with h0 | ⟨x, hx, h0⟩
  ·exact absurd ((zaD (by decide)).1 h0) (by omega)
  ·right
   refine ⟨x, ?_, h0⟩
   rw [List.getLast?_cons, hx]; rfl)
 rw [h1]
 congr 1
 rw [val, zag (by decide)]
 omega
structure SlI (w wr : World) (X N V m L : Nat) (A : Option Addr) : Prop where
 eq : V * 2 ^ m = X * 2 ^ N
 len : 8 * (digs 256 V).length + m ≤ L
 rd : Rd wr .i64 A (digs 256 V)
 below : Below w.heap.size w wr
theorem SlI.short {w wr : World} {X N V m L : Nat} {A : Option Addr} (h : SlI w wr X N V m L A) (hL : L ≤ 8000000) (hm : m < 8 ∨ V = 0) (V' m' : Nat) (e : V' * 2 ^ m' = X * 2 ^ N) : (digs 256 V').length ≤ 1000001 := by
 have h1 := zd0 (zaS (b := 256) (by decide) V)
 rw [zag (by decide)] at h1
 have h2 := h.len
 have h3 : V' ≤ X * 2 ^ N := by rw [← e]; exact Nat.le_mul_of_pos_right _ (Nat.pow_pos (by decide))
 have h4 : X * 2 ^ N < 256 ^ ((digs 256 V).length + 1) := by
  rw [← h.eq, Nat.pow_succ]
  rcases hm with hm | rfl
  ·have h5 : 2 ^ m ≤ 2 ^ 8 := Nat.pow_le_pow_right (by decide) (by omega)
   exact Nat.mul_lt_mul_of_lt_of_le h1 h5 (by decide)
  ·rw [Nat.zero_mul]; exact Nat.mul_pos (Nat.pow_pos (by decide)) (by decide)
 exact Nat.le_trans (zcs (by decide) (Nat.lt_of_le_of_lt h3 h4)) (by omega)
set_option maxRecDepth 100000 in
theorem zog (w : World) (A : Option Addr) (c N : Nat) (l : List Nat) (hl : l.length ≤ 100000) (hN : N ≤ 1048576) (ha : Rd w .u64 A l) (hx : ∀ x ∈ l, x < B64) :
 Calls Tryz.prog 228 #[.slice A l.length c, .int .i64 N] w (RetL .u64 (digs B64 (val B64 l * 2 ^ N)) w) := by
 have hlx := zn2 hx
 have h1 := zng
 have Hs1 := zmZ (zn3 w A c l (by omega) ha hx)
 have t0 : ¬ (1048576 : Int) < (N : Int) := by omega
 clear ha hx
 go_enter Tryz.func228, Tryz.ntmps228
 go_wp2_with fail
 refine Hs1.out.mono ?_
 rintro e w1 ⟨A1, c1, rfl, hc1, hr1, hb1, -⟩
 have HI0 := zmZ (show SlI w w1 (val B64 l) N (val B64 l) N 8000000 A1 from ⟨rfl, by omega, hr1, hb1⟩)
 clear hr1 hb1 Hs1 hlx
 go_wp2_with fail
 go_loopw [1, 5] (fun nv xv wr => ∃ (m V c' : Nat) (A' : Option Addr), nv = .int .i64 m ∧ xv = .slice A' (digs 256 V).length c' ∧ (digs 256 V).length ≤ c' ∧ Hid (SlI w wr (val B64 l) N V m 8000000 A')) (fun nv _ _ => (intOf nv).toNat)
 case atStart => exact ⟨N, _, c1, A1, rfl, rfl, hc1, HI0⟩
 case round =>
  clear HI0
  obtain ⟨m, V, c', A', rfl, rfl, hc', hI⟩ := hrel
  have hlen := hI.out.len
  by_cases hgo : 8 ≤ m ∧ 0 < V
  ·obtain ⟨h8, hV⟩ := hgo
   have hne : digs 256 V ≠ [] := fun e => by have := (zaD (b := 256) (by decide)).1 e; omega
   have hpos := List.length_pos_iff.2 hne
   obtain ⟨b1, o1, rfl⟩ := hI.out.rd.sl hpos
   have hw0 : Own (wr.alloc (.cells #[.int .i64 0] 3)) wr.heap.size 3 .i64 (.slice (some ⟨wr.heap.size, 0, none⟩) 1 1) [0] :=
    ⟨rfl, .inr ⟨wr.heap.size, 1, #[.int .i64 0], rfl, Nat.le_refl _, heap_alloc_new wr _, Nat.le_refl _, by simp [maxLen], rfl, rfl⟩⟩
   obtain ⟨v', w', hrun, ho, hb⟩ := hw0.apps (P := Tryz.prog) (t := 46) (c := c') Tryz.underlying46 znk rfl (hI.out.rd.alloc _) (by simp; omega) (by simp only [maxLen, List.length_singleton]; omega) (by simp)
   obtain ⟨A3, c3, rfl, hc3, -, hr3, -⟩ := ho.form
   have hds := zpt hV
   have hcc : [0] ++ digs 256 V = digs 256 (256 * V) := hds
   rw [hcc] at hr3 hc3 hrun
   have hl2 : (digs 256 (256 * V)).length = (digs 256 V).length + 1 := by rw [← hds]; rfl
   have HN := zmZ (show SlI w w' (val B64 l) N (256 * V) (m - 8) 8000000 A3 from ⟨by
    rw [← hI.out.eq]
    obtain ⟨q, rfl⟩ : ∃ q, m = q + 8 := ⟨m - 8, by omega⟩
    rw [Nat.add_sub_cancel, Nat.pow_add, show (2 : Nat) ^ 8 = 256 from rfl, Nat.mul_comm 256 V, Nat.mul_assoc, Nat.mul_comm 256], by omega, hr3, hI.out.below.trans (((Below.refl wr.heap.size wr).alloc (Nat.le_refl _) _).trans hb |>.mono hI.out.below.size)⟩)
   have Hrun := zmZ hrun
   have t8 : (8 : Int) ≤ (m : Int) := by omega
   have tl : (0 : Int) < ((digs 256 V).length : Int) := by omega
   have tm : (m : Int) - 8 = ((m - 8 : Nat) : Int) := by omega
   have hm8 : m - 8 < m := by omega
   have hmb : m - 8 ≤ 8000000 := by omega
   clear hV hne hpos hw0 hrun ho hb hr3 hds hcc hl2 hI hlen h8
   generalize m - 8 = m8 at *
   generalize (digs 256 V).length = LV at *
   go_wp2_with (at_builtin; refine za1 rfl (.tmp 17) (.tmp 18) 46 _ _ _ rfl rfl rfl Hrun.out ?_)
   go_roundw
   case rel => exact ⟨m8, 256 * V, c3, A3, by first | rfl | rw [tm], rfl, hc3, HN⟩
   case measure => simp [intOf]; omega
  ·have HI := zmZ hI.out
   have hmb : m ≤ 8000000 := by omega
   have HK := zmZ (hI.out.short (Nat.le_refl _) (by omega))
   clear hI
   by_cases h8 : 8 ≤ m
   ·have t8 : (8 : Int) ≤ (m : Int) := by omega
    have tl0 : ¬ (0 : Int) < ((digs 256 V).length : Int) := by rw [show V = 0 from by omega]; decide
    clear hgo h8 hlen
    go_wp2_with fail
    go_loopw [1, 5] (fun nv xv wr => ∃ (m V c' : Nat) (A' : Option Addr), nv = .int .i64 m ∧ xv = .slice A' (digs 256 V).length c' ∧ m ≤ 8000000 ∧ (digs 256 V).length ≤ c' ∧ Hid (V * 2 ^ m = val B64 l * 2 ^ N ∧ Rd wr .i64 A' (digs 256 V) ∧ Below w.heap.size w wr)) (fun nv _ _ => (intOf nv).toNat)
    case atStart => exact ⟨m, V, c', A', rfl, rfl, hmb, hc', zmZ ⟨HI.out.eq, HI.out.rd, HI.out.below⟩⟩
    case round =>
     clear HI hc' hmb t8 tl0
     obtain ⟨m, V, c', A', rfl, rfl, hmb, hc', hI⟩ := hrel
     have hlen := HK.out V m hI.out.1
     by_cases hm0 : 0 < m
     ·have tm : (0 : Int) < (m : Int) := by omega
      by_cases hV : 0 < V
      ·have hpos : 0 < (digs 256 V).length := List.length_pos_iff.2 (fun e => by have := (zaD (b := 256) (by decide)).1 e; omega)
       have tl : (0 : Int) < ((digs 256 V).length : Int) := by omega
       have HT := zmZ (znO wr A' c' 0 (digs 256 V) (by omega) hI.out.2.1 (zaS (by decide) _) (by decide))
       rw [zag (by decide), Nat.add_zero] at HT
       have HE := zmZ (show 2 * V * 2 ^ (m - 1) = val B64 l * 2 ^ N by
        rw [← hI.out.1]
        obtain ⟨q, rfl⟩ : ∃ q, m = q + 1 := ⟨m - 1, by omega⟩
        rw [Nat.add_sub_cancel, Nat.pow_succ, Nat.mul_comm 2 V, Nat.mul_assoc, Nat.mul_comm 2])
       have Hbl := zmZ hI.out.2.2
       have tm1 : (m : Int) - 1 = ((m - 1 : Nat) : Int) := by omega
       have hm1 : m - 1 < m := by omega
       have hm2 : m - 1 ≤ 8000000 := by omega
       clear hI hlen hpos
       generalize m - 1 = m1 at *
       generalize 2 * V = V2 at *
       go_wp2_with fail
       refine HT.out.mono ?_
       rintro e w4 ⟨A4, c4, rfl, hc4, hr4, hb4, -⟩
       have HN := zmZ (And.intro HE.out (And.intro hr4 (Hbl.out.trans (hb4.mono Hbl.out.size))))
       clear hr4 hb4 HT HE Hbl
       go_wp2_with fail
       go_roundw
       case rel => exact ⟨m1, V2, c4, A4, by first | rfl | rw [tm1], rfl, hm2, hc4, HN⟩
       case measure => simp [intOf]; omega
      ·have hd : digs 256 V = [] := by rw [show V = 0 from by omega]; rfl
       have hX := zmZ (show val B64 l * 2 ^ N = 0 by rw [← hI.out.1, show V = 0 from by omega, Nat.zero_mul])
       have Hlg := zmZ (zn6 wr A' c' [] (by simp) (by simp) ⟨fun h => absurd h (by simp), fun i h => absurd h (by simp)⟩ (by simp))
       have Hbl := zmZ hI.out.2.2
       rw [hd]
       clear hI hlen hV hd hc' hm0
       go_wp2_with fail
       refine Hlg.out.mono ?_
       rintro e w4 ⟨A4, c4, rfl, hc4, hr4, hb4, hf4⟩
       have HC := zmZ hc4; have HR := zmZ hr4; have HB := zmZ hb4; have HF := zmZ hf4
       clear hc4 hr4 hb4 hf4
       go_wp2_with fail
       go_ret
       rw [hX.out]
       exact ⟨A4, c4, rfl, HC.out, HR.out, Hbl.out.trans (HB.out.mono Hbl.out.size), fun j hj => Nat.le_trans Hbl.out.size (HF.out j hj)⟩
     ·have tm : ¬ (0 : Int) < (m : Int) := by omega
      have hVX := hI.out.1
      rw [show m = 0 from by omega, Nat.pow_zero, Nat.mul_one] at hVX
      have HX := zmZ hVX
      have Hlg := zmZ (zn6 wr A' c' (digs 256 V) (by omega) hc' hI.out.2.1 (zaS (by decide) _))
      rw [zag (by decide)] at Hlg
      have Hbl := zmZ hI.out.2.2
      clear hI hlen hVX hm0 hc'
      go_wp2_with fail
      refine Hlg.out.mono ?_
      rintro e w4 ⟨A4, c4, rfl, hc4, hr4, hb4, hf4⟩
      have HC := zmZ hc4; have HR := zmZ hr4; have HB := zmZ hb4; have HF := zmZ hf4
      clear hc4 hr4 hb4 hf4
      go_wp2_with fail
      go_ret
      rw [← HX.out]
      exact ⟨A4, c4, rfl, HC.out, HR.out, Hbl.out.trans (HB.out.mono Hbl.out.size), fun j hj => Nat.le_trans Hbl.out.size (HF.out j hj)⟩
   ·have t8 : ¬ (8 : Int) ≤ (m : Int) := by omega
    clear hgo h8 hlen
    go_wp2_with fail
    go_loopw [1, 5] (fun nv xv wr => ∃ (m V c' : Nat) (A' : Option Addr), nv = .int .i64 m ∧ xv = .slice A' (digs 256 V).length c' ∧ m ≤ 8000000 ∧ (digs 256 V).length ≤ c' ∧ Hid (V * 2 ^ m = val B64 l * 2 ^ N ∧ Rd wr .i64 A' (digs 256 V) ∧ Below w.heap.size w wr)) (fun nv _ _ => (intOf nv).toNat)
    case atStart => exact ⟨m, V, c', A', rfl, rfl, hmb, hc', zmZ ⟨HI.out.eq, HI.out.rd, HI.out.below⟩⟩
    case round =>
     clear HI hc' hmb t8
     obtain ⟨m, V, c', A', rfl, rfl, hmb, hc', hI⟩ := hrel
     have hlen := HK.out V m hI.out.1
     by_cases hm0 : 0 < m
     ·have tm : (0 : Int) < (m : Int) := by omega
      by_cases hV : 0 < V
      ·have hpos : 0 < (digs 256 V).length := List.length_pos_iff.2 (fun e => by have := (zaD (b := 256) (by decide)).1 e; omega)
       have tl : (0 : Int) < ((digs 256 V).length : Int) := by omega
       have HT := zmZ (znO wr A' c' 0 (digs 256 V) (by omega) hI.out.2.1 (zaS (by decide) _) (by decide))
       rw [zag (by decide), Nat.add_zero] at HT
       have HE := zmZ (show 2 * V * 2 ^ (m - 1) = val B64 l * 2 ^ N by
        rw [← hI.out.1]
        obtain ⟨q, rfl⟩ : ∃ q, m = q + 1 := ⟨m - 1, by omega⟩
        rw [Nat.add_sub_cancel, Nat.pow_succ, Nat.mul_comm 2 V, Nat.mul_assoc, Nat.mul_comm 2])
       have Hbl := zmZ hI.out.2.2
       have tm1 : (m : Int) - 1 = ((m - 1 : Nat) : Int) := by omega
       have hm1 : m - 1 < m := by omega
       have hm2 : m - 1 ≤ 8000000 := by omega
       clear hI hlen hpos
       generalize m - 1 = m1 at *
       generalize 2 * V = V2 at *
       go_wp2_with fail
       refine HT.out.mono ?_
       rintro e w4 ⟨A4, c4, rfl, hc4, hr4, hb4, -⟩
       have HN := zmZ (And.intro HE.out (And.intro hr4 (Hbl.out.trans (hb4.mono Hbl.out.size))))
       clear hr4 hb4 HT HE Hbl
       go_wp2_with fail
       go_roundw
       case rel => exact ⟨m1, V2, c4, A4, by first | rfl | rw [tm1], rfl, hm2, hc4, HN⟩
       case measure => simp [intOf]; omega
      ·have hd : digs 256 V = [] := by rw [show V = 0 from by omega]; rfl
       have hX := zmZ (show val B64 l * 2 ^ N = 0 by rw [← hI.out.1, show V = 0 from by omega, Nat.zero_mul])
       have Hlg := zmZ (zn6 wr A' c' [] (by simp) (by simp) ⟨fun h => absurd h (by simp), fun i h => absurd h (by simp)⟩ (by simp))
       have Hbl := zmZ hI.out.2.2
       rw [hd]
       clear hI hlen hV hd hc' hm0
       go_wp2_with fail
       refine Hlg.out.mono ?_
       rintro e w4 ⟨A4, c4, rfl, hc4, hr4, hb4, hf4⟩
       have HC := zmZ hc4; have HR := zmZ hr4; have HB := zmZ hb4; have HF := zmZ hf4
       clear hc4 hr4 hb4 hf4
       go_wp2_with fail
       go_ret
       rw [hX.out]
       exact ⟨A4, c4, rfl, HC.out, HR.out, Hbl.out.trans (HB.out.mono Hbl.out.size), fun j hj => Nat.le_trans Hbl.out.size (HF.out j hj)⟩
     ·have tm : ¬ (0 : Int) < (m : Int) := by omega
      have hVX := hI.out.1
      rw [show m = 0 from by omega, Nat.pow_zero, Nat.mul_one] at hVX
      have HX := zmZ hVX
      have Hlg := zmZ (zn6 wr A' c' (digs 256 V) (by omega) hc' hI.out.2.1 (zaS (by decide) _))
      rw [zag (by decide)] at Hlg
      have Hbl := zmZ hI.out.2.2
      clear hI hlen hVX hm0 hc'
      go_wp2_with fail
      refine Hlg.out.mono ?_
      rintro e w4 ⟨A4, c4, rfl, hc4, hr4, hb4, hf4⟩
      have HC := zmZ hc4; have HR := zmZ hr4; have HB := zmZ hb4; have HF := zmZ hf4
      clear hc4 hr4 hb4 hf4
      go_wp2_with fail
      go_ret
      rw [← HX.out]
      exact ⟨A4, c4, rfl, HC.out, HR.out, Hbl.out.trans (HB.out.mono Hbl.out.size), fun j hj => Nat.le_trans Hbl.out.size (HF.out j hj)⟩

theorem zqn (w : World) : (sizeOf (Tryz.prog.elem 37)).run Tryz.prog w = .ok 1 w := by kernel_rfl
theorem znt {a : Nat} (h : 0 < a) : nth (digs B64 a) 0 % 2 = a % 2 ∧ nth (digs B64 a) 0 < B64 ∧ 0 < (digs B64 a).length := by
 have h1 := zag (b := B64) (by decide) a
 have h2 := zaS (b := B64) (by decide) a
 cases hd : digs B64 a with
 | nil => have := (zaD (b := B64) (by decide)).1 hd; omega
 | cons x t =>
  rw [hd] at h1 h2
  have hx := h2 x (by simp)
  refine ⟨?_, by simpa [nth] using hx, by simp⟩
  have e : nth (x :: t) 0 = x := rfl
  rw [e, ← h1, val]
  simp only [B64]
  omega
theorem znv {a : Nat} (h : 0 < a) : 0 < (digs B64 a).length := (znt h).2.2
theorem zpg {a n : Nat} (h : a < B64 ^ n) : (digs B64 a).length ≤ n := zcs (by decide) h
theorem zoc {x : Nat} (h : x % 2 = 0) : (x : Int) % 2 = 0 ∧ (x : Int).tmod 2 = 0 := ⟨by omega, by rw [Int.tmod_eq_emod_of_nonneg (by omega)]; omega⟩
theorem zp1 {x : Nat} (h : x % 2 = 1) : (x : Int) % 2 = 1 ∧ (x : Int).tmod 2 = 1 := ⟨by omega, by rw [Int.tmod_eq_emod_of_nonneg (by omega)]; omega⟩
structure G2 (w wr : World) (K a b : Nat) (A B : Option Addr) : Prop where
 ra : Rd wr .u64 A (digs B64 a)
 rb : Rd wr .u64 B (digs B64 b)
 below : Below w.heap.size w wr
 la : a < B64 ^ K
 lb : b < B64 ^ K
theorem zof {a b : Nat} (ha : a % 2 = 0) (hb : b % 2 = 1) : Nat.gcd (a / 2) b = Nat.gcd a b := by
 have := zdw 1 (a / 2) b hb
 rw [Nat.pow_one, show 2 * (a / 2) = a from by omega] at this
 exact this.symm
theorem zpl {a b : Nat} (ha : a % 2 = 1) (hb : b % 2 = 0) : Nat.gcd a (b / 2) = Nat.gcd a b := by
 rw [Nat.gcd_comm a, Nat.gcd_comm a]; exact zof hb ha
theorem zpn {a b : Nat} (h : a ≤ b) : Nat.gcd a (b - a) = Nat.gcd a b := by
 rw [Nat.gcd_comm a, Nat.gcd_comm a]; exact ziC b a h
theorem zpV {a b : Nat} (h : a = 0 ∨ b = 0) : Nat.gcd a b = a + b := by
 rcases h with rfl | rfl <;> simp
theorem zr5 {a t X K : Nat} (ha : 2 ≤ a) (e : a * 2 ^ t = X) (h : X < B64 ^ K) (hK : K ≤ 10000) : t + 1 ≤ 640000 := by
 have h1 : 2 ^ (t + 1) ≤ X := by
  rw [← e, Nat.pow_succ, Nat.mul_comm]
  exact Nat.mul_le_mul_right _ ha
 have h2 : X < 2 ^ (64 * K) := by
  rw [Nat.pow_mul]
  exact h
 have h3 := (Nat.pow_lt_pow_iff_right (a := 2) (by decide)).1 (Nat.lt_of_le_of_lt h1 h2)
 omega
set_option maxRecDepth 100000 in
theorem zpy (w : World) (A B : Option Addr) (c d K : Nat) (hK : K ≤ 10000) (l m : List Nat) (hl : l.length ≤ K) (hm : m.length ≤ K) (ha : Rd w .u64 A l) (hb : Rd w .u64 B m)
 (hx : ∀ x ∈ l, x < B64) (hy : ∀ x ∈ m, x < B64) :
 Calls Tryz.prog 205 #[.slice A l.length c, .slice B m.length d] w (RetL .u64 (digs B64 (Nat.gcd (val B64 l) (val B64 m))) w) := by
 have hlx := zn2 hx; have hly := zn2 hy
 have h1 := zqn
 have hX : val B64 l < B64 ^ K := Nat.lt_of_lt_of_le (zd0 hx) (Nat.pow_le_pow_right za0 hl)
 have hY : val B64 m < B64 ^ K := Nat.lt_of_lt_of_le (zd0 hy) (Nat.pow_le_pow_right za0 hm)
 have Hs1 := zmZ (zn3 w A c l (by omega) ha hx)
 have Hb := zmZ hb; have Hy := zmZ hy
 clear ha hx hb hy
 go_enter Tryz.func205, Tryz.ntmps205
 go_wp2_with fail
 refine Hs1.out.mono ?_
 rintro e w1 ⟨A1, c1, rfl, hc1, hr1, hb1, -⟩
 have Hl1 := zn6 w1 A1 c1 (digs 256 (val B64 l)) (by omega) hc1 hr1 (zaS (by decide) _)
 rw [zag (by decide)] at Hl1
 replace Hl1 := zmZ Hl1
 have Hb1 := zmZ hb1
 clear hc1 hr1 hb1 Hs1
 go_wp2_with fail
 refine Hl1.out.mono ?_
 rintro e w2 ⟨A2, c2, rfl, hc2, hr2, hb2, -⟩
 have Hr2 := zmZ hr2
 have Hb2 := zmZ (Hb1.out.trans (hb2.mono Hb1.out.size))
 have Hs2 := zmZ (zn3 w2 B d m (by omega) (Hb.out.below Hb2.out (Nat.le_refl _)) Hy.out)
 clear hc2 hr2 hb2 Hl1 Hb1
 go_wp2_with fail
 refine Hs2.out.mono ?_
 rintro e w3 ⟨A3, c3, rfl, hc3, hr3, hb3, -⟩
 have Hl3 := zn6 w3 A3 c3 (digs 256 (val B64 m)) (by omega) hc3 hr3 (zaS (by decide) _)
 rw [zag (by decide)] at Hl3
 replace Hl3 := zmZ Hl3
 have Hr3 := zmZ (Hr2.out.below hb3 (Nat.le_refl _))
 have Hb3 := zmZ (Hb2.out.trans (hb3.mono Hb2.out.size))
 clear hc3 hr3 hb3 Hs2 Hr2 Hb2
 go_wp2_with fail
 refine Hl3.out.mono ?_
 rintro e w4 ⟨A4, c4, rfl, hc4, hr4, hb4, -⟩
 have HG := zmZ (show G2 w w4 K (val B64 l) (val B64 m) A2 A4 from ⟨Hr3.out.below hb4 (Nat.le_refl _), hr4, Hb3.out.trans (hb4.mono Hb3.out.size), hX, hY⟩)
 clear hc4 hr4 hb4 Hl3 Hr3 Hb3 hlx hly
 go_wp2_with fail
 go_loopg [5, 6, 7] (val B64 l) (fun gk xv yv tv wr => ∃ (a b t ca cb : Nat) (A' B' : Option Addr), gk = a ∧ xv = .slice A' (digs B64 a).length ca ∧ yv = .slice B' (digs B64 b).length cb ∧ tv = .int .i64 t ∧ t ≤ 640000 ∧ Hid (a * 2 ^ t = val B64 l ∧ b * 2 ^ t = val B64 m) ∧ Hid (G2 w wr K a b A' B'))
 case atStart => exact ⟨_, _, 0, c2, c4, A2, A4, rfl, rfl, rfl, rfl, by omega, zmZ ⟨by simp, by simp⟩, HG⟩
 case round =>
  clear HG
  obtain ⟨a, b, t, ca, cb, A', B', rfl, rfl, rfl, rfl, ht, hE, hG⟩ := hrel
  generalize gk = a at *
  have hla := zpg hG.out.la
  have hlb := zpg hG.out.lb
  have ht1 : t + 1 ≤ 640000 ∨ ¬ (0 < a ∧ a % 2 = 0) := by
   by_cases h : 0 < a ∧ a % 2 = 0
   ·exact .inl (zr5 (a := a) (by omega) hE.out.1 hX hK)
   ·exact .inr h
  by_cases hall : 0 < a ∧ 0 < b ∧ a % 2 = 0 ∧ b % 2 = 0
  ·obtain ⟨h0, h0b, hx, hy⟩ := hall
   have ta : (0 : Int) < ((digs B64 a).length : Int) := by have := znv h0; omega
   have tb : (0 : Int) < ((digs B64 b).length : Int) := by have := znv h0b; omega
   obtain ⟨p1, p2, p3⟩ := znt h0
   have hca := hG.out.ra.cell 0 p3
   have hsa := hG.out.ra.sl
   obtain ⟨q1, q2, q3⟩ := znt h0b
   have hcb := hG.out.rb.cell 0 q3
   have hsb := hG.out.rb.sl
   generalize nth (digs B64 a) 0 = x at *
   generalize nth (digs B64 b) 0 = y at *
   obtain ⟨r1, r2⟩ := zoc (p1.trans hx)
   obtain ⟨s1, s2⟩ := zoc (q1.trans hy)
   have HS1 := zmZ (znx wr A' ca (digs B64 a) (by omega) hG.out.ra (zaS (by decide) _))
   have HS2 := zmZ (fun W (hW : Below wr.heap.size wr W) => znx W B' cb (digs B64 b) (by omega) (hG.out.rb.below hW (Nat.le_refl _)) (zaS (by decide) _))
   rw [zag (by decide)] at HS1 HS2
   have HE := zmZ (show a / 2 * 2 ^ (t + 1) = val B64 l ∧ b / 2 * 2 ^ (t + 1) = val B64 m by
    refine ⟨?_, ?_⟩
    ·rw [← hE.out.1, Nat.pow_succ, Nat.mul_comm (2 ^ t), ← Nat.mul_assoc, show a / 2 * 2 = a from by omega]
    ·rw [← hE.out.2, Nat.pow_succ, Nat.mul_comm (2 ^ t), ← Nat.mul_assoc, show b / 2 * 2 = b from by omega])
   have HB := zmZ hG.out.below
   have HL := zmZ (And.intro hG.out.la hG.out.lb)
   have ht2 : t + 1 ≤ 640000 := by rcases ht1 with h | h; exact h; exact absurd ⟨h0, hx⟩ h
   have hm1 : a / 2 < a := by omega
   clear p1 p2 p3 q1 q2 q3 hE hG hx hy h0 h0b hla hlb ht1
   go_wp2_with fail
   refine HS1.out.mono ?_
   rintro e w5 ⟨A5, c5, rfl, -, hr5, hb5, -⟩
   have H2 := zmZ (HS2.out w5 hb5)
   have HR5 := zmZ hr5
   replace HB := zmZ (HB.out.trans (hb5.mono HB.out.size))
   clear hr5 hb5 HS1 HS2 hca hcb hsa hsb
   go_wp2_with fail
   refine H2.out.mono ?_
   rintro e w6 ⟨A6, c6, rfl, -, hr6, hb6, -⟩
   have HN := zmZ (show G2 w w6 K (a / 2) (b / 2) A5 A6 from ⟨HR5.out.below hb6 (Nat.le_refl _), hr6, HB.out.trans (hb6.mono HB.out.size), Nat.lt_of_le_of_lt (Nat.div_le_self _ _) HL.out.1, Nat.lt_of_le_of_lt (Nat.div_le_self _ _) HL.out.2⟩)
   clear hr6 hb6 H2 HR5 HB HL
   go_wp2_with fail
   go_roundg (a / 2)
   case measure => exact hm1
   case rel => exact ⟨a / 2, b / 2, t + 1, c5, c6, A5, A6, rfl, rfl, rfl, by go_num, ht2, HE, HN⟩
  ·have h4 : (¬ 0 < a) ∨ (0 < a ∧ ¬ 0 < b) ∨ (0 < a ∧ 0 < b ∧ a % 2 = 1) ∨ (0 < a ∧ 0 < b ∧ a % 2 = 0 ∧ b % 2 = 1) := by omega
   have HP := zmZ (show Nat.gcd a b * 2 ^ t = Nat.gcd (val B64 l) (val B64 m) by rw [← hE.out.1, ← hE.out.2, Nat.gcd_mul_right])
   have HO := zmZ (show a % 2 = 1 ∨ b % 2 = 1 ∨ a = 0 ∨ b = 0 by omega)
   clear ht1 hE hall
   rcases h4 with h4 | ⟨h0, h0b⟩ | ⟨h0, h0b, hx⟩ | ⟨h0, h0b, hx, hy⟩
   focus
    have ta : ¬ (0 : Int) < ((digs B64 a).length : Int) := by rw [show a = 0 from by omega]; decide
    clear h4
    go_wp2_with fail
    clear ta
   rotate_left
   focus
    have ta : (0 : Int) < ((digs B64 a).length : Int) := by have := znv h0; omega
    have tb : ¬ (0 : Int) < ((digs B64 b).length : Int) := by rw [show b = 0 from by omega]; decide
    clear h0 h0b
    go_wp2_with fail
    clear ta tb
   rotate_left
   focus
    have ta : (0 : Int) < ((digs B64 a).length : Int) := by have := znv h0; omega
    have tb : (0 : Int) < ((digs B64 b).length : Int) := by have := znv h0b; omega
    obtain ⟨p1, p2, p3⟩ := znt h0
    have hca := hG.out.ra.cell 0 p3
    have hsa := hG.out.ra.sl
    generalize nth (digs B64 a) 0 = x at *
    obtain ⟨r1, r2⟩ := zp1 (p1.trans hx)
    clear h0 h0b hx p1 p2 p3
    go_wp2_with fail
    clear ta tb hca hsa r1 r2
   rotate_left
   focus
    have ta : (0 : Int) < ((digs B64 a).length : Int) := by have := znv h0; omega
    have tb : (0 : Int) < ((digs B64 b).length : Int) := by have := znv h0b; omega
    obtain ⟨p1, p2, p3⟩ := znt h0
    have hca := hG.out.ra.cell 0 p3
    have hsa := hG.out.ra.sl
    generalize nth (digs B64 a) 0 = x at *
    obtain ⟨q1, q2, q3⟩ := znt h0b
    have hcb := hG.out.rb.cell 0 q3
    have hsb := hG.out.rb.sl
    generalize nth (digs B64 b) 0 = y at *
    obtain ⟨r1, r2⟩ := zoc (p1.trans hx)
    obtain ⟨s1, s2⟩ := zp1 (q1.trans hy)
    clear h0 h0b hx hy p1 p2 p3 q1 q2 q3
    go_wp2_with fail
    clear ta tb hca hsa hcb hsb r1 r2 s1 s2
   rotate_left
   all_goals
    clear hla hlb
    go_loopg [5, 6] (a + b) (fun gk xv yv wr => ∃ (a b ca cb : Nat) (A' B' : Option Addr), gk = a + b ∧ xv = .slice A' (digs B64 a).length ca ∧ yv = .slice B' (digs B64 b).length cb ∧ Hid (Nat.gcd a b * 2 ^ t = Nat.gcd (val B64 l) (val B64 m)) ∧ Hid (a % 2 = 1 ∨ b % 2 = 1 ∨ a = 0 ∨ b = 0) ∧ Hid (G2 w wr K a b A' B'))
    case atStart => exact ⟨a, b, ca, cb, A', B', rfl, rfl, rfl, HP, HO, hG⟩
    case round =>
     clear HP HO hG
     obtain ⟨a, b, ca, cb, A', B', rfl, rfl, rfl, HP, HO, hG⟩ := hrel
     have hla := zpg hG.out.la
     have hlb := zpg hG.out.lb
     by_cases h0 : 0 < a
     ·have ta : (0 : Int) < ((digs B64 a).length : Int) := by have := znv h0; omega
      by_cases h0b : 0 < b
      ·have tb : (0 : Int) < ((digs B64 b).length : Int) := by have := znv h0b; omega
       obtain ⟨p1, p2, p3⟩ := znt h0
       have hca := hG.out.ra.cell 0 p3
       have hsa := hG.out.ra.sl
       obtain ⟨q1, q2, q3⟩ := znt h0b
       have hcb := hG.out.rb.cell 0 q3
       have hsb := hG.out.rb.sl
       have ho := HO.out
       generalize nth (digs B64 a) 0 = x at *
       generalize nth (digs B64 b) 0 = y at *
       rcases Nat.mod_two_eq_zero_or_one a with hx | hx
       ·obtain ⟨r1, r2⟩ := zoc (p1.trans hx)
        have hbo : b % 2 = 1 := by omega
        clear ho
        have HS1 := zmZ (znx wr A' ca (digs B64 a) (by omega) hG.out.ra (zaS (by decide) _))
        rw [zag (by decide)] at HS1
        have HE := zmZ (show Nat.gcd (a / 2) (b) * 2 ^ t = Nat.gcd (val B64 l) (val B64 m) by rw [zof hx hbo]; exact HP.out)
        have HO2 : Hid ((a / 2) % 2 = 1 ∨ (b) % 2 = 1 ∨ a / 2 = 0 ∨ b = 0) := zmZ (by omega)
        have hm1 : a / 2 + b < a + b := by omega
        have HG := zmZ hG.out
        clear p1 p2 p3 q1 q2 q3 hG HP HO hla hlb h0 h0b hx hbo
        go_wp2_with fail
        refine HS1.out.mono ?_
        rintro e w5 ⟨A5, c5, rfl, -, hr5, hb5, -⟩
        have HN := zmZ (show G2 w w5 K (a / 2) (b) A5 B' from ⟨hr5, HG.out.rb.below hb5 (Nat.le_refl _), HG.out.below.trans (hb5.mono HG.out.below.size), Nat.lt_of_le_of_lt (Nat.div_le_self _ _) HG.out.la, HG.out.lb⟩)
        clear hr5 hb5 HS1 HG hca hcb hsa hsb
        go_wp2_with fail
        go_roundg (a / 2 + b)
        case measure => exact hm1
        case rel => exact ⟨a / 2, b, c5, cb, A5, B', rfl, rfl, rfl, HE, HO2, HN⟩
       ·obtain ⟨r1, r2⟩ := zp1 (p1.trans hx)
        clear ho
        rcases Nat.mod_two_eq_zero_or_one b with hy | hy
        ·obtain ⟨s1, s2⟩ := zoc (q1.trans hy)
         have HS1 := zmZ (znx wr B' cb (digs B64 b) (by omega) hG.out.rb (zaS (by decide) _))
         rw [zag (by decide)] at HS1
         have HE := zmZ (show Nat.gcd (a) (b / 2) * 2 ^ t = Nat.gcd (val B64 l) (val B64 m) by rw [zpl hx hy]; exact HP.out)
         have HO2 : Hid ((a) % 2 = 1 ∨ (b / 2) % 2 = 1 ∨ a = 0 ∨ b / 2 = 0) := zmZ (by omega)
         have hm1 : a + b / 2 < a + b := by omega
         have HG := zmZ hG.out
         clear p1 p2 p3 q1 q2 q3 hG HP HO hla hlb h0 h0b hx hy
         go_wp2_with fail
         refine HS1.out.mono ?_
         rintro e w5 ⟨A5, c5, rfl, -, hr5, hb5, -⟩
         have HN := zmZ (show G2 w w5 K (a) (b / 2) A' A5 from ⟨HG.out.ra.below hb5 (Nat.le_refl _), hr5, HG.out.below.trans (hb5.mono HG.out.below.size), HG.out.la, Nat.lt_of_le_of_lt (Nat.div_le_self _ _) HG.out.lb⟩)
         clear hr5 hb5 HS1 HG hca hcb hsa hsb
         go_wp2_with fail
         go_roundg (a + b / 2)
         case measure => exact hm1
         case rel => exact ⟨a, b / 2, ca, c5, A', A5, rfl, rfl, rfl, HE, HO2, HN⟩
        ·obtain ⟨s1, s2⟩ := zp1 (q1.trans hy)
         by_cases hle : b ≤ a
         ·skip
          have HC := zmZ (znQ wr A' B' ca cb (digs B64 a) (digs B64 b) (by omega) (by omega) hG.out.ra hG.out.rb (zaS (by decide) _) (zaS (by decide) _))
          rw [zag (by decide), zag (by decide)] at HC
          have tz : (0 : Int) ≤ cmpN a b := by unfold cmpN; split; omega; split <;> decide
          have HS1 := zmZ (fun (W : World) (hW : Below wr.heap.size wr W) => znP W A' B' ca cb (digs B64 a) (digs B64 b) (by omega) (by omega) (hG.out.ra.below hW (Nat.le_refl _)) (hG.out.rb.below hW (Nat.le_refl _)) (zaS (by decide) _) (zaS (by decide) _))
          rw [zag (by decide), zag (by decide)] at HS1
          have HE := zmZ (show Nat.gcd (a - b) (b) * 2 ^ t = Nat.gcd (val B64 l) (val B64 m) by rw [ziC a b hle]; exact HP.out)
          have HO2 : Hid ((a - b) % 2 = 1 ∨ (b) % 2 = 1 ∨ a - b = 0 ∨ b = 0) := zmZ (by omega)
          have hm1 : a - b + (b) < a + b := by omega
          have HG := zmZ hG.out
          clear p1 p2 p3 q1 q2 q3 hG HP HO hla hlb h0 h0b hle hx hy
          generalize cmpN a b = cz at *
          go_wp2_with fail
          refine HC.out.mono ?_
          rintro e w5 ⟨rfl, hb5⟩
          have H2 := zmZ (HS1.out w5 hb5)
          have Hb5 := zmZ hb5
          clear hb5 HS1 HC hca hcb hsa hsb
          go_wp2_with fail
          refine H2.out.mono ?_
          rintro e w6 ⟨A6, c6, rfl, -, hr6, hb6, -⟩
          have Hb7 := zmZ (Hb5.out.trans (hb6.mono Hb5.out.size))
          have HN := zmZ (show G2 w w6 K (a - b) (b) A6 B' from ⟨hr6, HG.out.rb.below Hb7.out (Nat.le_refl _), HG.out.below.trans (Hb7.out.mono HG.out.below.size), Nat.lt_of_le_of_lt (Nat.sub_le _ _) HG.out.la, HG.out.lb⟩)
          clear hr6 hb6 H2 Hb5 Hb7 HG
          go_wp2_with fail
          go_roundg (a - b + (b))
          case measure => exact hm1
          case rel => exact ⟨a - b, b, c6, cb, A6, B', rfl, rfl, rfl, HE, HO2, HN⟩
         ·skip
          have HC := zmZ (znQ wr A' B' ca cb (digs B64 a) (digs B64 b) (by omega) (by omega) hG.out.ra hG.out.rb (zaS (by decide) _) (zaS (by decide) _))
          rw [zag (by decide), zag (by decide)] at HC
          have tz : ¬ (0 : Int) ≤ cmpN a b := by unfold cmpN; rw [if_pos (by omega)]; decide
          have HS1 := zmZ (fun (W : World) (hW : Below wr.heap.size wr W) => znP W B' A' cb ca (digs B64 b) (digs B64 a) (by omega) (by omega) (hG.out.rb.below hW (Nat.le_refl _)) (hG.out.ra.below hW (Nat.le_refl _)) (zaS (by decide) _) (zaS (by decide) _))
          rw [zag (by decide), zag (by decide)] at HS1
          have HE := zmZ (show Nat.gcd (a) (b - a) * 2 ^ t = Nat.gcd (val B64 l) (val B64 m) by rw [zpn (Nat.le_of_not_le hle)]; exact HP.out)
          have HO2 : Hid ((a) % 2 = 1 ∨ (b - a) % 2 = 1 ∨ a = 0 ∨ b - a = 0) := zmZ (by omega)
          have hm1 : a + (b - a) < a + b := by omega
          have HG := zmZ hG.out
          clear p1 p2 p3 q1 q2 q3 hG HP HO hla hlb h0 h0b hle hx hy
          generalize cmpN a b = cz at *
          go_wp2_with fail
          refine HC.out.mono ?_
          rintro e w5 ⟨rfl, hb5⟩
          have H2 := zmZ (HS1.out w5 hb5)
          have Hb5 := zmZ hb5
          clear hb5 HS1 HC hca hcb hsa hsb
          go_wp2_with fail
          refine H2.out.mono ?_
          rintro e w6 ⟨A6, c6, rfl, -, hr6, hb6, -⟩
          have Hb7 := zmZ (Hb5.out.trans (hb6.mono Hb5.out.size))
          have HN := zmZ (show G2 w w6 K (a) (b - a) A' A6 from ⟨HG.out.ra.below Hb7.out (Nat.le_refl _), hr6, HG.out.below.trans (Hb7.out.mono HG.out.below.size), HG.out.la, Nat.lt_of_le_of_lt (Nat.sub_le _ _) HG.out.lb⟩)
          clear hr6 hb6 H2 Hb5 Hb7 HG
          go_wp2_with fail
          go_roundg (a + (b - a))
          case measure => exact hm1
          case rel => exact ⟨a, b - a, ca, c6, A', A6, rfl, rfl, rfl, HE, HO2, HN⟩
      ·have tb : ¬ (0 : Int) < ((digs B64 b).length : Int) := by rw [show b = 0 from by omega]; decide
       have HA := zmZ (zoX wr A' B' ca cb (digs B64 a) (digs B64 b) (by omega) (by omega) hG.out.ra hG.out.rb (zaS (by decide) _) (zaS (by decide) _))
       rw [zag (by decide), zag (by decide)] at HA
       have HE := zmZ (show (a + b) * 2 ^ t = Nat.gcd (val B64 l) (val B64 m) by rw [← HP.out, zpV (by omega)])
       have hab : (digs B64 (a + b)).length ≤ 10001 := by
        refine Nat.le_trans (zpg (n := K + 1) ?_) (by omega)
        have e1 := hG.out.la; have e2 := hG.out.lb
        have e3 : B64 ^ K * 2 ≤ B64 ^ (K + 1) := by rw [Nat.pow_succ]; exact Nat.mul_le_mul_left _ (by decide)
        omega
       have HS := zmZ (fun (W : World) (A'' : Option Addr) (c'' : Nat) (hr : Rd W .u64 A'' (digs B64 (a + b))) => zog W A'' c'' t (digs B64 (a + b)) (by omega) (by omega) hr (zaS (by decide) _))
       rw [zag (by decide)] at HS
       have HB := zmZ hG.out.below
       clear hab HP HO hG hla hlb h0 h0b
       go_wp2_with fail
       refine HA.out.mono ?_
       rintro e w5 ⟨A5, c5, rfl, -, hr5, hb5, -⟩
       have H2 := zmZ (HS.out w5 A5 c5 hr5)
       replace HB := zmZ (HB.out.trans (hb5.mono HB.out.size))
       clear hr5 hb5 HA HS
       go_wp2_with fail
       refine H2.out.mono ?_
       rintro e w6 ⟨A6, c6, rfl, hc6, hr6, hb6, hf6⟩
       have HC := zmZ hc6; have HR := zmZ hr6; have HB6 := zmZ hb6; have HF := zmZ hf6
       clear hc6 hr6 hb6 hf6 H2
       go_wp2_with fail
       go_ret
       rw [← HE.out]
       exact ⟨A6, c6, rfl, HC.out, HR.out, HB.out.trans (HB6.out.mono HB.out.size), fun j hj => Nat.le_trans HB.out.size (HF.out j hj)⟩
     ·have ta : ¬ (0 : Int) < ((digs B64 a).length : Int) := by rw [show a = 0 from by omega]; decide
      have HA := zmZ (zoX wr A' B' ca cb (digs B64 a) (digs B64 b) (by omega) (by omega) hG.out.ra hG.out.rb (zaS (by decide) _) (zaS (by decide) _))
      rw [zag (by decide), zag (by decide)] at HA
      have HE := zmZ (show (a + b) * 2 ^ t = Nat.gcd (val B64 l) (val B64 m) by rw [← HP.out, zpV (by omega)])
      have hab : (digs B64 (a + b)).length ≤ 10001 := by
       refine Nat.le_trans (zpg (n := K + 1) ?_) (by omega)
       have e1 := hG.out.la; have e2 := hG.out.lb
       have e3 : B64 ^ K * 2 ≤ B64 ^ (K + 1) := by rw [Nat.pow_succ]; exact Nat.mul_le_mul_left _ (by decide)
       omega
      have HS := zmZ (fun (W : World) (A'' : Option Addr) (c'' : Nat) (hr : Rd W .u64 A'' (digs B64 (a + b))) => zog W A'' c'' t (digs B64 (a + b)) (by omega) (by omega) hr (zaS (by decide) _))
      rw [zag (by decide)] at HS
      have HB := zmZ hG.out.below
      clear hab HP HO hG hla hlb h0
      go_wp2_with fail
      refine HA.out.mono ?_
      rintro e w5 ⟨A5, c5, rfl, -, hr5, hb5, -⟩
      have H2 := zmZ (HS.out w5 A5 c5 hr5)
      replace HB := zmZ (HB.out.trans (hb5.mono HB.out.size))
      clear hr5 hb5 HA HS
      go_wp2_with fail
      refine H2.out.mono ?_
      rintro e w6 ⟨A6, c6, rfl, hc6, hr6, hb6, hf6⟩
      have HC := zmZ hc6; have HR := zmZ hr6; have HB6 := zmZ hb6; have HF := zmZ hf6
      clear hc6 hr6 hb6 hf6 H2
      go_wp2_with fail
      go_ret
      rw [← HE.out]
      exact ⟨A6, c6, rfl, HC.out, HR.out, HB.out.trans (HB6.out.mono HB.out.size), fun j hj => Nat.le_trans HB.out.size (HF.out j hj)⟩
end Go.Proofs.YtikmgoefjbhcjaaGreatDoor
