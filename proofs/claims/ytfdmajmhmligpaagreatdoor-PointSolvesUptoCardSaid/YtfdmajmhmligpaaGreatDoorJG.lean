/-
 tripwirekit: SameInt, SameRat, SameRats, SameStatuses of things that are the same. The example of law 16: what its numbers are (plain law). The example of law 16: what the program's functions tell of it.
-/
import Derived.Test.YtfdmajmhmligpaaGreatDoorJD
namespace Go.Proofs.YtfdmajmhmligpaaGreatDoor
set_option maxHeartbeats 2000000
open Go.RowKit

theorem Rd.old_ {w : World} {k : IntKind} {A : Option Addr} {l : List Nat} (h : Rd w k A l) : Rests w (· < w.heap.size) (fun V => Rd V k A l) := ⟨h, fun _ hw => h.keep fun _ hp => World.cell?_of_block (hw _ hp hp)⟩
set_option maxRecDepth 100000 in
theorem zmF (w : World) (neg : Bool) (A B : Option Addr) (c9 d : Nat) (l : List Nat) (hl : l.length ≤ 1000000) (ha : Rd w .u64 A l) (hb : Rd w .u64 B l) : Calls Tryz.prog 106 #[.agg #[.bool neg, .slice A l.length c9], .agg #[.bool neg, .slice B l.length d]] w fun e w' => e = .returned (.bool true) ∧ Below w.heap.size w w' := by
 have slA := ha.sl
 have slB := hb.sl
 have hadd := zaa
 obtain ⟨W0, hW0⟩ : ∃ W0, W0 = ((w.alloc (.cells #[.bool neg, .slice A l.length c9] 46)).alloc (.cells #[.bool neg, .slice B l.length d] 46)) := ⟨_, rfl⟩
 have HE := znd (Env.lay2 (Env.start ((ha.old_).and (hb.old_))) hW0)
 subst hW0
 have c := Env.c2 HE.out
 have dd := Env.d2 HE.out
 clear ha hb
 obtain ⟨L, hL⟩ : ∃ L, L = l.length := ⟨_, rfl⟩
 have HL := znd hL
 rw [← hL] at slA slB HE c hl ⊢
 clear hL
 go_enter Tryz.func106, Tryz.ntmps106
 go_wp2_with fail
 go_loopw [5] (fun iv wr => ∃ i : Nat, iv = .int .i64 (i : Int) ∧ i ≤ L ∧ Hid (Env w [⟨w.heap.size + 1, 46, #[.bool neg, .slice B L d]⟩, ⟨w.heap.size, 46, #[.bool neg, .slice A L c9]⟩] (fun V => Rd V .u64 A l ∧ Rd V .u64 B l) (fun _ => True) wr)) (fun iv _ => L - (intOf iv).toNat)
 case atStart => exact ⟨0, rfl, Nat.zero_le _, HE⟩
 case round =>
  clear HE c
  obtain ⟨i, rfl, hi, HE⟩ := hrel
  have cc := Env.c2 HE.out
  by_cases hlt : i < L
  ·have hil : i < l.length := by rw [← HL.out]; exact hlt
   have ca := HE.out.o.1.cell i hil
   have cb := HE.out.o.2.cell i hil
   obtain ⟨x, hx⟩ : ∃ x, x = nth l i := ⟨_, rfl⟩
   rw [← hx] at ca cb
   clear hx
   go_upto_region 6 with fail
   go_quiet (fail)
   go_wp2_with fail
   go_roundw
   case rel => exact ⟨i + 1, by go_num, by omega, znd (HE.out.drewN _)⟩
   case measure => (simp [intOf] <;> omega)
  ·obtain rfl : L = i := by omega
   have hnu : ¬ (L : Int) < (L : Int) := by omega
   go_wp2_with fail
   exact bodyPost_ret (v := .bool true) (by simp [results, Tryz.results106, go_sem]) rfl ⟨rfl, HE.out.bel⟩
theorem zgl (w : World) (i j : IV) (z : Int) (n : Nat) (hn : n ≤ 1000000) (hs : (digs B64 z.natAbs).length ≤ n) (hz : IntN i z w) (hy : IntN j z w) : Calls Tryz.prog 106 #[iA i, iA j] w fun e w' => e = .returned (.bool true) ∧ Below w.heap.size w w' := by
 have h := zmF w i.neg i.A j.A i.c j.c _ (by omega) hz.rd hy.rd
 rw [← hz.k] at h
 have e1 : j.neg = i.neg := by rw [hz.neg, hy.neg]
 have e2 : j.k = i.k := by rw [hz.k, hy.k]
 obtain ⟨jn, jA, jk, jc⟩ := j
 dsimp only at e1 e2
 subst e1 e2
 exact h
set_option maxRecDepth 100000 in
theorem zk1 (w : World) (r s : RV) (q : Rat) (n : Nat) (hn : n ≤ 1000000) (hs : Sz q n) (h : RatN r q w) (h2 : RatN s q w) : Calls Tryz.prog 71 #[rA r, rA s] w fun e w' => e = .returned (.bool true) ∧ Below w.heap.size w w' := by
 have Hs := znd hs
 have HE := znd (lyRR r s ((h.old).and (h2.old)))
 have c := Env.c2 HE.out
 have dd := Env.d2 HE.out
 clear h h2 hs
 unfold rA
 go_enter Tryz.func71, Tryz.ntmps71
 go_wp2_with fail
 refine (zgl _ r.num s.num _ n hn (zbG Hs.out.1) (HE.out.o.1.num) (HE.out.o.2.num)).mono ?_
 rintro e w1 ⟨rfl, hb⟩
 replace HE := znd (Env.cx HE.out hb)
 replace c := Env.c2 HE.out
 clear hb
 go_wp2_with fail
 refine (zgl _ r.den s.den _ n hn (zbG (by have h9 := Hs.out.2; unfold dn; split <;> omega)) (HE.out.o.1.den) (HE.out.o.2.den)).mono ?_
 rintro e w2 ⟨rfl, hb⟩
 replace HE := znd (Env.cx HE.out hb)
 replace c := Env.c2 HE.out
 clear hb
 go_wp2_with fail
 exact bodyPost_ret (v := .bool true) (by simp [results, Tryz.results71, go_sem]) rfl ⟨rfl, HE.out.bel⟩
set_option maxRecDepth 100000 in
theorem zkk (w : World) (SA SB : Option Addr) (c d : Nat) (st : List Int) (hl : st.length ≤ 1000000) (ha : LsR 1 stc (fun _ _ => True) SA st w) (hb : LsR 1 stc (fun _ _ => True) SB st w) : Calls Tryz.prog 29 #[.slice SA st.length c, .slice SB st.length d] w fun e w' => e = .returned (.bool true) ∧ Below w.heap.size w w' := by
 have slA := ha.sl
 have slB := hb.sl
 have hadd := zaa
 have HE := znd (Env.start (old := fun V => LsR 1 stc (fun _ _ => True) SA st V ∧ LsR 1 stc (fun _ _ => True) SB st V) ((ha.old zdk).and (hb.old zdk)))
 obtain ⟨L, hL⟩ : ∃ L, L = st.length := ⟨_, rfl⟩
 have HL := znd hL
 rw [← hL] at slA slB hl ⊢
 clear ha hb hL
 have szs := zcf
 go_enter Tryz.func29, Tryz.ntmps29
 go_wp2_with fail
 go_loopw [5] (fun iv wr => ∃ i : Nat, iv = .int .i64 (i : Int) ∧ i ≤ L ∧ Hid (Env w [] (fun V => LsR 1 stc (fun _ _ => True) SA st V ∧ LsR 1 stc (fun _ _ => True) SB st V) (fun _ => True) wr)) (fun iv _ => L - (intOf iv).toNat)
 case atStart => exact ⟨0, rfl, Nat.zero_le _, HE⟩
 case round =>
  clear HE
  obtain ⟨i, rfl, hi, HE⟩ := hrel
  by_cases hlt : i < L
  ·have hil : i < st.length := by rw [← HL.out]; exact hlt
   have ca := HE.out.o.1.c1 i hil
   have cb := HE.out.o.2.c1 i hil
   obtain ⟨x, hx⟩ : ∃ x, x = st[i] := ⟨_, rfl⟩
   rw [← hx] at ca cb
   clear hx
   go_upto_region 6 with fail
   go_quiet (fail)
   go_wp2_with fail
   go_roundw
   case rel => exact ⟨i + 1, by go_num, by omega, znd (HE.out.drewN _)⟩
   case measure => (simp [intOf] <;> omega)
  ·obtain rfl : L = i := by omega
   have hnu : ¬ (L : Int) < (L : Int) := by omega
   go_wp2_with fail
   exact bodyPost_ret (v := .bool true) (by simp [results, Tryz.results29, go_sem]) rfl ⟨rfl, HE.out.bel⟩
set_option maxRecDepth 100000 in
theorem zfa (w : World) (A B : Option Addr) (c d : Nat) (l m : List (RV × Rat)) (n : Nat) (hn : n ≤ 1000000) (hl : l.length ≤ 1000000) (hlm : l.length = m.length) (hq : ∀ i (h : i < l.length) (h2 : i < m.length), (l[i]).2 = (m[i]).2) (hs : ∀ p ∈ l, Sz p.2 n) (ha : LsR 4 za0 roN A l w) (hb : LsR 4 za0 roN B m w) : Calls Tryz.prog 30 #[.slice A l.length c, .slice B m.length d] w fun e w' => e = .returned (.bool true) ∧ Below w.heap.size w w' := by
 have slA := ha.sl
 have slB := hb.sl
 have hadd := zaa
 have HG := znd ((GL.start (Env.start (old := fun V => LsR 4 za0 roN A l V ∧ LsR 4 za0 roN B m V) ((ha.old zdc).and (hb.old zdc)))).imp (fun _ h => h.2) (fun _ h => h))
 obtain ⟨L, hL⟩ : ∃ L, L = l.length := ⟨_, rfl⟩
 have HL := znd hL
 have HM := znd (hL.trans hlm)
 have HQ := znd hq
 have HS := znd hs
 rw [← hlm, ← hL] at slB ⊢
 rw [← hL] at slA hl
 clear ha hb hL hlm hq hs
 have szr := zal
 go_enter Tryz.func30, Tryz.ntmps30
 go_wp2_with fail
 go_loopw [5] (fun iv wr => ∃ i : Nat, iv = .int .i64 (i : Int) ∧ i ≤ L ∧ Hid (GL w [] (fun V => LsR 4 za0 roN A l V ∧ LsR 4 za0 roN B m V) (fun _ => True) wr)) (fun iv _ => L - (intOf iv).toNat)
 case atStart => exact ⟨0, rfl, Nat.zero_le _, HG⟩
 case round =>
  clear HG
  obtain ⟨i, rfl, hi, HG⟩ := hrel
  by_cases hlt : i < L
  ·have hil : i < l.length := by rw [← HL.out]; exact hlt
   have him : i < m.length := by rw [← HM.out]; exact hlt
   have ca := HG.out.o.1.rc i hil
   have cb := HG.out.o.2.rc i him
   have HRR := znd (show ∀ V, LsR 4 za0 roN A l V ∧ LsR 4 za0 roN B m V → RC A i l[i] V ∧ RC B i m[i] V from fun V h => ⟨h.1.rc i hil, h.2.rc i him⟩)
   have HRO := znd (show ∀ V, LsR 4 za0 roN A l V ∧ LsR 4 za0 roN B m V → RatN (l[i]).1 (l[i]).2 V ∧ RatN (m[i]).1 (l[i]).2 V from fun V h => ⟨h.1.ok _ (List.getElem_mem hil), by rw [HQ.out i hil him]; exact h.2.ok _ (List.getElem_mem him)⟩)
   have HSI := znd (HS.out _ (List.getElem_mem hil))
   obtain ⟨x, hx⟩ : ∃ x, x = l[i] := ⟨_, rfl⟩
   obtain ⟨y, hy⟩ : ∃ y, y = m[i] := ⟨_, rfl⟩
   rw [← hx] at ca HRR HRO HSI
   rw [← hy] at cb HRR HRO
   clear hx hy
   go_upto_region 6 with fail
   refine wp_region_noPanic ?_
   refine wp_region_held_drew (S := (fun V => RC A i x V ∧ RC B i y V)) (by kernel_rfl) (by with_reducible first | exact HRR.out _ HG.out.o | exact HRR.out _ HG.out.drew.o) (fun hHeld => ?_)
   replace HG := znd HG.out.drew
   refine hT 0 17 hHeld ?_
   refine hT 1 18 hHeld ?_
   refine hT 2 19 hHeld ?_
   refine hT 3 20 hHeld ?_
   refine hT 4 21 hHeld ?_
   refine hT 5 22 hHeld ?_
   refine hT 6 23 hHeld ?_
   refine hT 7 24 hHeld ?_
   refine za8 (i := 8) rfl (by kernel_rfl) (by rfl) (fun K hK => ?_)
   clear hHeld
   simp only [q1, q2, q3]
   go_simp
   refine (zk1 _ x.1 y.1 x.2 n hn HSI.out (HRO.out _ HG.out.o).1 (HRO.out _ HG.out.o).2).mono ?_
   rintro e w3 ⟨rfl, hb⟩
   replace HG := znd (HG.out.skip hb)
   clear hb
   (try (go_wp2_with fail))
   refine hK.out _ _ (by with_reducible first | exact HRR.out _ HG.out.o | exact HRR.out _ HG.out.drew.o) (fun hHeld => ?_)
   clear hK K
   try simp only [p1, p2, p3, p4]
   refine hT 9 26 hHeld ?_
   clear hHeld
   refine wpAnyH_done (by kernel_rfl) ?_ _
   refine NoPanic.normal ?_
   go_wp2_with fail
   go_roundw
   case rel => exact ⟨i + 1, by go_num, by omega, znd (by with_reducible first | exact HG.out | exact HG.out.drew)⟩
   case measure => (simp [intOf] <;> omega)
  ·obtain rfl : L = i := by omega
   have hnu : ¬ (L : Int) < (L : Int) := by omega
   go_wp2_with fail
   exact bodyPost_ret (v := .bool true) (by simp [results, Tryz.results30, go_sem]) rfl ⟨rfl, HG.out.bel⟩

theorem PlK.fo {p : PlK} {lo hi : List (RV × Rat)} {V : World} (h : p.rest V) (hl : LsR 4 za0 roN (some ⟨p.gl, 0, none⟩) lo V) (hh : LsR 4 za0 roN (some ⟨p.gh, 0, none⟩) hi V) (sl : ∀ x ∈ lo, Sz x.2 4) (sh : ∀ x ∈ hi, Sz x.2 4) : FoD 4 (p.form lo hi) V := by
 have s1 : Sz 1 4 := ⟨of_decide_eq_true (by kernel_rfl), of_decide_eq_true (by kernel_rfl)⟩
 refine ⟨h.1.imp fun v hv hok => LsR.imp hok fun t ht hn => RatN.rat hn ?_, hl.imp fun x hx hn => RatN.rat hn (sl x hx), hh.imp fun x hx hn => RatN.rat hn (sh x hx), h.2.1.imp fun x hx hn => RatN.rat hn ?_, h.2.2.1.imp fun x hx hn => RatN.rat hn ?_⟩
 ·simp only [PlK.cols, List.mem_cons, List.not_mem_nil, or_false] at hv
  rcases hv with rfl | rfl
  ·rw [List.mem_singleton.1 ht]; exact s1
  ·rw [List.mem_singleton.1 ht]; exact s1
 ·simp only [PlK.cost, List.mem_cons, List.not_mem_nil, or_false] at hx
  rcases hx with rfl | rfl
  ·exact ⟨of_decide_eq_true (by kernel_rfl), of_decide_eq_true (by kernel_rfl)⟩
  ·exact ⟨of_decide_eq_true (by kernel_rfl), of_decide_eq_true (by kernel_rfl)⟩
 ·simp only [PlK.b, List.mem_singleton] at hx
  rw [hx]; exact ⟨of_decide_eq_true (by kernel_rfl), of_decide_eq_true (by kernel_rfl)⟩
theorem PlK.small (p : PlK) (lo hi : List (RV × Rat)) (h1 : lo.length = 2) (h2 : hi.length = 2) : FSmall (p.form lo hi) := by
 refine ⟨of_decide_eq_true (by kernel_rfl), by show 2 ≤ 12; omega, fun v hv => ?_, by show lo.length ≤ 20; omega, by show hi.length ≤ 20; omega, by show 2 ≤ 20; omega, by show 1 ≤ 20; omega⟩
 simp only [PlK.form, PlK.cols, List.mem_cons, List.not_mem_nil, or_false] at hv
 rcases hv with rfl | rfl <;> show 1 ≤ 20 <;> omega
theorem PlK.right {p : PlK} {a b c d : RV × Rat} {V : World} (h : p.rest V) (h1 : ¬ 0 < cmpQ a.2 c.2) (h2 : ¬ 0 < cmpQ b.2 d.2) : FRight (p.form [a, b] [c, d]) V := by
 refine ⟨of_decide_eq_true (by kernel_rfl), rfl, rfl, rfl, rfl, fun j hj => ?_, fun j hj hj' => ?_⟩
 ·have hok := h.1.ok _ (List.getElem_mem (l := p.cols) hj)
  match j, hj with
  | 0, _ => exact ⟨fun t ht => by rw [List.mem_singleton.1 ht]; exact ⟨of_decide_eq_true (by kernel_rfl), of_decide_eq_true (by kernel_rfl)⟩, List.pairwise_singleton _ _, fun t ht => by rw [List.mem_singleton.1 ht]; exact of_decide_eq_true (by kernel_rfl), fun t ht => LsR.ok hok t ht⟩
  | 1, _ => exact ⟨fun t ht => by rw [List.mem_singleton.1 ht]; exact ⟨of_decide_eq_true (by kernel_rfl), of_decide_eq_true (by kernel_rfl)⟩, List.pairwise_singleton _ _, fun t ht => by rw [List.mem_singleton.1 ht]; exact of_decide_eq_true (by kernel_rfl), fun t ht => LsR.ok hok t ht⟩
 ·match j, hj with
  | 0, _ => exact h1
  | 1, _ => exact h2
def PlK.f (p : PlK) : FoV := p.form [(za9, 0), (za9, 0)] [(p.k3, 3), (p.k4, 9)]
theorem PlK.fod {p : PlK} {V : World} (h : p.rest V) (h1 : Blk V p.gl 48 (c8 (za9, 0) (za9, 0))) (h2 : Blk V p.gh 48 (c8 (p.k3, 3) (p.k4, 9))) : FoD 4 p.f V := by
 refine PlK.fo h (ls2 h1 (zbX V) (zbX V)) (ls2 h2 h.2.2.2.1 h.2.2.2.2) ?_ ?_
 ·intro x hx
  simp only [List.mem_cons, List.not_mem_nil, or_false] at hx
  rcases hx with rfl | rfl <;> exact ⟨of_decide_eq_true (by kernel_rfl), of_decide_eq_true (by kernel_rfl)⟩
 ·intro x hx
  simp only [List.mem_cons, List.not_mem_nil, or_false] at hx
  rcases hx with rfl | rfl <;> exact ⟨of_decide_eq_true (by kernel_rfl), of_decide_eq_true (by kernel_rfl)⟩
theorem PlK.fsm (p : PlK) : FSmall p.f := p.small _ _ rfl rfl
theorem PlK.fri {p : PlK} {V : World} (h : p.rest V) : FRight p.f V := PlK.right h (of_decide_eq_true (by kernel_rfl)) (of_decide_eq_true (by kernel_rfl))
theorem PlK.slack (p : PlK) : SlackP p.f 1 := by
 refine ⟨rfl, fun i hi => ?_, fun i hi => ?_⟩
 ·obtain rfl : i = 0 := by
   have h9 : 1 + i < 2 := hi
   omega
  exact ⟨p.k2, rfl⟩
 ·obtain rfl : i = 0 := by
   have h9 : i < 1 := hi
   omega
  rfl
theorem PlK.r0 (p : PlK) : rowQ p.f.cols 0 ((0 : Nat) : Int) = 1 := of_decide_eq_true (by kernel_rfl)
theorem PlK.r1 (p : PlK) : rowQ p.f.cols 1 ((0 : Nat) : Int) = 1 := of_decide_eq_true (by kernel_rfl)
theorem PlK.start (p : PlK) : (List.range p.f.cols.length).map (zaU p.f 1) = [2, 0] := of_decide_eq_true (by kernel_rfl)
theorem ns1 {R : Nat → Nat → Rat} (h : R 0 0 = 1) : ¬ Sing 1 R := by
 rintro ⟨b, hb⟩
 refine hb b fun i hi => ?_
 obtain rfl : i = 0 := by omega
 show 0 + R 0 0 * b 0 = b 0
 rw [h, Rat.one_mul, Rat.zero_add]
theorem PlK.isb2 (p : PlK) : IsB p.f [2, 0] := by
 refine ⟨rfl, by decide, rfl, ns1 ?_⟩
 exact of_decide_eq_true (by kernel_rfl)
theorem PlK.isb0 (p : PlK) : IsB p.f [0, 1] := by
 refine ⟨rfl, by decide, rfl, ns1 ?_⟩
 exact of_decide_eq_true (by kernel_rfl)
theorem PlK.isn (p : PlK) : ¬ IsB p.f [0, 0] := fun h => absurd h.m (of_decide_eq_true (by kernel_rfl))
theorem two_ {α : Type} {xs : List α} (h : xs.length = 2) : ∃ a b, xs = [a, b] := by
 match xs, h with
 | [a, b], _ => exact ⟨a, b, rfl⟩
theorem zlL {α : Type} {xs : List α} (h : xs.length = 1) : ∃ a, xs = [a] := by
 match xs, h with
 | [a], _ => exact ⟨a, rfl⟩
theorem PlK.eqn {p : PlK} {st : List Int} {a b : RV × Rat} (h : ValP p.f st [a, b]) : a.2 + b.2 = 4 := by
 have h1 : 0 + a.2 * rowQ p.f.cols 0 ((0 : Nat) : Int) + b.2 * rowQ p.f.cols 1 ((0 : Nat) : Int) = 4 := h.eq 0 (by show 0 < 1; decide)
 rw [p.r0, p.r1, Rat.mul_one, Rat.mul_one, Rat.zero_add] at h1
 exact h1
theorem PlK.val2 {p : PlK} {xs : List (RV × Rat)} (h : ValP p.f [2, 0] xs) : ∃ k l, xs = [(k, 3), (l, 1)] := by
 obtain ⟨a, b, rfl⟩ := two_ h.len
 have h1 : a.2 = 3 := h.std 0 (by show 0 < 2; decide) (by decide)
 have h2 := PlK.eqn h
 have h3 : b.2 = 1 := by rw [h1] at h2; grind
 exact ⟨a.1, b.1, by rw [← h1, ← h3]⟩
theorem PlK.val0 {p : PlK} {xs : List (RV × Rat)} (h : ValP p.f [0, 1] xs) : ∃ k l, xs = [(k, 4), (l, 0)] := by
 obtain ⟨a, b, rfl⟩ := two_ h.len
 have h1 : b.2 = 0 := h.std 1 (by show 1 < 2; decide) (by decide)
 have h2 := PlK.eqn h
 have h3 : a.2 = 4 := by rw [h1] at h2; grind
 exact ⟨a.1, b.1, by rw [← h1, ← h3]⟩
theorem PlK.dual0 {p : PlK} {ys ds : List (RV × Rat)} (h : DualP p.f [0, 1] ys ds) : (∃ k, ys = [(k, -1)]) ∧ ∃ k l, ds = [(k, 0), (l, 1)] := by
 obtain ⟨a, rfl⟩ := zlL h.ly
 obtain ⟨b, c, rfl⟩ := two_ h.ld
 have h1 : 0 + a.2 * rowQ p.f.cols 0 ((0 : Nat) : Int) = -1 := h.eq 0 (by show 0 < 1; decide)
 rw [p.r0, Rat.mul_one, Rat.zero_add] at h1
 have h2 : b.2 = 0 := h.d 0 (by show 0 < 2; decide)
 have h3 : c.2 = 0 - (0 + a.2 * rowQ p.f.cols 1 ((0 : Nat) : Int)) := h.d 1 (by show 1 < 2; decide)
 rw [p.r1, Rat.mul_one, Rat.zero_add, h1] at h3
 have h4 : c.2 = 1 := by rw [h3]; exact of_decide_eq_true (by kernel_rfl)
 exact ⟨⟨a.1, by rw [← h1]⟩, b.1, c.1, by rw [← h2, ← h4]⟩
theorem PlK.pr2 {p : PlK} {ys ds : List (RV × Rat)} (h : DualP p.f [2, 0] ys ds) : ∀ j, j < p.f.cols.length → prOk p.f [2, 0] ds j := by
 obtain ⟨a, rfl⟩ := zlL h.ly
 obtain ⟨b, c, rfl⟩ := two_ h.ld
 have h1 : 0 + a.2 * rowQ p.f.cols 1 ((0 : Nat) : Int) = 0 := h.eq 0 (by show 0 < 1; decide)
 rw [p.r1, Rat.mul_one, Rat.zero_add] at h1
 have h3 : b.2 = -1 - (0 + a.2 * rowQ p.f.cols 0 ((0 : Nat) : Int)) := h.d 0 (by show 0 < 2; decide)
 rw [p.r0, Rat.mul_one, Rat.zero_add, h1] at h3
 have h4 : b.2 = -1 := by rw [h3]; exact of_decide_eq_true (by kernel_rfl)
 intro j hj hw
 exfalso
 match j, hj with
 | 0, _ =>
  rcases hw with ⟨hw, -⟩ | ⟨-, hw⟩
  ·exact absurd hw (by decide)
  ·rw [show numL [b, c] 0 = b.2 from rfl, h4] at hw
   exact absurd hw (by decide)
 | 1, _ => rcases hw with ⟨hw, -⟩ | ⟨hw, -⟩ <;> exact absurd hw (by decide)
theorem PlK.feas {p : PlK} {V : World} {k l : RV} (hR : FRight p.f V) : FeasP p.f [(k, 3), (l, 1)] V := by
 refine ⟨hR, rfl, fun j hj hj' => ?_, fun j hj hj' => ?_, fun i hi => ?_⟩
 ·match j, hj with
  | 0, _ => exact of_decide_eq_true (by kernel_rfl)
  | 1, _ => exact of_decide_eq_true (by kernel_rfl)
 ·match j, hj with
  | 0, _ => exact of_decide_eq_true (by kernel_rfl)
  | 1, _ => exact of_decide_eq_true (by kernel_rfl)
 ·match i, hi with
  | 0, _ => exact of_decide_eq_true (by kernel_rfl)
theorem PlK.nofeas {p : PlK} {V : World} {k l : RV} : ¬ FeasP p.f [(k, 4), (l, 0)] V := fun h => h.hi 0 (by show 0 < 2; decide) (by show 0 < 2; decide) (of_decide_eq_true (by kernel_rfl))
theorem zb3 : nlF 4 5 ≤ 100000000 ∧ szG 4 (nlF 4 (1 - 1)) 1 ≤ 100000000 ∧ nyV 4 1 ≤ 1000000000 ∧ szF (nuV 4 2) (2 * nlF 4 (1 - 1) + 1) 1 ≤ 100000000 ∧ nxV 4 1 2 ≤ 100000000000 := ⟨of_decide_eq_true (by kernel_rfl), of_decide_eq_true (by kernel_rfl), of_decide_eq_true (by kernel_rfl), of_decide_eq_true (by kernel_rfl), of_decide_eq_true (by kernel_rfl)⟩

abbrev fpl (p : PlK) : Array Value := #[.int .i64 1, .slice (some ⟨p.gc, 0, none⟩) 2 2, .slice (some ⟨p.gl, 0, none⟩) 2 2, .slice (some ⟨p.gh, 0, none⟩) 2 2, .slice (some ⟨p.gk, 0, none⟩) 2 2, .slice (some ⟨p.gb, 0, none⟩) 1 1]
theorem PlK.agg_eq (p : PlK) : p.agg = .agg (fpl p) := rfl
def plF (p : PlK) (V : World) : Prop := FoD 4 p.f V ∧ FRight p.f V ∧ Tz V
theorem sts2 {W : World} {g : Nat} {t : TypeId} {a b : Int} (h : Blk W g t #[.int .u8 a, .int .u8 b]) : LsR 1 stc (fun _ _ => True) (some ⟨g, 0, none⟩) [a, b] W := by
 refine ⟨⟨Sl.some_ _ _ _, fun i hi => ?_, fun i hi j hj => ?_⟩, fun x hx => trivial⟩
 ·match i, hi with
  | 0, _ => rfl
  | 1, _ => rfl
 ·rw [za6, Nat.zero_add, h.cell]
  match i, hi, j, hj with
  | 0, _, 0, _ => rfl
  | 1, _, 0, _ => rfl
theorem zjR (w : World) (p : PlK) (h : plF p w) : Calls Tryz.prog 8 #[.agg (fpl p)] w fun e w' => ∃ S, e = .returned (.slice S 2 2) ∧ Rests w' (w.heap.size ≤ ·) (LsR 1 stc (fun _ _ => True) S [2, 0]) ∧ Below w.heap.size w w' := by
 refine (zfo w 4 (by omega) (by omega) p.f h.1 p.fsm h.2.1 1 p.slack h.2.2).mono ?_
 rintro e w' ⟨S, rfl, h1, h2⟩
 rw [p.start] at h1
 exact ⟨S, rfl, h1, h2⟩
theorem zkY {st : List Int} {a b : Rat} (w : World) (p : PlK) (h : plF p w) (hB : IsB p.f st) (hv : ∀ xs, ValP p.f st xs → ∃ k l, xs = [(k, a), (l, b)]) (hl : st.length = 2) (A : Option Addr) (c : Nat) (hs : LsR 1 stc (fun _ _ => True) A st w) : Calls Tryz.prog 10 #[.agg (fpl p), .slice A 2 c] w fun e w' => ∃ X d k l, e = .returned (.tuple #[.slice X 2 d, .int .i64 0]) ∧ Rests w' (w.heap.size ≤ ·) (LsR 4 za0 roN X [(k, a), (l, b)]) ∧ Below w.heap.size w w' := by
 have h9 := zdf w 4 (by omega) (by omega) p.f h.1 p.fsm h.2.1 zb3.1 zb3.2.2.2.1 zb3.2.2.2.2 A c st hs h.2.2
 rw [hl] at h9
 refine h9.mono ?_
 rintro e w' (⟨-, X, d, xs, rfl, h1, -, h2, h3⟩ | ⟨h1, -⟩)
 ·obtain ⟨k, l, rfl⟩ := hv xs h1
  exact ⟨X, d, k, l, rfl, h2, h3⟩
 ·exact absurd hB h1
theorem zlZ {st : List Int} (w : World) (p : PlK) (h : plF p w) (hB : ¬ IsB p.f st) (hl : st.length = 2) (A : Option Addr) (c : Nat) (hs : LsR 1 stc (fun _ _ => True) A st w) : Calls Tryz.prog 10 #[.agg (fpl p), .slice A 2 c] w fun e w' => e = .returned (.tuple #[.slice none 0 0, .int .i64 102]) ∧ Below w.heap.size w w' := by
 have h9 := zdf w 4 (by omega) (by omega) p.f h.1 p.fsm h.2.1 zb3.1 zb3.2.2.2.1 zb3.2.2.2.2 A c st hs h.2.2
 rw [hl] at h9
 refine h9.mono ?_
 rintro e w' (⟨h1, -⟩ | ⟨-, rfl, h3⟩)
 ·exact absurd h1 hB
 ·exact ⟨rfl, h3⟩
theorem zl5 (w : World) (p : PlK) (h : plF p w) (A : Option Addr) (c : Nat) (hs : LsR 1 stc (fun _ _ => True) A [0, 1] w) : Calls Tryz.prog 11 #[.agg (fpl p), .slice A 2 c] w fun e w' => ∃ Y d D k i j, e = .returned (.tuple #[.slice Y 1 d, .slice D 2 2, .int .i64 0]) ∧ Rests w' (w.heap.size ≤ ·) (fun V => LsR 4 za0 roN Y [(k, -1)] V ∧ LsR 4 za0 roN D [(i, 0), (j, 1)] V) ∧ Below w.heap.size w w' := by
 refine (zcR w 4 (by omega) (by omega) p.f h.1 p.fsm h.2.1 zb3.1 zb3.2.1 zb3.2.2.1 A c [0, 1] hs h.2.2).mono ?_
 rintro e w' (⟨-, Y, d, ys, D, ds, rfl, -, h1, -, -, h2, h3⟩ | ⟨h1, -⟩)
 ·obtain ⟨⟨k, rfl⟩, i, j, rfl⟩ := PlK.dual0 h1
  exact ⟨Y, d, D, k, i, j, rfl, h2, h3⟩
 ·exact absurd p.isb0 h1
theorem ziE (w : World) (p : PlK) (h : plF p w) (A : Option Addr) (c : Nat) (hs : LsR 1 stc (fun _ _ => True) A [2, 0] w) : Calls Tryz.prog 9 #[.agg (fpl p), .slice A 2 c] w fun e w' => e = .returned (.bool true) ∧ Below w.heap.size w w' := by
 refine (ze7 w 4 (by omega) (by omega) p.f h.1 p.fsm h.2.1 zb3.1 zb3.2.1 zb3.2.2.1 A c [2, 0] hs h.2.2).mono ?_
 rintro e w' ⟨B, rfl, h1, -, h3⟩
 cases B
 ·obtain ⟨ys, ds, h4, h5⟩ := h3 rfl p.isb2
  exact absurd (PlK.pr2 h4) h5
 ·exact ⟨rfl, h1⟩
theorem zl7 : Sz 0 4 := ⟨by decide, by decide⟩
theorem zlr : Sz 1 4 := ⟨by decide, by decide⟩
theorem zmT : Sz 3 4 := ⟨by decide, by decide⟩
theorem zmq : Sz 4 4 := ⟨by decide, by decide⟩
theorem zmZ : Sz (-1) 4 := ⟨by decide, by decide⟩
theorem ro2 {A : Option Addr} {k l : RV} {a b : Rat} {w : World} (h : LsR 4 za0 roN A [(k, a), (l, b)] w) (ha : Sz a 4) (hb : Sz b 4) : LsR 4 za0 (roD 4) A [(k, a), (l, b)] w := h.imp fun x hx hn => RatN.rat hn (by
 simp only [List.mem_cons, List.not_mem_nil, or_false] at hx
 rcases hx with rfl | rfl
 ·exact ha
 ·exact hb)
theorem zln (w : World) (p : PlK) (h : plF p w) (A : Option Addr) (c : Nat) (k l : RV) (hx : LsR 4 za0 roN A [(k, 3), (l, 1)] w) : Calls Tryz.prog 22 #[.agg (fpl p), .slice A 2 c] w fun e w' => e = .returned (.bool true) ∧ Below w.heap.size w w' := by
 refine (zgN w 4 (by omega) (by omega) p.f h.1 p.fsm A c [(k, 3), (l, 1)] (ro2 hx zmT zlr) h.2.2).mono ?_
 rintro e w' ⟨⟨B, rfl, hB⟩, hb⟩
 rw [hB.2 (PlK.feas h.2.1)]
 exact ⟨rfl, hb⟩
theorem zhW (w : World) (p : PlK) (h : plF p w) (A : Option Addr) (c : Nat) (k l : RV) (hx : LsR 4 za0 roN A [(k, 4), (l, 0)] w) : Calls Tryz.prog 22 #[.agg (fpl p), .slice A 2 c] w fun e w' => e = .returned (.bool false) ∧ Below w.heap.size w w' := by
 refine (zgN w 4 (by omega) (by omega) p.f h.1 p.fsm A c [(k, 4), (l, 0)] (ro2 hx zmq zl7) h.2.2).mono ?_
 rintro e w' ⟨⟨B, rfl, hB⟩, hb⟩
 cases B
 ·exact ⟨rfl, hb⟩
 ·exact absurd (hB.1 rfl) PlK.nofeas
theorem zex (w : World) (A : Option Addr) (c d g : Nat) (t : TypeId) (k l k' l' : RV) (a b : Rat) (ha : Sz a 4) (hb : Sz b 4) (h : LsR 4 za0 roN A [(k, a), (l, b)] w) (h2 : Blk w g t (c8 (k', a) (l', b))) (h3 : RatN k' a w) (h4 : RatN l' b w) : Calls Tryz.prog 30 #[.slice A 2 c, .slice (some ⟨g, 0, none⟩) 2 d] w fun e w' => e = .returned (.bool true) ∧ Below w.heap.size w w' := by
 refine zfa w A (some ⟨g, 0, none⟩) c d [(k, a), (l, b)] [(k', a), (l', b)] 4 (by omega) (by show 2 ≤ 1000000; omega) rfl (fun i hi _ => ?_) (fun x hx => ?_) h (ls2 h2 h3 h4)
 ·match i, hi with
  | 0, _ => rfl
  | 1, _ => rfl
 ·simp only [List.mem_cons, List.not_mem_nil, or_false] at hx
  rcases hx with rfl | rfl
  ·exact ha
  ·exact hb
theorem zkv (w : World) (A : Option Addr) (c d g : Nat) (t : TypeId) (k k' : RV) (a : Rat) (ha : Sz a 4) (h : LsR 4 za0 roN A [(k, a)] w) (h2 : Blk w g t #[.bool k'.num.neg, .slice k'.num.A k'.num.k k'.num.c, .bool k'.den.neg, .slice k'.den.A k'.den.k k'.den.c]) (h3 : RatN k' a w) : Calls Tryz.prog 30 #[.slice A 1 c, .slice (some ⟨g, 0, none⟩) 1 d] w fun e w' => e = .returned (.bool true) ∧ Below w.heap.size w w' := by
 refine zfa w A (some ⟨g, 0, none⟩) c d [(k, a)] [(k', a)] 4 (by omega) (by show 1 ≤ 1000000; omega) rfl (fun i hi _ => ?_) (fun x hx => ?_) h (ls1 (p := (k', a)) h2 h3)
 ·match i, hi with
  | 0, _ => rfl
 ·rw [List.mem_singleton.1 hx]; exact ha
end Go.Proofs.YtfdmajmhmligpaaGreatDoor
