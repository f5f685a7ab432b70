/-
 tripwireref16.Feasible.
-/
import Derived.Test.YtbnleajchmnbdaaGreatDoorKJ
import Derived.Test.YtbnleajchmnbdaaGreatDoorV18
namespace Go.Proofs.YtbnleajchmnbdaaGreatDoor
set_option maxHeartbeats 8000000
open Go.RowKit

theorem sumQ_sz {f : FoV} {xs : List (RV × Rat)} {a : Int} {n : Nat} (hx : ∀ k, k < f.cols.length → Sz (xs[k]!).2 n) (hT : ∀ k, k < f.cols.length → Sz (getQ ((f.cols[k]!).ts.map plq) a) n) : ∀ j, j ≤ f.cols.length → Sz (sumQ f xs a j) (1 + j * (2 * n + 2))
 | 0, _ => sz_zero.up (by omega)
 | j + 1, h => by
  refine (Sz.add (sumQ_sz hx hT j (by omega)) (Sz.mul (hx j (by omega)) (hT j (by omega)))).up ?_
  rw [Nat.add_mul]; omega
set_option maxRecDepth 100000 in
theorem rfeas_no (w : World) (n N : Nat) (hN : N ≤ 3000) (h1n : 1 ≤ n) (hbd : n + 20 * (2 * n + 2) ≤ N) (f : FoV) (h : FoD n f w) (hs : FSmall f) (Ax : Option Addr) (cx : Nat) (xs : List (RV × Rat)) (hx : LsR 4 rtcells (roD n) Ax xs w) (hR : ¬ FRight f w) :
 Calls Tryz.prog 33 #[fA f, .slice Ax xs.length cx] w fun e w' => BoolRes (FeasP f xs w) e ∧ Below w.heap.size w w' := by
 have Hs := Lib.hid hs
 have HR := Lib.hid hR
 have Hf := Lib.hid h
 have hnN : n ≤ N := by omega
 have HE := Lib.hid (lyF f ((h.old).and ((hx.old roD_old))))
 have c := Env.c1 HE.out
 clear h hs hR hx
 unfold fA
 go_enter Tryz.func33, Tryz.ntmps33
 go_wp2_with fail
 refine (rright_any _ n N hN h1n hnN (by omega) f HE.out.o.1 Hs.out).mono ?_
 rintro e w1 ⟨⟨z, rfl, hz⟩, hb⟩
 have hR1 := FRight.same Hf.out HE.out.bel
 replace HE := Lib.hid (Env.call HE.out hb)
 replace c := Env.c1 HE.out
 clear hb
 obtain ⟨rfl, -⟩ : z = 101 ∧ True := by
  rcases hz with ⟨-, h9⟩ | ⟨h9, -⟩
  ·exact absurd (hR1.1 h9) HR.out
  ·exact ⟨h9, trivial⟩
 clear hz hR1
 go_wp2_with fail
 exact bodyPost_ret (v := .bool false) (by simp [results, Tryz.results33, go_sem]) rfl ⟨boolRes_mk false ⟨fun h9 => absurd h9 (by decide), fun h9 => absurd h9.right HR.out⟩, HE.out.bel⟩
set_option maxRecDepth 100000 in
theorem rfeas_len (w : World) (n N : Nat) (hN : N ≤ 3000) (h1n : 1 ≤ n) (hbd : n + 20 * (2 * n + 2) ≤ N) (f : FoV) (h : FoD n f w) (hs : FSmall f) (Ax : Option Addr) (cx : Nat) (xs : List (RV × Rat)) (hx : LsR 4 rtcells (roD n) Ax xs w) (hR : FRight f w) (hl : xs.length ≠ f.cols.length) :
 Calls Tryz.prog 33 #[fA f, .slice Ax xs.length cx] w fun e w' => BoolRes (FeasP f xs w) e ∧ Below w.heap.size w w' := by
 have Hs := Lib.hid hs
 have HR := Lib.hid hR
 have Hf := Lib.hid h
 have hnN : n ≤ N := by omega
 have kl : ((xs.length : Int) != (f.cols.length : Int)) = true := by simp; omega
 have HL := Lib.hid hl
 clear hl
 have HE := Lib.hid (lyF f ((h.old).and ((hx.old roD_old))))
 have c := Env.c1 HE.out
 clear h hs hR hx
 unfold fA
 go_enter Tryz.func33, Tryz.ntmps33
 go_wp2_with fail
 refine (rright_any _ n N hN h1n hnN (by omega) f HE.out.o.1 Hs.out).mono ?_
 rintro e w1 ⟨⟨z, rfl, hz⟩, hb⟩
 have hR1 := FRight.same Hf.out HE.out.bel
 replace HE := Lib.hid (Env.call HE.out hb)
 replace c := Env.c1 HE.out
 clear hb
 obtain ⟨rfl, -⟩ : z = 0 ∧ True := by
  rcases hz with ⟨h9, -⟩ | ⟨-, h9⟩
  ·exact ⟨h9, trivial⟩
  ·exact absurd (hR1.2 HR.out) h9
 clear hz hR1
 go_wp2_with fail
 exact bodyPost_ret (v := .bool false) (by simp [results, Tryz.results33, go_sem]) rfl ⟨boolRes_mk false ⟨fun h9 => absurd h9 (by decide), fun h9 => absurd h9.len HL.out⟩, HE.out.bel⟩
set_option maxRecDepth 100000 in
theorem rfeas_ok (w : World) (n N : Nat) (hN : N ≤ 3000) (h1n : 1 ≤ n) (hbd : n + 20 * (2 * n + 2) ≤ N) (f : FoV) (h : FoD n f w) (hs : FSmall f) (Ax : Option Addr) (cx : Nat) (xs : List (RV × Rat)) (hx : LsR 4 rtcells (roD n) Ax xs w) (hR : FRight f w) (hl : xs.length = f.cols.length) :
 Calls Tryz.prog 33 #[fA f, .slice Ax xs.length cx] w fun e w' => BoolRes (FeasP f xs w) e ∧ Below w.heap.size w w' := by
 have Hs := Lib.hid hs
 have HR := Lib.hid hR
 have Hf := Lib.hid h
 have hnN : n ≤ N := by omega
 have kl : ((xs.length : Int) != (f.cols.length : Int)) = false := by simp; omega
 have HL := Lib.hid hl
 have hc12 := hs.cols
 have hb20 := hs.b
 have HbM := Lib.hid hR.b
 have HM0 := Lib.hid hR.M0
 have slc := h.cols.sl
 have sll := h.lo.sl
 have slh := h.hi.sl
 have slx := hx.sl
 have slb := h.b.sl
 have hszr := size_rats
 have hszc := size_cols
 have hadd := adr_add
 have Hsx := Lib.hid (show ∀ k, k < f.cols.length → Sz (xs[k]!).2 n from fun k hk => by
  have hk' : k < xs.length := by omega
  rw [getElem!_pos xs k hk']
  exact RatD.sz (hx.ok _ (List.getElem_mem hk')) h1n)
 have HsT := Lib.hid (show ∀ k (hk : k < f.cols.length) a, Sz (getQ (f.cols[k].ts.map plq) a) n from fun k hk a => getQ_sz (hR.col k hk).rise h1n (fun u hu => RatD.sz ((h.cols.ok _ (List.getElem_mem hk)).ok u hu) h1n) a)
 have HsS := Lib.hid (show ∀ a j, j ≤ f.cols.length → Sz (sumQ f xs a j) N from fun a j hj => (sumQ_sz Hsx.out (fun k hk => by rw [getElem!_pos f.cols k hk]; exact HsT.out k hk a) j hj).up (by have := Nat.mul_le_mul_right (2 * n + 2) (show j ≤ 12 by omega); omega))
 clear hl
 have HE := Lib.hid (lyF f ((h.old).and ((hx.old roD_old))))
 have c := Env.c1 HE.out
 clear h hs hR hx
 unfold fA
 go_enter Tryz.func33, Tryz.ntmps33
 go_wp2_with fail
 refine (rright_any _ n N hN h1n hnN (by omega) f HE.out.o.1 Hs.out).mono ?_
 rintro e w1 ⟨⟨z, rfl, hz⟩, hb⟩
 have hR1 := FRight.same Hf.out HE.out.bel
 replace HE := Lib.hid (Env.call HE.out hb)
 replace c := Env.c1 HE.out
 clear hb
 obtain ⟨rfl, -⟩ : z = 0 ∧ True := by
  rcases hz with ⟨h9, -⟩ | ⟨-, h9⟩
  ·exact ⟨h9, trivial⟩
  ·exact absurd (hR1.2 HR.out) h9
 clear hz hR1
 clear c
 have c := Env.c1 HE.out
 go_wp2_with fail
 clear c
 go_loopw [5] (fun jv wr => ∃ j : Nat, jv = .int .i64 (j : Int) ∧ j ≤ xs.length ∧ Hid (∀ k (h : k < xs.length) (h' : k < f.lo.length) (h2 : k < f.hi.length), k < j → ¬ cmpQ xs[k].2 f.lo[k].2 < 0 ∧ ¬ 0 < cmpQ xs[k].2 f.hi[k].2) ∧ Hid (Env w [⟨w.heap.size, 25, #[.int .i64 f.M, .slice f.Ac f.cols.length f.cc, .slice f.Al f.lo.length f.cl, .slice f.Ah f.hi.length f.ch, .slice f.Ak f.cost.length f.ck, .slice f.Ab f.b.length f.cb]⟩] (fun V => FoD n f V ∧ LsR 4 rtcells (roD n) Ax xs V) (fun V => True) wr)) (fun jv _ => xs.length - (intOf jv).toNat)
 case atStart => exact ⟨0, rfl, Nat.zero_le _, Lib.hid (fun k _ _ _ h => absurd h (Nat.not_lt_zero _)), Lib.hid (HE.out.imp (fun _ h => h) (fun _ _ => trivial))⟩
 case round =>
  clear HE
  obtain ⟨j, rfl, hj, HP, HE⟩ := hrel
  by_cases hlt : j < xs.length
  ·have hlc : j < f.cols.length := by rw [← HL.out]; exact hlt
   have hjl : j < f.lo.length := by rw [HR.out.lo]; exact hlc
   have hjh : j < f.hi.length := by rw [HR.out.hi]; exact hlc
   have HX := Lib.hid (fun (V : World) (h : LsR 4 rtcells (roD n) Ax xs V) => h.rc j hlt)
   have HQ := Lib.hid (fun (V : World) (h : FoD n f V) => h.lo.rc j hjl)
   have HH := Lib.hid (fun (V : World) (h : FoD n f V) => h.hi.rc j hjh)
   have HBad := Lib.hid (show FeasP f xs w → ¬ cmpQ xs[j].2 f.lo[j].2 < 0 ∧ ¬ 0 < cmpQ xs[j].2 f.hi[j].2 from fun h => ⟨h.lo j hlt hjl, h.hi j hlt hjh⟩)
   have HNx := Lib.hid (show (¬ cmpQ xs[j].2 f.lo[j].2 < 0 ∧ ¬ 0 < cmpQ xs[j].2 f.hi[j].2) → ∀ k (h : k < xs.length) (h' : k < f.lo.length) (h2 : k < f.hi.length), k < j + 1 → ¬ cmpQ xs[k].2 f.lo[k].2 < 0 ∧ ¬ 0 < cmpQ xs[k].2 f.hi[k].2 from fun hs k h h' h2 hk => by
    rcases Nat.lt_succ_iff_lt_or_eq.1 hk with e | e
    ·exact HP.out k h h' h2 e
    ·subst e; exact hs)
   obtain ⟨p, hp⟩ : ∃ p, p = xs[j] := ⟨_, rfl⟩
   obtain ⟨q, hq⟩ : ∃ q, q = f.lo[j] := ⟨_, rfl⟩
   obtain ⟨r, hr⟩ : ∃ r, r = f.hi[j] := ⟨_, rfl⟩
   have Hmp := Lib.hid (show p ∈ xs by rw [hp]; exact List.getElem_mem hlt)
   have Hmq := Lib.hid (show q ∈ f.lo by rw [hq]; exact List.getElem_mem hjl)
   have Hmr := Lib.hid (show r ∈ f.hi by rw [hr]; exact List.getElem_mem hjh)
   rw [← hp] at HX HBad HNx
   rw [← hq] at HQ HBad HNx
   rw [← hr] at HH HBad HNx
   clear hp hq hr
   have HXE := Lib.hid (show ∀ V, LsR 4 rtcells (roD n) Ax xs V → RatD p.1 p.2 n V from fun V h => h.ok p Hmp.out)
   have HQE := Lib.hid (show ∀ V, FoD n f V → RatD q.1 q.2 n V from fun V h => h.lo.ok q Hmq.out)
   have HRE := Lib.hid (show ∀ V, FoD n f V → RatD r.1 r.2 n V from fun V h => h.hi.ok r Hmr.out)
   have HC := Lib.hid (fun (V : World) {nw : World → Prop} (h : Env w [⟨w.heap.size, 25, #[.int .i64 f.M, .slice f.Ac f.cols.length f.cc, .slice f.Al f.lo.length f.cl, .slice f.Ah f.hi.length f.ch, .slice f.Ak f.cost.length f.ck, .slice f.Ab f.b.length f.cb]⟩] (fun V => FoD n f V ∧ LsR 4 rtcells (roD n) Ax xs V) nw V) => And.intro (Env.c1 h) (And.intro (HX.out V h.o.2) (And.intro (HQ.out V h.o.1) (HH.out V h.o.1))))
   have c := HC.out _ HE.out
   go_upto_region 6 with fail
   by_cases hlo : cmpQ p.2 q.2 < 0
   ·have HR9 := Lib.hid (show ¬ FeasP f xs w from fun h => absurd hlo (HBad.out h).1)
    have HM1 := Lib.hid (cmpQ_m1 hlo)
    clear hlo c
    refine wp_region_noPanic ?_
    refine wp_region_held_drew (S := (fun W => CB (w.heap.size) #[.int .i64 f.M, .slice f.Ac f.cols.length f.cc, .slice f.Al f.lo.length f.cl, .slice f.Ah f.hi.length f.ch, .slice f.Ak f.cost.length f.ck, .slice f.Ab f.b.length f.cb] W ∧ RC Ax j p W ∧ RC f.Al j q W ∧ RC f.Ah j r W)) (by kernel_rfl) (by first | exact HC.out _ HE.out | exact HC.out _ HE.out.drew) (fun hHeld => ?_)
    refine hT 0 26 hHeld ?_
    refine hT 1 27 hHeld ?_
    refine hT 2 28 hHeld ?_
    refine hT 3 29 hHeld ?_
    refine hT 4 30 hHeld ?_
    refine hT 5 31 hHeld ?_
    refine hT 6 32 hHeld ?_
    refine hT 7 33 hHeld ?_
    refine hT 8 34 hHeld ?_
    refine held_call (i := 9) rfl (by kernel_rfl) (by rfl) (fun K hK => ?_)
    clear hHeld
    simp only [q1, q2, q3]
    go_simp
    refine (refcmp4_any _ p.1 q.1 p.2 q.2 n (by omega) h1n (HXE.out _ (by with_reducible first | exact HE.out.o.2 | exact HE.out.drew.o.2)) (HQE.out _ (by with_reducible first | exact HE.out.o.1 | exact HE.out.drew.o.1))).mono ?_
    rintro e w2 ⟨rfl, hb⟩
    rw [cmpQ_sub, HM1.out]
    replace HE := Lib.hid (Env.call (by with_reducible first | exact HE.out | exact HE.out.drew) hb)
    clear hb
    (try (go_wp2_with fail))
    refine hK.out _ _ (by first | exact HC.out _ HE.out | exact HC.out _ HE.out.drew) (fun hHeld => ?_)
    clear hK K
    try simp only [p1, p2, p3, p4]
    refine hT 10 36 hHeld ?_
    refine hT 11 37 hHeld ?_
    refine held_lz [12, 13, 14, 15, 16, 17, 18, 19, 20, 21, 22, 23] 0 #[true, true, true, true, true, true, true, true, true, true, true, true, true, true, true, true, true, true, true, true, true, true, true, true] (fun a0 => ((((((((((((a0.put (some 38) undef).put (some 39) undef).put (some 40) undef).put (some 41) undef).put (some 42) undef).put (some 43) undef).put (some 44) undef).put (some 45) undef).put (some 46) undef).put (some 47) undef).put (some 48) undef).put (some 49) (.bool true))) rfl (by kernel_rfl) (by kernel_rfl) (fun _ _ _ _ _ h => h) hHeld ?_
    try simp only [p1, p2, p3, p4]
    refine wpAnyH_done (by kernel_rfl) ?_ _
    refine NoPanic.normal ?_
    go_wp2_with fail
    first
     | exact bodyPost_ret (v := .bool false) (by simp [results, Tryz.results33, go_sem]) rfl ⟨boolRes_mk false ⟨fun h9 => absurd h9 (by decide), fun h9 => absurd h9 HR9.out⟩, HE.out.bel⟩
     | exact bodyPost_ret (v := .bool false) (by simp [results, Tryz.results33, go_sem]) rfl ⟨boolRes_mk false ⟨fun h9 => absurd h9 (by decide), fun h9 => absurd h9 HR9.out⟩, HE.out.drew.bel⟩
   ·have HNLo := Lib.hid hlo
    have hC0 : ∃ C : Int, cmpQ p.2 q.2 = C ∧ (C = 0 ∨ C = 1) := ⟨_, rfl, cmpQ_nn hlo⟩
    obtain ⟨C, hC1, hC2⟩ := hC0
    rcases hC2 with rfl | rfl
    all_goals
     have HCC := Lib.hid hC1
     clear hC1 hlo
     go_region_held3 (fun W => CB (w.heap.size) #[.int .i64 f.M, .slice f.Ac f.cols.length f.cc, .slice f.Al f.lo.length f.cl, .slice f.Ah f.hi.length f.ch, .slice f.Ak f.cost.length f.ck, .slice f.Ab f.b.length f.cb] W ∧ RC Ax j p W ∧ RC f.Al j q W ∧ RC f.Ah j r W) (first | with_reducible exact c | with_reducible exact HC.out _ HE.out.drew | ((repeat' apply And.intro) <;> go_keep))
      (first
       | (go_at_call_of 59 (#[.agg #[.bool p.1.num.neg, .slice p.1.num.A p.1.num.k p.1.num.c, .bool p.1.den.neg, .slice p.1.den.A p.1.den.k p.1.den.c], .agg #[.bool q.1.num.neg, .slice q.1.num.A q.1.num.k q.1.num.c, .bool q.1.den.neg, .slice q.1.den.A q.1.den.k q.1.den.c]] : Array Value); go_must (refine (refcmp4_any _ p.1 q.1 p.2 q.2 n (by omega) h1n (HXE.out _ (by with_reducible first | exact HE.out.o.2 | exact HE.out.drew.o.2)) (HQE.out _ (by with_reducible first | exact HE.out.o.1 | exact HE.out.drew.o.1))).mono ?_; rintro e w2 ⟨rfl, hb⟩; rw [cmpQ_sub]; rw [HCC.out]; replace HE := Lib.hid (Env.call (by with_reducible first | exact HE.out | exact HE.out.drew) hb); replace c := HC.out _ HE.out; clear hb))
       | (go_at_call_of 59 (#[.agg #[.bool p.1.num.neg, .slice p.1.num.A p.1.num.k p.1.num.c, .bool p.1.den.neg, .slice p.1.den.A p.1.den.k p.1.den.c], .agg #[.bool r.1.num.neg, .slice r.1.num.A r.1.num.k r.1.num.c, .bool r.1.den.neg, .slice r.1.den.A r.1.den.k r.1.den.c]] : Array Value); go_must (refine (refcmp4_any _ p.1 r.1 p.2 r.2 n (by omega) h1n (HXE.out _ (by with_reducible first | exact HE.out.o.2 | exact HE.out.drew.o.2)) (HRE.out _ (by with_reducible first | exact HE.out.o.1 | exact HE.out.drew.o.1))).mono ?_; rintro e w2 ⟨rfl, hb⟩; rw [cmpQ_sub]; replace HE := Lib.hid (Env.call (by with_reducible first | exact HE.out | exact HE.out.drew) hb); replace c := HC.out _ HE.out; clear hb)))
     all_goals
      by_cases hhi : 0 < cmpQ p.2 r.2
      ·have HR9 := Lib.hid (show ¬ FeasP f xs w from fun h => by have := (HBad.out h).2; omega)
       go_wp2_with fail
       first
        | exact bodyPost_ret (v := .bool false) (by simp [results, Tryz.results33, go_sem]) rfl ⟨boolRes_mk false ⟨fun h9 => absurd h9 (by decide), fun h9 => absurd h9 HR9.out⟩, HE.out.bel⟩
        | exact bodyPost_ret (v := .bool false) (by simp [results, Tryz.results33, go_sem]) rfl ⟨boolRes_mk false ⟨fun h9 => absurd h9 (by decide), fun h9 => absurd h9 HR9.out⟩, HE.out.drew.bel⟩
      ·have HN2 := Lib.hid (HNx.out ⟨by have := HNLo.out; omega, by omega⟩)
       go_wp2_with fail
       go_roundw
       case rel => exact ⟨j + 1, by go_num, by omega, Lib.hid (fun k h h' h2 hk => ⟨by have := (HN2.out k h h' h2 hk).1; omega, by have := (HN2.out k h h' h2 hk).2; omega⟩), by first | exact Lib.hid (HE.out.imp (fun _ h => h) (fun _ _ => trivial)) | exact Lib.hid (HE.out.drew.imp (fun _ h => h) (fun _ _ => trivial))⟩
       case measure => (simp [intOf] <;> omega)
  ·obtain rfl : j = xs.length := by omega
   have HLo := Lib.hid (show ∀ k (h : k < xs.length) (h' : k < f.lo.length), ¬ cmpQ xs[k].2 f.lo[k].2 < 0 from fun k h h' => (HP.out k h h' (by rw [HR.out.hi, ← HR.out.lo]; exact h') h).1)
   have HHi := Lib.hid (show ∀ k (h : k < xs.length) (h' : k < f.hi.length), ¬ 0 < cmpQ xs[k].2 f.hi[k].2 from fun k h h' => (HP.out k h (by rw [HR.out.lo, ← HR.out.hi]; exact h') h' h).2)
   have hnu : ¬ (xs.length : Int) < (xs.length : Int) := by omega
   clear HP
   go_wp2_with fail
   go_loopw [6] (fun iv wr => ∃ i : Nat, iv = .int .i64 (i : Int) ∧ i ≤ f.b.length ∧ Hid (∀ k (h : k < f.b.length), k < i → sumQ f xs (k : Int) f.cols.length = f.b[k].2) ∧ Hid (Env w [⟨w.heap.size, 25, #[.int .i64 f.M, .slice f.Ac f.cols.length f.cc, .slice f.Al f.lo.length f.cl, .slice f.Ah f.hi.length f.ch, .slice f.Ak f.cost.length f.ck, .slice f.Ab f.b.length f.cb]⟩] (fun V => FoD n f V ∧ LsR 4 rtcells (roD n) Ax xs V) (fun V => True) wr)) (fun iv _ => f.b.length - (intOf iv).toNat)
   case atStart => exact ⟨0, rfl, Nat.zero_le _, Lib.hid (fun k _ h => absurd h (Nat.not_lt_zero _)), HE⟩
   case round =>
    clear HE
    obtain ⟨i, rfl, hi, HP, HE⟩ := hrel
    have c := Env.c1 HE.out
    by_cases hib : i < f.b.length
    ·have hiM : (i : Int) < f.M := by have := HbM.out; omega
     have HBad := Lib.hid (show FeasP f xs w → sumQ f xs (i : Int) f.cols.length = f.b[i].2 from fun h => h.eq i hib)
     have HNx := Lib.hid (show sumQ f xs (i : Int) f.cols.length = f.b[i].2 → ∀ k (h : k < f.b.length), k < i + 1 → sumQ f xs (k : Int) f.cols.length = f.b[k].2 from fun hs k h hk => by
      rcases Nat.lt_succ_iff_lt_or_eq.1 hk with e | e
      ·exact HP.out k h e
      ·subst e; exact hs)
     have HPB := Lib.hid (fun (V : World) (h : FoD n f V) => h.b.rc i hib)
     obtain ⟨pb, hpb⟩ : ∃ p, p = f.b[i] := ⟨_, rfl⟩
     have Hmb := Lib.hid (show pb ∈ f.b by rw [hpb]; exact List.getElem_mem hib)
     rw [← hpb] at HBad HNx HPB
     clear hpb HP
     go_upto_region 12 with fail
     obtain ⟨W2, gs, hW2, hgs, HE⟩ := Env.al HE.out 33 #[.bool false, .slice none 0 0, .bool false, .slice none 0 0]
     rw [hW2, hgs]
     clear hW2 hgs c
     go_wp2_with fail
     go_loopw [8] (fun jv wr => ∃ (j : Nat) (k : RV), jv = .int .i64 (j : Int) ∧ j ≤ xs.length ∧ Hid (Env w [⟨gs, 33, #[.bool k.num.neg, .slice k.num.A k.num.k k.num.c, .bool k.den.neg, .slice k.den.A k.den.k k.den.c]⟩, ⟨w.heap.size, 25, #[.int .i64 f.M, .slice f.Ac f.cols.length f.cc, .slice f.Al f.lo.length f.cl, .slice f.Ah f.hi.length f.ch, .slice f.Ak f.cost.length f.ck, .slice f.Ab f.b.length f.cb]⟩] (fun V => FoD n f V ∧ LsR 4 rtcells (roD n) Ax xs V) (fun V => RatN k (sumQ f xs (i : Int) j) V) wr)) (fun jv _ => xs.length - (intOf jv).toNat)
     case atStart => exact ⟨0, zeroR, rfl, Nat.zero_le _, Lib.hid (HE.out.imp (fun _ h => h) (fun V _ => zeroRN V))⟩
     case round =>
      clear HE
      obtain ⟨j, k, rfl, hj, HE⟩ := hrel
      by_cases hlt : j < xs.length
      ·have hlc : j < f.cols.length := by rw [← HL.out]; exact hlt
       have hjx : (j : Int) < (xs.length : Int) := by omega
       have hjc : (j : Int) < (f.cols.length : Int) := by omega
       have Hsq := Lib.hid (HsS.out (i : Int) j (by omega))
       have HNs := Lib.hid (show sumQ f xs (i : Int) (j + 1) = sumQ f xs (i : Int) j + xs[j].2 * getQ (f.cols[j].ts.map plq) (i : Int) from by rw [← getElem!_pos xs j hlt, ← getElem!_pos f.cols j hlc]; rfl)
       have Hsg := Lib.hid (HsT.out j hlc (i : Int))
       have HV := Lib.hid (fun (V : World) (h : FoD n f V) => h.cols.vc j hlc)
       have HX := Lib.hid (fun (V : World) (h : LsR 4 rtcells (roD n) Ax xs V) => h.rc j hlt)
       obtain ⟨v, hv⟩ : ∃ v, v = f.cols[j] := ⟨_, rfl⟩
       obtain ⟨p, hp⟩ : ∃ p, p = xs[j] := ⟨_, rfl⟩
       have Hmv := Lib.hid (show v ∈ f.cols by rw [hv]; exact List.getElem_mem hlc)
       have Hmp := Lib.hid (show p ∈ xs by rw [hp]; exact List.getElem_mem hlt)
       rw [← hv] at HNs HV Hsg
       rw [← hp] at HNs HX
       clear hv hp
       obtain ⟨q, hq⟩ : ∃ q, q = sumQ f xs (i : Int) j := ⟨_, rfl⟩
       rw [← hq] at HNs Hsq HE
       clear hq
       have HVE := Lib.hid (show ∀ V, (fun V => FoD n f V ∧ LsR 4 rtcells (roD n) Ax xs V) V → LsR 5 tecells (teD n) v.A v.ts V from fun V h => h.1.cols.ok v Hmv.out)
       have HPE := Lib.hid (show ∀ V, (fun V => FoD n f V ∧ LsR 4 rtcells (roD n) Ax xs V) V → RatD p.1 p.2 n V from fun V h => h.2.ok p Hmp.out)
       have Hvl := Lib.hid (show v.ts.length ≤ 20 from Hs.out.col v Hmv.out)
       have Hvb := Lib.hid (show 1 + v.ts.length * (n + 1) ≤ N by have := Nat.mul_le_mul_right (n + 1) Hvl.out; omega)
       have Hsm := Lib.hid (show Sz (p.2 * (getQ (v.ts.map plq) (i : Int))) N from (Sz.mul (RatD.sz (HPE.out _ HE.out.o) h1n) Hsg.out).up (by omega))
       have HC := Lib.hid (fun (V : World) {nw : World → Prop} (h : Env w [⟨gs, 33, #[.bool k.num.neg, .slice k.num.A k.num.k k.num.c, .bool k.den.neg, .slice k.den.A k.den.k k.den.c]⟩, ⟨w.heap.size, 25, #[.int .i64 f.M, .slice f.Ac f.cols.length f.cc, .slice f.Al f.lo.length f.cl, .slice f.Ah f.hi.length f.ch, .slice f.Ak f.cost.length f.ck, .slice f.Ab f.b.length f.cb]⟩] (fun V => FoD n f V ∧ LsR 4 rtcells (roD n) Ax xs V) nw V) => And.intro (Env.c2 h).2 (And.intro (HV.out V h.o.1) (And.intro (HX.out V h.o.2) (Env.c2 h).1)))
       have c := HC.out _ HE.out
       go_upto_region 15 with fail
       clear c
       refine wp_region_noPanic ?_
       refine wp_region_G 14 (fun W => CB (w.heap.size) #[.int .i64 f.M, .slice f.Ac f.cols.length f.cc, .slice f.Al f.lo.length f.cl, .slice f.Ah f.hi.length f.ch, .slice f.Ak f.cost.length f.ck, .slice f.Ab f.b.length f.cb] W ∧ W.cell? (adr f.Ac j) = some (.slice v.A v.ts.length v.c) ∧ RC Ax j p W ∧ CB gs #[.bool k.num.neg, .slice k.num.A k.num.k k.num.c, .bool k.den.neg, .slice k.den.A k.den.k k.den.c] W) (by kernel_rfl) (by with_reducible first | exact HC.out _ HE.out | exact HC.out _ HE.out.drew) (fun hHeld => ?_)
       replace HE := Lib.hid HE.out.drew
       refine gTa 0 63 hHeld ?_
       refine gTa 1 64 hHeld ?_
       refine gTa 2 65 hHeld ?_
       refine gTa 3 66 hHeld ?_
       refine gTa 4 67 hHeld ?_
       refine gTa 5 68 hHeld ?_
       refine gTa 6 69 hHeld ?_
       refine gTa 7 70 hHeld ?_
       refine gTa 8 71 hHeld ?_
       refine gTa 9 72 hHeld ?_
       refine gTa 10 73 hHeld ?_
       refine gC 11 rfl (by kernel_rfl) (by rfl) (fun K hK => ?_)
       clear hHeld
       simp only [q1, q2, q3]
       go_simp
       refine (get5_any _ n N hN h1n v.A v.c v.ts (HVE.out _ HE.out.o) (by have := Hvl.out; omega) hnN Hvb.out (i : Int)).mono ?_
       rintro e w3 ⟨kg, rfl, hk, hb⟩
       replace HE := Lib.hid (Env.ret HE.out hk hb)
       clear hk hb
       (try (go_wp2_with fail))
       refine hK.out _ _ (by with_reducible first | exact HC.out _ HE.out | exact HC.out _ HE.out.drew) (fun hHeld => ?_)
       clear hK K
       try simp only [p1, p2, p3, p4]
       refine gC 12 rfl (by kernel_rfl) (by rfl) (fun K hK => ?_)
       clear hHeld
       simp only [q1, q2, q3]
       go_simp
       refine (refmul4_any _ p.1 kg p.2 (getQ (v.ts.map plq) (i : Int)) n (by omega) h1n (HPE.out _ HE.out.o) (RatN.rat HE.out.n.1 Hsg.out)).mono ?_
       rintro e w3 ⟨km, rfl, hk, hb⟩
       replace HE := Lib.hid (Env.ret HE.out hk hb)
       clear hk hb
       (try (go_wp2_with fail))
       refine hK.out _ _ (by with_reducible first | exact HC.out _ HE.out | exact HC.out _ HE.out.drew) (fun hHeld => ?_)
       clear hK K
       try simp only [p1, p2, p3, p4]
       refine gC 13 rfl (by kernel_rfl) (by rfl) (fun K hK => ?_)
       clear hHeld
       simp only [q1, q2, q3]
       go_simp
       refine (refadd4_any _ k km q (p.2 * (getQ (v.ts.map plq) (i : Int))) N hN (by omega) (RatN.rat HE.out.n.2.2 Hsq.out) (RatN.rat HE.out.n.1 Hsm.out)).mono ?_
       rintro e w3 ⟨k2, rfl, hk, hb⟩
       replace HE := Lib.hid (Env.ret HE.out hk hb)
       clear hk hb
       (try (go_wp2_with fail))
       refine hK.out _ _ (by with_reducible first | exact HC.out _ HE.out | exact HC.out _ HE.out.drew) (fun hHeld => ?_)
       clear hK K
       try simp only [p1, p2, p3, p4]
       have c := Env.c2 HE.out
       refine gL rfl (by kernel_rfl) (by kernel_rfl) (by rfl) (fun K hK => ?_)
       clear hHeld
       simp only [q1, q2, q3]
       go_simp
       (try (go_wp2_with fail))
       refine hK.out _ _ ?_
       clear hK K
       try simp only [p1, p2, p3, p4]
       refine NoPanic.normal ?_
       clear c
       go_wp2_with fail
       go_roundw
       case rel => exact ⟨j + 1, k2, by go_num, by omega, Lib.hid (by rw [HNs.out]; exact (HE.out.put4 _ _ _ _).imp (fun _ h => h) (fun _ h => h.1))⟩
       case measure => (simp [intOf] <;> omega)
      ·obtain rfl : j = xs.length := by omega
       have hnx : ¬ (xs.length : Int) < (xs.length : Int) := by omega
       have hib' : (i : Int) < (f.b.length : Int) := by omega
       obtain ⟨q, hq⟩ : ∃ q, q = sumQ f xs (i : Int) f.cols.length := ⟨_, rfl⟩
       have Hsq := Lib.hid (HsS.out (i : Int) f.cols.length (Nat.le_refl _))
       have Hsq := Lib.hid (HsS.out (i : Int) f.cols.length (Nat.le_refl _))
       replace HE := Lib.hid (show Env w [⟨gs, 33, #[.bool k.num.neg, .slice k.num.A k.num.k k.num.c, .bool k.den.neg, .slice k.den.A k.den.k k.den.c]⟩, ⟨w.heap.size, 25, #[.int .i64 f.M, .slice f.Ac f.cols.length f.cc, .slice f.Al f.lo.length f.cl, .slice f.Ah f.hi.length f.ch, .slice f.Ak f.cost.length f.ck, .slice f.Ab f.b.length f.cb]⟩] (fun V => FoD n f V ∧ LsR 4 rtcells (roD n) Ax xs V) (fun V => RatN k (sumQ f xs (i : Int) f.cols.length) V) _ from by have h := HE.out; rw [HL.out] at h; exact h)
       rw [← hq] at HE Hsq HBad HNx
       clear hq
       have HPE := Lib.hid (show ∀ V, (fun V => FoD n f V ∧ LsR 4 rtcells (roD n) Ax xs V) V → RatD pb.1 pb.2 n V from fun V h => h.1.b.ok pb Hmb.out)
       have HC := Lib.hid (fun (V : World) {nw : World → Prop} (h : Env w [⟨gs, 33, #[.bool k.num.neg, .slice k.num.A k.num.k k.num.c, .bool k.den.neg, .slice k.den.A k.den.k k.den.c]⟩, ⟨w.heap.size, 25, #[.int .i64 f.M, .slice f.Ac f.cols.length f.cc, .slice f.Al f.lo.length f.cl, .slice f.Ah f.hi.length f.ch, .slice f.Ak f.cost.length f.ck, .slice f.Ab f.b.length f.cb]⟩] (fun V => FoD n f V ∧ LsR 4 rtcells (roD n) Ax xs V) nw V) => And.intro (Env.c2 h).1 (And.intro (Env.c2 h).2 (HPB.out V h.o.1)))
       have c := HC.out _ HE.out
       obtain ⟨B, hB⟩ : ∃ B : Bool, decide (q = pb.2) = B := ⟨_, rfl⟩
       have HB := Lib.hid hB
       clear hB
       go_upto_region 16 with fail
       go_region_held3 (fun W => CB gs #[.bool k.num.neg, .slice k.num.A k.num.k k.num.c, .bool k.den.neg, .slice k.den.A k.den.k k.den.c] W ∧ CB (w.heap.size) #[.int .i64 f.M, .slice f.Ac f.cols.length f.cc, .slice f.Al f.lo.length f.cl, .slice f.Ah f.hi.length f.ch, .slice f.Ak f.cost.length f.ck, .slice f.Ab f.b.length f.cb] W ∧ RC f.Ab i pb W) (first | with_reducible exact c | with_reducible exact HC.out _ HE.out.drew | ((repeat' apply And.intro) <;> go_keep))
        (first
         | (go_at_call 36; go_must (refine (refsame4_any _ k pb.1 q pb.2 N hN (by omega) (RatN.rat (by with_reducible first | exact HE.out.n | exact HE.out.drew.n) Hsq.out) ((HPE.out _ (by with_reducible first | exact HE.out.o | exact HE.out.drew.o)).mono9 hnN)).mono ?_; rintro e w3 ⟨rfl, hb⟩; rw [HB.out]; replace HE := Lib.hid (Env.call (by with_reducible first | exact HE.out | exact HE.out.drew) hb); replace c := HC.out _ HE.out; clear hb)))
       cases B
       ·have HR9 := Lib.hid (show ¬ FeasP f xs w from fun h => absurd (HBad.out h) (of_decide_eq_false HB.out))
        go_wp2_with fail
        first
         | exact bodyPost_ret (v := .bool false) (by simp [results, Tryz.results33, go_sem]) rfl ⟨boolRes_mk false ⟨fun h9 => absurd h9 (by decide), fun h9 => absurd h9 HR9.out⟩, HE.out.bel⟩
         | exact bodyPost_ret (v := .bool false) (by simp [results, Tryz.results33, go_sem]) rfl ⟨boolRes_mk false ⟨fun h9 => absurd h9 (by decide), fun h9 => absurd h9 HR9.out⟩, HE.out.drew.bel⟩
       ·have HN2 := Lib.hid (HNx.out (of_decide_eq_true HB.out))
        clear c
        go_wp2_with fail
        go_roundw
        case rel => exact ⟨i + 1, by go_num, by omega, HN2, by first | exact Lib.hid (HE.out.drop.imp (fun _ h => h) (fun _ _ => trivial)) | exact Lib.hid (HE.out.drew.drop.imp (fun _ h => h) (fun _ _ => trivial))⟩
        case measure => (simp [intOf] <;> omega)
    ·obtain rfl : i = f.b.length := by omega
     have hiM : ¬ (f.b.length : Int) < f.M := by have := HbM.out; omega
     have HF := Lib.hid (show FeasP f xs w from ⟨HR.out, HL.out, fun k h h' => by have := HLo.out k h h'; omega, fun k h h' => by have := HHi.out k h h'; omega, fun k h => HP.out k h h⟩)
     go_wp2_with fail
     exact bodyPost_ret (v := .bool true) (by simp [results, Tryz.results33, go_sem]) rfl ⟨boolRes_mk true ⟨fun _ => HF.out, fun _ => rfl⟩, HE.out.bel⟩
theorem rfeas_any (w : World) (n N : Nat) (hN : N ≤ 3000) (h1n : 1 ≤ n) (hbd : n + 20 * (2 * n + 2) ≤ N) (f : FoV) (h : FoD n f w) (hs : FSmall f) (Ax : Option Addr) (cx : Nat) (xs : List (RV × Rat)) (hx : LsR 4 rtcells (roD n) Ax xs w) :
 Calls Tryz.prog 33 #[fA f, .slice Ax xs.length cx] w fun e w' => BoolRes (FeasP f xs w) e ∧ Below w.heap.size w w' := by
 by_cases hR : FRight f w
 ·by_cases hl : xs.length = f.cols.length
  ·exact rfeas_ok w n N hN h1n hbd f h hs Ax cx xs hx hR hl
  ·exact rfeas_len w n N hN h1n hbd f h hs Ax cx xs hx hR hl
 ·exact rfeas_no w n N hN h1n hbd f h hs Ax cx xs hx hR
end Go.Proofs.YtbnleajchmnbdaaGreatDoor
