/-
 point.Feasible$1. The plain law of point.Feasible. point.Feasible.
-/
import Derived.Test.YtbnleajchmnbdaaGreatDoorV15
namespace Go.Proofs.YtbnleajchmnbdaaGreatDoor
set_option maxHeartbeats 8000000
open Go.RowKit

def AddRes (F : Int → Rat) (N L g : Nat) (w : World) (e : Ending) (w' : World) : Prop :=
 ∃ W1 A c ts, e = .returned (.tuple #[]) ∧ w' = W1.setCell ⟨g, 0, none⟩ (.slice A (List.length ts) c) ∧ Rise ts ∧ (∀ t ∈ ts, nzT t = true ∧ Sz t.q N) ∧ ts.length ≤ L ∧ (∀ a, getQ (ts.map plq) a = F a) ∧ Rests W1 (w.heap.size ≤ ·) (LsR 5 tecells teN A ts) ∧ Below w.heap.size w W1
theorem RetC.open {F : Int → Rat} {N L : Nat} {w : World} {e : Ending} {w' : World} (h : RetC F N L w e w') : ∃ A c ts, e = .returned (.slice A (List.length ts) c) ∧ (Rise ts ∧ (∀ t ∈ ts, nzT t = true ∧ Sz t.q N) ∧ ts.length ≤ L ∧ (∀ a, getQ (ts.map plq) a = F a)) ∧ Rests w' (w.heap.size ≤ ·) (LsR 5 tecells teN A ts) ∧ Below w.heap.size w w' := by
 obtain ⟨us, h1, h2, h3, h4, A, c, ts, rfl, _, hts, hk, hb⟩ := h
 subst hts
 exact ⟨A, c, ts, rfl, ⟨rise_map rfl h1, fun t ht => h2 _ (List.mem_map_of_mem ht), by simpa using h3, h4⟩, hk, hb⟩
theorem AddRes.mk {w W1 : World} {old nw : World → Prop} {A : Option Addr} {c N L g : Nat} {ts : List TeV} {F : Int → Rat} (HE : Env w [] old (fun V => LsR 5 tecells teN A ts V ∧ nw V) W1) (H : Rise ts ∧ (∀ t ∈ ts, nzT t = true ∧ Sz t.q N) ∧ ts.length ≤ L ∧ (∀ a, getQ (ts.map plq) a = F a)) : AddRes F N L g w (.returned (.tuple #[])) (W1.setCell ⟨g, 0, none⟩ (.slice A (List.length ts) c)) :=
 ⟨W1, A, c, ts, rfl, rfl, H.1, H.2.1, H.2.2.1, H.2.2.2, (HE.rsn.imp fun _ h => h.1).mono fun _ h => h.1, HE.bel⟩
set_option maxRecDepth 100000 in
theorem feas1_any (w : World) (n m : Nat) (hn : n ≤ 40000) (hm : m ≤ 1000) (h1n : 1 ≤ n) (h1m : 1 ≤ m) (f : FoV) (gs gx gf : Nat) (As Ax : Option Addr) (cs cx : Nat) (ss : List TeV) (xs : List (RV × Rat)) (hgs : Blk w gs 40 #[.slice As ss.length cs]) (hgx : Blk w gx 23 #[.slice Ax xs.length cx]) (hgf : Blk w gf 25 #[.int .i64 f.M, .slice f.Ac f.cols.length f.cc, .slice f.Al f.lo.length f.cl, .slice f.Ah f.hi.length f.ch, .slice f.Ak f.cost.length f.ck, .slice f.Ab f.b.length f.cb]) (h : FoD m f w) (hx : LsR 4 rtcells (roD m) Ax xs w) (hss : LsR 5 tecells (teD n) As ss w) (hrs : Rise ss) (hls : ss.length ≤ 20)
 (j : Nat) (hj : j < f.cols.length) (hjx : j < xs.length) (hrv : Rise f.cols[j].ts) (hvl : f.cols[j].ts.length ≤ 1000) (hT : Tz w) :
 Calls Tryz.prog 50 #[.int .i64 (j : Int), .pointer (some ⟨gs, 0, none⟩), .pointer (some ⟨gx, 0, none⟩), .pointer (some ⟨gf, 0, none⟩)] w (AddRes (fun a => getQ (ss.map plq) a + xs[j].2 * getQ (f.cols[j].ts.map plq) a) (n + (2 * m + 1) + 1) (ss.length + f.cols[j].ts.length) gs w) := by
 have slc := h.cols.sl
 have slx := hx.sl
 have hszc := size_cols
 have hszr := size_rats
 have hadd := adr_add
 have cv0 := h.cols.vc j hj
 have cx0 := hx.rc j hjx
 obtain ⟨v, hv⟩ : ∃ v, v = f.cols[j] := ⟨_, rfl⟩
 have Hmv := Lib.hid (show v ∈ f.cols by rw [hv]; exact List.getElem_mem hj)
 obtain ⟨p, hp⟩ : ∃ p, p = xs[j] := ⟨_, rfl⟩
 have Hmp := Lib.hid (show p ∈ xs by rw [hp]; exact List.getElem_mem hjx)
 rw [← hv] at cv0 hrv hvl ⊢
 rw [← hp] at cx0 ⊢
 have HVE := Lib.hid (show ∀ V, FoD m f V → LsR 5 tecells (teD m) v.A v.ts V from fun V h => h.cols.ok v Hmv.out)
 have HXE := Lib.hid (show ∀ V, LsR 4 rtcells (roD m) Ax xs V → RatD p.1 p.2 m V from fun V h => h.ok p Hmp.out)
 have Hrv := Lib.hid hrv
 have Hrs := Lib.hid hrs
 have Hls := Lib.hid hls
 have Hvl := Lib.hid hvl
 have cs0 := Blk.cb hgs
 have cg0 := Blk.cb hgx
 have cf0 := Blk.cb hgf
 have HE := Lib.hid (Env.start (hgs.old.and (hgx.old.and (hgf.old.and (h.old.and ((hx.old roD_old).and ((hss.old teD_old).and hT.old)))))))
 clear hgs hgx hgf h hx hss hT hv hp hrv hrs hvl hls
 go_enter Tryz.func50, Tryz.ntmps50
 go_wp2_with fail
 go_region_with (first
  | (go_at_call 51; go_must (refine (axpy_any _ n m hn (by omega) h1n h1m As v.A cs v.c ss v.ts p.1 p.2 (by with_reducible first | exact HE.out.o.2.2.2.2.2.1 | exact HE.out.drew.o.2.2.2.2.2.1) (HVE.out _ (by with_reducible first | exact HE.out.o.2.2.2.1 | exact HE.out.drew.o.2.2.2.1)) (HXE.out _ (by with_reducible first | exact HE.out.o.2.2.2.2.1 | exact HE.out.drew.o.2.2.2.2.1)) Hrs.out Hrv.out Hls.out Hvl.out (by with_reducible first | exact HE.out.o.2.2.2.2.2.2 | exact HE.out.drew.o.2.2.2.2.2.2)).mono ?_; rintro e w1 hret; obtain ⟨A, c, ts, rfl, hres, hk, hb⟩ := RetC.open hret; clear hret; replace HE := Lib.hid (Env.ret (by with_reducible first | exact HE.out | exact HE.out.drew) hk hb); have Hres := Lib.hid hres; have cs1 := Blk.cb HE.out.o.1; clear hk hb hres)))
 all_goals
  go_wp2_with fail
  refine bodyPost_ret (v := .tuple #[]) ?_ rfl ?_
  ·simp [results, Tryz.results50, go_sem]
  ·first
    | with_reducible exact AddRes.mk HE.out Hres.out
    | with_reducible exact AddRes.mk HE.out.drew Hres.out

theorem getQ_cons (p : Int × Rat) (l : List (Int × Rat)) (a : Int) : getQ (p :: l) a = (if p.1 = a then p.2 else 0) + getQ l a := by
 rw [← List.singleton_append, getQ_app, getQ_one]
theorem nzP_ne {p : Int × Rat} (h : nzP p = true) : p.2 ≠ 0 := by
 intro e
 unfold nzP at h
 rw [e] at h
 exact absurd h (by decide)
theorem rise_get_lt {l : List (Int × Rat)} {a : Int} (h : ∀ p ∈ l, a < p.1) : getQ l a = 0 := getQ_none fun p hp e => by have := h p hp; omega
theorem rise_ext : ∀ {P Q : List (Int × Rat)}, P.Pairwise (fun p q => p.1 < q.1) → Q.Pairwise (fun p q => p.1 < q.1) → (∀ p ∈ P, nzP p = true) → (∀ p ∈ Q, nzP p = true) → (∀ a, getQ P a = getQ Q a) → P = Q
 | [], [], _, _, _, _, _ => rfl
 | [], q :: Q, _, hq, _, nq, h => by
  exfalso
  have h1 := h q.1
  rw [getQ_cons, if_pos rfl, rise_get_lt (List.pairwise_cons.1 hq).1, Rat.add_zero] at h1
  exact nzP_ne (nq q (List.mem_cons_self ..)) h1.symm
 | p :: P, [], hp, _, np, _, h => by
  exfalso
  have h1 := h p.1
  rw [getQ_cons, if_pos rfl, rise_get_lt (List.pairwise_cons.1 hp).1, Rat.add_zero] at h1
  exact nzP_ne (np p (List.mem_cons_self ..)) h1
 | p :: P, q :: Q, hp, hq, np, nq, h => by
  have hp' := List.pairwise_cons.1 hp
  have hq' := List.pairwise_cons.1 hq
  have e : p.1 = q.1 := by
   by_cases h1 : p.1 < q.1
   ·have h2 := h p.1
    rw [getQ_cons, if_pos rfl, rise_get_lt hp'.1, Rat.add_zero, getQ_cons, if_neg (by omega), rise_get_lt fun x hx => by have := hq'.1 x hx; omega, Rat.add_zero] at h2
    exact absurd h2 (nzP_ne (np p (List.mem_cons_self ..)))
   ·by_cases h3 : q.1 < p.1
    ·have h2 := h q.1
     rw [getQ_cons, if_neg (by omega), rise_get_lt fun x hx => by have := hp'.1 x hx; omega, getQ_cons, if_pos rfl, rise_get_lt hq'.1, Rat.add_zero, Rat.add_zero] at h2
     exact absurd h2.symm (nzP_ne (nq q (List.mem_cons_self ..)))
    ·omega
  have e2 : p.2 = q.2 := by
   have h2 := h p.1
   rw [getQ_cons, if_pos rfl, rise_get_lt hp'.1, getQ_cons, if_pos e.symm, rise_get_lt fun x hx => by rw [e]; exact hq'.1 x hx, Rat.add_zero, Rat.add_zero] at h2
   exact h2
  have e3 : p = q := Prod.ext e e2
  subst e3
  rw [rise_ext hp'.2 hq'.2 (fun x hx => np x (List.mem_cons_of_mem _ hx)) (fun x hx => nq x (List.mem_cons_of_mem _ hx)) fun a => by
   have h2 := h a
   rw [getQ_cons, getQ_cons] at h2
   exact Rat.add_left_cancel _ h2]
theorem getQ_ofT_at (ys : List (RV × Rat)) (i : Nat) (hi : i < ys.length) : getQ ((ofT ys).map plq) (i : Int) = ys[i].2 := by
 have h1 : i < (ofT ys).length := by rw [ofT_len]; exact hi
 have h2 := (ofT_rise ys).get_at h1
 rw [ofT_at ys i hi] at h2
 exact h2
theorem getQ_ofT_none (ys : List (RV × Rat)) (a : Int) (h : a < 0 ∨ (ys.length : Int) ≤ a) : getQ ((ofT ys).map plq) a = 0 := getQ_none fun p hp => by
 obtain ⟨t, ht, rfl⟩ := List.mem_map.1 hp
 obtain ⟨j, hj, rfl⟩ := List.mem_iff_getElem.1 ht
 have hj' : j < ys.length := by rwa [ofT_len] at hj
 rw [ofT_at ys j hj']
 show (j : Int) ≠ a
 omega
theorem getQ_vecL (ys : List (RV × Rat)) (a : Int) : getQ (vecL ys) a = getQ ((ofT ys).map plq) a := by
 unfold vecL; rw [getQ_filter]
theorem rise_few : ∀ {l : List TeV} {lo hi : Int}, Rise l → (∀ t ∈ l, lo ≤ t.pl ∧ t.pl < hi) → l.length ≤ (hi - lo).toNat
 | [], _, _, _, _ => Nat.zero_le _
 | t :: l, lo, hi, hr, h => by
  have hr' := List.pairwise_cons.1 hr
  have h1 := rise_few (l := l) (lo := t.pl + 1) (hi := hi) hr'.2 fun u hu => ⟨by have := hr'.1 u hu; omega, (h u (List.mem_cons_of_mem _ hu)).2⟩
  have h2 := h t (List.mem_cons_self ..)
  rw [List.length_cons]
  omega
theorem rng_get {ts : List TeV} {M a : Int} (h : ∀ t ∈ ts, 0 ≤ t.pl ∧ t.pl < M) (ha : a < 0 ∨ M ≤ a) : getQ (ts.map plq) a = 0 := getQ_none fun p hp => by
 obtain ⟨t, ht, rfl⟩ := List.mem_map.1 hp
 have := h t ht
 show t.pl ≠ a
 omega
theorem rng_of {ts : List TeV} {M : Int} (hr : Rise ts) (hz : ∀ t ∈ ts, nzT t = true) (h : ∀ a, (a < 0 ∨ M ≤ a) → getQ (ts.map plq) a = 0) : ∀ t ∈ ts, 0 ≤ t.pl ∧ t.pl < M := fun t ht => by
 obtain ⟨j, hj, rfl⟩ := List.mem_iff_getElem.1 ht
 have h1 := hr.get_at hj
 by_cases h2 : ts[j].pl < 0 ∨ M ≤ ts[j].pl
 ·rw [h _ h2] at h1
  exact absurd h1.symm (nzP_ne (p := plq ts[j]) (hz _ ht))
 ·omega
def sumQ (f : FoV) (xs : List (RV × Rat)) (a : Int) : Nat → Rat
 | 0 => 0
 | k + 1 => sumQ f xs a k + (xs[k]!).2 * getQ ((f.cols[k]!).ts.map plq) a
structure FeasP (f : FoV) (xs : List (RV × Rat)) (w : World) : Prop where
 right : FRight f w
 len : xs.length = f.cols.length
 lo : ∀ j (h : j < xs.length) (h' : j < f.lo.length), ¬ cmpQ xs[j].2 f.lo[j].2 < 0
 hi : ∀ j (h : j < xs.length) (h' : j < f.hi.length), ¬ 0 < cmpQ xs[j].2 f.hi[j].2
 eq : ∀ i (h : i < f.b.length), sumQ f xs (i : Int) f.cols.length = f.b[i].2
structure FI (n : Nat) (f : FoV) (xs : List (RV × Rat)) (j : Nat) (ss : List TeV) : Prop where
 rise : Rise ss
 nz : ∀ t ∈ ss, nzT t = true
 sz : ∀ t ∈ ss, Sz t.q (1 + j * (2 * n + 2))
 rng : ∀ t ∈ ss, 0 ≤ t.pl ∧ t.pl < f.M
 get : ∀ a, getQ (ss.map plq) a = sumQ f xs a j
 lo : ∀ k (h : k < xs.length) (h' : k < f.lo.length), k < j → ¬ cmpQ xs[k].2 f.lo[k].2 < 0
 hi : ∀ k (h : k < xs.length) (h' : k < f.hi.length), k < j → ¬ 0 < cmpQ xs[k].2 f.hi[k].2
theorem FI.start (n : Nat) (f : FoV) (xs : List (RV × Rat)) : FI n f xs 0 [] := ⟨.nil, by simp, by simp, by simp, fun _ => rfl, fun _ _ _ h => absurd h (Nat.not_lt_zero _), fun _ _ _ h => absurd h (Nat.not_lt_zero _)⟩
theorem FI.len {n : Nat} {f : FoV} {xs : List (RV × Rat)} {j : Nat} {ss : List TeV} (h : FI n f xs j ss) (hM : f.M ≤ 5) : ss.length ≤ 5 := by
 have := rise_few h.rise h.rng
 omega
theorem FI.next {n : Nat} {f : FoV} {xs : List (RV × Rat)} {j : Nat} {ss us : List TeV} {w : World} (h : FI n f xs j ss) (hR : FRight f w) (hj : j < f.cols.length) (hjx : j < xs.length) (hjl : j < f.lo.length) (hjh : j < f.hi.length)
 (h1 : Rise us) (h2 : ∀ t ∈ us, nzT t = true ∧ Sz t.q ((1 + j * (2 * n + 2)) + (2 * n + 1) + 1)) (h3 : ∀ a, getQ (us.map plq) a = getQ (ss.map plq) a + xs[j].2 * getQ (f.cols[j].ts.map plq) a) (h4 : ¬ cmpQ xs[j].2 f.lo[j].2 < 0) (h5 : ¬ 0 < cmpQ xs[j].2 f.hi[j].2) : FI n f xs (j + 1) us := by
 refine ⟨h1, fun t ht => (h2 t ht).1, fun t ht => (h2 t ht).2.up ?_, rng_of h1 (fun t ht => (h2 t ht).1) fun a ha => ?_, fun a => ?_, fun k hk hk' hkj => ?_, fun k hk hk' hkj => ?_⟩
 ·rw [Nat.add_mul]; omega
 ·rw [h3, rng_get h.rng ha, rng_get (hR.col j hj).rng ha, Rat.mul_zero, Rat.add_zero]
 ·rw [h3, h.get]
  show _ = sumQ f xs a j + (xs[j]!).2 * getQ ((f.cols[j]!).ts.map plq) a
  rw [getElem!_pos xs j hjx, getElem!_pos f.cols j hj]
 ·rcases Nat.lt_succ_iff_lt_or_eq.1 hkj with e | e
  ·exact h.lo k hk hk' e
  ·subst e; exact h4
 ·rcases Nat.lt_succ_iff_lt_or_eq.1 hkj with e | e
  ·exact h.hi k hk hk' e
  ·subst e; exact h5
theorem sumQ_rng {f : FoV} {xs : List (RV × Rat)} {w : World} (hR : FRight f w) {a : Int} (ha : a < 0 ∨ f.M ≤ a) : ∀ j, j ≤ f.cols.length → sumQ f xs a j = 0
 | 0, _ => rfl
 | j + 1, h => by
  show sumQ f xs a j + (xs[j]!).2 * getQ ((f.cols[j]!).ts.map plq) a = 0
  rw [sumQ_rng hR ha j (by omega), getElem!_pos f.cols j (by omega), rng_get (hR.col j (by omega)).rng ha, Rat.mul_zero, Rat.add_zero]
theorem FI.done {n : Nat} {f : FoV} {xs : List (RV × Rat)} {ss us : List TeV} {w : World} (h : FI n f xs f.cols.length ss) (hR : FRight f w) (hl : xs.length = f.cols.length) (hu : us.map plq = vecL f.b) : (ss.map plq).filter nzP = (us.map plq).filter nzP ↔ FeasP f xs w := by
 have hb := hR.b
 have hfs : (ss.map plq).filter nzP = ss.map plq := List.filter_eq_self.2 fun p hp => by
  obtain ⟨t, ht, rfl⟩ := List.mem_map.1 hp
  exact h.nz t ht
 rw [hfs, hu]
 have hfb : (vecL f.b).filter nzP = vecL f.b := by unfold vecL; rw [List.filter_filter]; simp
 rw [hfb]
 constructor
 ·intro e
  refine ⟨hR, hl, fun j hj hj' => h.lo j hj hj' (by omega), fun j hj hj' => h.hi j hj hj' (by omega), fun i hi => ?_⟩
  rw [← h.get, e, getQ_vecL, getQ_ofT_at _ _ hi]
 ·intro hF
  refine rise_ext h.rise.map ((ofT_rise f.b).map.filter _) (fun p hp => ?_) (fun p hp => (List.mem_filter.1 hp).2) fun a => ?_
  ·obtain ⟨t, ht, rfl⟩ := List.mem_map.1 hp
   exact h.nz t ht
  ·rw [h.get]
   show _ = getQ (vecL f.b) a
   rw [getQ_vecL]
   by_cases ha : a < 0 ∨ f.M ≤ a
   ·rw [sumQ_rng hR ha _ (Nat.le_refl _), getQ_ofT_none _ _ (by omega)]
   ·obtain ⟨i, rfl⟩ : ∃ i : Nat, a = (i : Int) := ⟨a.toNat, by omega⟩
    rw [getQ_ofT_at _ i (by omega)]
    exact hF.eq i (by omega)

theorem cmpQ_nn {a b : Rat} (h : ¬ cmpQ a b < 0) : cmpQ a b = 0 ∨ cmpQ a b = 1 := by
 unfold cmpQ at h ⊢
 by_cases h1 : a < b
 ·rw [if_pos h1] at h; omega
 ·rw [if_neg h1]
  by_cases h2 : a = b
  ·rw [if_pos h2]; exact .inl rfl
  ·rw [if_neg h2]; exact .inr rfl
theorem cmpQ_m1 {a b : Rat} (h : cmpQ a b < 0) : cmpQ a b = -1 := by
 unfold cmpQ at h ⊢
 by_cases h1 : a < b
 ·rw [if_pos h1]
 ·rw [if_neg h1] at h
  by_cases h2 : a = b
  ·rw [if_pos h2] at h; omega
  ·rw [if_neg h2] at h; omega
set_option maxRecDepth 100000 in
theorem feas_no (w : World) (n : Nat) (hn : n ≤ 1000) (h1n : 1 ≤ n) (f : FoV) (h : FoD n f w) (hs : FSmall f) (Ax : Option Addr) (cx : Nat) (xs : List (RV × Rat)) (hx : LsR 4 rtcells (roD n) Ax xs w) (hT : Tz w) (hR : ¬ FRight f w) :
 Calls Tryz.prog 20 #[fA f, .slice Ax xs.length cx] w fun e w' => BoolRes (FeasP f xs w) e ∧ Below w.heap.size w w' := by
 have Hs := Lib.hid hs
 have HR := Lib.hid hR
 have Hf := Lib.hid h
 have HE := Lib.hid (lyFS f Ax xs.length cx ((h.old).and (((hx.old roD_old)).and (hT.old))))
 have c := Env.c2 HE.out
 have dd := Env.d2 HE.out
 clear h hs hR hx hT
 unfold fA
 go_enter Tryz.func20, Tryz.ntmps20
 go_wp2_with fail
 refine (pright_any _ n (by omega) h1n f HE.out.o.1 Hs.out HE.out.o.2.2).mono ?_
 rintro e w1 ⟨⟨z, rfl, hz⟩, hb⟩
 have hR1 := FRight.same Hf.out HE.out.bel
 replace HE := Lib.hid (Env.call HE.out hb)
 replace c := Env.c2 HE.out
 clear hb
 obtain ⟨rfl, -⟩ : z = 101 ∧ True := by
  rcases hz with ⟨-, h9⟩ | ⟨h9, -⟩
  ·exact absurd (hR1.1 h9) HR.out
  ·exact ⟨h9, trivial⟩
 clear hz hR1
 go_wp2_with fail
 exact bodyPost_ret (v := .bool false) (by simp [results, Tryz.results20, go_sem]) rfl ⟨boolRes_mk false ⟨fun h9 => absurd h9 (by decide), fun h9 => absurd h9.right HR.out⟩, HE.out.bel⟩
set_option maxRecDepth 100000 in
theorem feas_len (w : World) (n : Nat) (hn : n ≤ 1000) (h1n : 1 ≤ n) (f : FoV) (h : FoD n f w) (hs : FSmall f) (Ax : Option Addr) (cx : Nat) (xs : List (RV × Rat)) (hx : LsR 4 rtcells (roD n) Ax xs w) (hT : Tz w) (hR : FRight f w) (hl : xs.length ≠ f.cols.length) :
 Calls Tryz.prog 20 #[fA f, .slice Ax xs.length cx] w fun e w' => BoolRes (FeasP f xs w) e ∧ Below w.heap.size w w' := by
 have Hs := Lib.hid hs
 have HR := Lib.hid hR
 have Hf := Lib.hid h
 have kl : ((xs.length : Int) != (f.cols.length : Int)) = true := by simp; omega
 have HL := Lib.hid hl
 clear hl
 have HE := Lib.hid (lyFS f Ax xs.length cx ((h.old).and (((hx.old roD_old)).and (hT.old))))
 have c := Env.c2 HE.out
 have dd := Env.d2 HE.out
 clear h hs hR hx hT
 unfold fA
 go_enter Tryz.func20, Tryz.ntmps20
 go_wp2_with fail
 refine (pright_any _ n (by omega) h1n f HE.out.o.1 Hs.out HE.out.o.2.2).mono ?_
 rintro e w1 ⟨⟨z, rfl, hz⟩, hb⟩
 have hR1 := FRight.same Hf.out HE.out.bel
 replace HE := Lib.hid (Env.call HE.out hb)
 replace c := Env.c2 HE.out
 clear hb
 obtain ⟨rfl, -⟩ : z = 0 ∧ True := by
  rcases hz with ⟨h9, -⟩ | ⟨-, h9⟩
  ·exact ⟨h9, trivial⟩
  ·exact absurd (hR1.2 HR.out) h9
 clear hz hR1
 go_wp2_with fail
 exact bodyPost_ret (v := .bool false) (by simp [results, Tryz.results20, go_sem]) rfl ⟨boolRes_mk false ⟨fun h9 => absurd h9 (by decide), fun h9 => absurd h9.len HL.out⟩, HE.out.bel⟩
set_option maxRecDepth 100000 in
theorem feas_ok (w : World) (n : Nat) (hn : n ≤ 1000) (h1n : 1 ≤ n) (f : FoV) (h : FoD n f w) (hs : FSmall f) (Ax : Option Addr) (cx : Nat) (xs : List (RV × Rat)) (hx : LsR 4 rtcells (roD n) Ax xs w) (hT : Tz w) (hR : FRight f w) (hl : xs.length = f.cols.length) :
 Calls Tryz.prog 20 #[fA f, .slice Ax xs.length cx] w fun e w' => BoolRes (FeasP f xs w) e ∧ Below w.heap.size w w' := by
 have Hs := Lib.hid hs
 have HR := Lib.hid hR
 have Hf := Lib.hid h
 have kl : ((xs.length : Int) != (f.cols.length : Int)) = false := by simp; omega
 have HL := Lib.hid hl
 have hc12 := hs.cols
 have slc := h.cols.sl
 have sll := h.lo.sl
 have slh := h.hi.sl
 have slx := hx.sl
 have slb := h.b.sl
 have hszr := size_rats
 have hszc := size_cols
 have hadd := adr_add
 have HFB := Lib.hid (fun (V : World) (h : FoD n f V) => h.b)
 have Hsb := Lib.hid (show ∀ p ∈ f.b, Sz p.2 n from fun p hp => RatD.sz (h.b.ok p hp) h1n)
 clear hl
 have HE := Lib.hid (lyFS f Ax xs.length cx ((h.old).and (((hx.old roD_old)).and (hT.old))))
 have c := Env.c2 HE.out
 have dd := Env.d2 HE.out
 clear h hs hR hx hT
 unfold fA
 go_enter Tryz.func20, Tryz.ntmps20
 go_wp2_with fail
 refine (pright_any _ n (by omega) h1n f HE.out.o.1 Hs.out HE.out.o.2.2).mono ?_
 rintro e w1 ⟨⟨z, rfl, hz⟩, hb⟩
 have hR1 := FRight.same Hf.out HE.out.bel
 replace HE := Lib.hid (Env.call HE.out hb)
 replace c := Env.c2 HE.out
 clear hb
 obtain ⟨rfl, -⟩ : z = 0 ∧ True := by
  rcases hz with ⟨h9, -⟩ | ⟨-, h9⟩
  ·exact ⟨h9, trivial⟩
  ·exact absurd (hR1.2 HR.out) h9
 clear hz hR1
 clear c
 have c := Env.c2 HE.out
 go_upto_region 4 with fail
 obtain ⟨W1, g5, hW1, hg5, HE⟩ := Env.al HE.out 40 #[.slice none 0 0]
 rw [hW1, hg5]
 clear hW1 hg5 c
 have c := Env.c3 HE.out
 go_wp2_with fail
 clear c
 go_loopw [23] (fun jv wr => ∃ (j : Nat) (As : Option Addr) (cs : Nat) (ss : List TeV), jv = .int .i64 (j : Int) ∧ j ≤ f.cols.length ∧ Hid (FI n f xs j ss) ∧ Hid (Env w [⟨g5, 40, #[.slice As ss.length cs]⟩, ⟨w.heap.size + 1, 23, #[.slice Ax xs.length cx]⟩, ⟨w.heap.size, 25, #[.int .i64 f.M, .slice f.Ac f.cols.length f.cc, .slice f.Al f.lo.length f.cl, .slice f.Ah f.hi.length f.ch, .slice f.Ak f.cost.length f.ck, .slice f.Ab f.b.length f.cb]⟩] (fun V => FoD n f V ∧ LsR 4 rtcells (roD n) Ax xs V ∧ Tz V) (fun V => LsR 5 tecells teN As ss V) wr)) (fun jv _ => f.cols.length - (intOf jv).toNat)
 case atStart => exact ⟨0, none, 0, [], rfl, Nat.zero_le _, Lib.hid (FI.start n f xs), Lib.hid (HE.out.imp (fun _ h => h) (fun V _ => LsR.nil_ _))⟩
 case round =>
  clear HE
  obtain ⟨j, As, cs, ss, rfl, hj, HF, HE⟩ := hrel
  by_cases hlt : j < f.cols.length
  ·have hjx : j < xs.length := by rw [HL.out]; exact hlt
   have hjl : j < f.lo.length := by rw [HR.out.lo]; exact hlt
   have hjh : j < f.hi.length := by rw [HR.out.hi]; exact hlt
   have HQ := Lib.hid (fun (V : World) (h : FoD n f V) => h.lo.rc j hjl)
   have HH := Lib.hid (fun (V : World) (h : FoD n f V) => h.hi.rc j hjh)
   have cx0 := HE.out.o.2.1.rc j hjx
   have HLO := Lib.hid (show FeasP f xs w → ¬ cmpQ xs[j].2 f.lo[j].2 < 0 from fun h => h.lo j hjx hjl)
   have HHI := Lib.hid (show FeasP f xs w → ¬ 0 < cmpQ xs[j].2 f.hi[j].2 from fun h => h.hi j hjx hjh)
   have HNX := Lib.hid (fun (us : List TeV) h1 h2 h3 h4 h5 => FI.next (us := us) HF.out HR.out hlt hjx hjl hjh h1 h2 h3 h4 h5)
   obtain ⟨p, hp⟩ : ∃ p, p = xs[j] := ⟨_, rfl⟩
   obtain ⟨q, hq⟩ : ∃ q, q = f.lo[j] := ⟨_, rfl⟩
   obtain ⟨r, hr⟩ : ∃ r, r = f.hi[j] := ⟨_, rfl⟩
   have Hmp := Lib.hid (show p ∈ xs by rw [hp]; exact List.getElem_mem hjx)
   have Hmq := Lib.hid (show q ∈ f.lo by rw [hq]; exact List.getElem_mem hjl)
   have Hmr := Lib.hid (show r ∈ f.hi by rw [hr]; exact List.getElem_mem hjh)
   rw [← hq] at HQ HLO HNX
   rw [← hr] at HH HHI HNX
   rw [← hp] at cx0 HLO HHI HNX
   have Hp := Lib.hid hp
   clear hp hq hr
   have HXE := Lib.hid (show ∀ V, LsR 4 rtcells (roD n) Ax xs V → RatD p.1 p.2 n V from fun V h => h.ok p Hmp.out)
   have HQE := Lib.hid (show ∀ V, FoD n f V → RatD q.1 q.2 n V from fun V h => h.lo.ok q Hmq.out)
   have HRE := Lib.hid (show ∀ V, FoD n f V → RatD r.1 r.2 n V from fun V h => h.hi.ok r Hmr.out)
   have c := Env.c3 HE.out
   go_upto_region 8 with fail
   obtain ⟨W2, gv, hW2, hgv, HE⟩ := Env.al HE.out 33 #[.bool p.1.num.neg, .slice p.1.num.A p.1.num.k p.1.num.c, .bool p.1.den.neg, .slice p.1.den.A p.1.den.k p.1.den.c]
   rw [hW2, hgv]
   clear hW2 hgv c cx0
   have HC := Lib.hid (fun (V : World) (h : Env w [⟨gv, 33, #[.bool p.1.num.neg, .slice p.1.num.A p.1.num.k p.1.num.c, .bool p.1.den.neg, .slice p.1.den.A p.1.den.k p.1.den.c]⟩, ⟨g5, 40, #[.slice As ss.length cs]⟩, ⟨w.heap.size + 1, 23, #[.slice Ax xs.length cx]⟩, ⟨w.heap.size, 25, #[.int .i64 f.M, .slice f.Ac f.cols.length f.cc, .slice f.Al f.lo.length f.cl, .slice f.Ah f.hi.length f.ch, .slice f.Ak f.cost.length f.ck, .slice f.Ab f.b.length f.cb]⟩] (fun V => FoD n f V ∧ LsR 4 rtcells (roD n) Ax xs V ∧ Tz V) (fun V => LsR 5 tecells teN As ss V) V) => And.intro (Env.c4 h).1 (And.intro (Env.c4 h).2.2.2 (And.intro (HQ.out V h.o.1) (HH.out V h.o.1))))
   have c := HC.out _ HE.out
   by_cases hlo : cmpQ p.2 q.2 < 0
   ·have HR9 := Lib.hid (show ¬ FeasP f xs w from fun h => HLO.out h hlo)
    have HM1 := Lib.hid (cmpQ_m1 hlo)
    refine wp_region_noPanic ?_
    refine wp_region_held_drew (S := (fun W => CB gv #[.bool p.1.num.neg, .slice p.1.num.A p.1.num.k p.1.num.c, .bool p.1.den.neg, .slice p.1.den.A p.1.den.k p.1.den.c] W ∧ CB (w.heap.size) #[.int .i64 f.M, .slice f.Ac f.cols.length f.cc, .slice f.Al f.lo.length f.cl, .slice f.Ah f.hi.length f.ch, .slice f.Ak f.cost.length f.ck, .slice f.Ab f.b.length f.cb] W ∧ RC f.Al j q W ∧ RC f.Ah j r W)) (by kernel_rfl) (by first | exact HC.out _ HE.out | exact HC.out _ HE.out.drew) (fun hHeld => ?_)
    refine hT 0 28 hHeld ?_
    refine hT 1 29 hHeld ?_
    refine hT 2 30 hHeld ?_
    refine hT 3 31 hHeld ?_
    refine hT 4 32 hHeld ?_
    refine hT 5 33 hHeld ?_
    refine held_call (i := 6) rfl (by kernel_rfl) (by rfl) (fun K hK => ?_)
    clear hHeld
    simp only [q1, q2, q3]
    go_simp
    refine (rcmp_any _ p.1 q.1 p.2 q.2 n (by omega) h1n (HXE.out _ (by with_reducible first | exact HE.out.o.2.1 | exact HE.out.drew.o.2.1)) (HQE.out _ (by with_reducible first | exact HE.out.o.1 | exact HE.out.drew.o.1))).mono ?_
    rintro e w2 ⟨rfl, hb⟩
    rw [HM1.out]
    replace HE := Lib.hid (Env.call (by with_reducible first | exact HE.out | exact HE.out.drew) hb)
    clear hb
    (try (go_wp2_with fail))
    refine hK.out _ _ (by first | exact HC.out _ HE.out | exact HC.out _ HE.out.drew) (fun hHeld => ?_)
    clear hK K
    try simp only [p1, p2, p3, p4]
    refine hT 7 35 hHeld ?_
    refine hT 8 36 hHeld ?_
    refine held_take (i := 9) (v := undef) (some 37) rfl rfl (by kernel_rfl) (by kernel_rfl) (by kernel_rfl) (fun _ _ _ h => h) (Or.inr ⟨by rfl, rfl⟩) hHeld ?_
    try simp only [p1, p2, p3, p4]
    refine held_take (i := 10) (v := undef) (some 38) rfl rfl (by kernel_rfl) (by kernel_rfl) (by kernel_rfl) (fun _ _ _ h => h) (Or.inr ⟨by rfl, rfl⟩) hHeld ?_
    try simp only [p1, p2, p3, p4]
    refine held_take (i := 11) (v := undef) (some 39) rfl rfl (by kernel_rfl) (by kernel_rfl) (by kernel_rfl) (fun _ _ _ h => h) (Or.inr ⟨by rfl, rfl⟩) hHeld ?_
    try simp only [p1, p2, p3, p4]
    refine held_take (i := 12) (v := undef) (some 40) rfl rfl (by kernel_rfl) (by kernel_rfl) (by kernel_rfl) (fun _ _ _ h => h) (Or.inr ⟨by rfl, rfl⟩) hHeld ?_
    try simp only [p1, p2, p3, p4]
    refine held_take (i := 13) (v := undef) (some 41) rfl rfl (by kernel_rfl) (by kernel_rfl) (by kernel_rfl) (fun _ _ _ h => h) (Or.inr ⟨by rfl, rfl⟩) hHeld ?_
    try simp only [p1, p2, p3, p4]
    refine held_take (i := 14) (v := undef) (some 42) rfl rfl (by kernel_rfl) (by kernel_rfl) (by kernel_rfl) (fun _ _ _ h => h) (Or.inr ⟨by rfl, rfl⟩) hHeld ?_
    try simp only [p1, p2, p3, p4]
    refine held_skip (i := 15) (some 43) rfl rfl (by kernel_rfl) (by rfl) hHeld ?_
    try simp only [p1, p2, p3, p4]
    refine held_take (i := 16) (v := undef) (some 44) rfl rfl (by kernel_rfl) (by kernel_rfl) (by kernel_rfl) (fun _ _ _ h => h) (Or.inr ⟨by rfl, rfl⟩) hHeld ?_
    try simp only [p1, p2, p3, p4]
    refine hT 17 45 hHeld ?_
    refine wpAnyH_done (by kernel_rfl) ?_ _
    refine NoPanic.normal ?_
    go_wp2_with fail
    first
     | exact bodyPost_ret (v := .bool false) (by simp [results, Tryz.results20, go_sem]) rfl ⟨boolRes_mk false ⟨fun h9 => absurd h9 (by decide), fun h9 => absurd h9 HR9.out⟩, HE.out.bel⟩
     | exact bodyPost_ret (v := .bool false) (by simp [results, Tryz.results20, go_sem]) rfl ⟨boolRes_mk false ⟨fun h9 => absurd h9 (by decide), fun h9 => absurd h9 HR9.out⟩, HE.out.drew.bel⟩
   ·have HNLo := Lib.hid hlo
    have hC0 : ∃ C : Int, cmpQ p.2 q.2 = C ∧ (C = 0 ∨ C = 1) := ⟨_, rfl, cmpQ_nn hlo⟩
    obtain ⟨C, hC1, hC2⟩ := hC0
    rcases hC2 with rfl | rfl
    all_goals
     have HCC := Lib.hid hC1
     clear hC1 hlo
     go_region_held3 (fun W => CB gv #[.bool p.1.num.neg, .slice p.1.num.A p.1.num.k p.1.num.c, .bool p.1.den.neg, .slice p.1.den.A p.1.den.k p.1.den.c] W ∧ CB (w.heap.size) #[.int .i64 f.M, .slice f.Ac f.cols.length f.cc, .slice f.Al f.lo.length f.cl, .slice f.Ah f.hi.length f.ch, .slice f.Ak f.cost.length f.ck, .slice f.Ab f.b.length f.cb] W ∧ RC f.Al j q W ∧ RC f.Ah j r W) (first | with_reducible exact c | with_reducible exact HC.out _ HE.out.drew | ((repeat' apply And.intro) <;> go_keep))
      (first
       | (go_at_call_of 21 (#[.agg #[.bool p.1.num.neg, .slice p.1.num.A p.1.num.k p.1.num.c, .bool p.1.den.neg, .slice p.1.den.A p.1.den.k p.1.den.c], .agg #[.bool q.1.num.neg, .slice q.1.num.A q.1.num.k q.1.num.c, .bool q.1.den.neg, .slice q.1.den.A q.1.den.k q.1.den.c]] : Array Value); go_must (refine (rcmp_any _ p.1 q.1 p.2 q.2 n (by omega) h1n (HXE.out _ (by with_reducible first | exact HE.out.o.2.1 | exact HE.out.drew.o.2.1)) (HQE.out _ (by with_reducible first | exact HE.out.o.1 | exact HE.out.drew.o.1))).mono ?_; rintro e w2 ⟨rfl, hb⟩; rw [HCC.out]; replace HE := Lib.hid (Env.call (by with_reducible first | exact HE.out | exact HE.out.drew) hb); replace c := HC.out _ HE.out; clear hb))
       | (go_at_call_of 21 (#[.agg #[.bool p.1.num.neg, .slice p.1.num.A p.1.num.k p.1.num.c, .bool p.1.den.neg, .slice p.1.den.A p.1.den.k p.1.den.c], .agg #[.bool r.1.num.neg, .slice r.1.num.A r.1.num.k r.1.num.c, .bool r.1.den.neg, .slice r.1.den.A r.1.den.k r.1.den.c]] : Array Value); go_must (refine (rcmp_any _ p.1 r.1 p.2 r.2 n (by omega) h1n (HXE.out _ (by with_reducible first | exact HE.out.o.2.1 | exact HE.out.drew.o.2.1)) (HRE.out _ (by with_reducible first | exact HE.out.o.1 | exact HE.out.drew.o.1))).mono ?_; rintro e w2 ⟨rfl, hb⟩; replace HE := Lib.hid (Env.call (by with_reducible first | exact HE.out | exact HE.out.drew) hb); replace c := HC.out _ HE.out; clear hb)))
     all_goals
     by_cases hhi : 0 < cmpQ p.2 r.2
     ·have HR9 := Lib.hid (show ¬ FeasP f xs w from fun h => by have := HHI.out h; omega)
      go_wp2_with fail
      first
       | exact bodyPost_ret (v := .bool false) (by simp [results, Tryz.results20, go_sem]) rfl ⟨boolRes_mk false ⟨fun h9 => absurd h9 (by decide), fun h9 => absurd h9 HR9.out⟩, HE.out.bel⟩
       | exact bodyPost_ret (v := .bool false) (by simp [results, Tryz.results20, go_sem]) rfl ⟨boolRes_mk false ⟨fun h9 => absurd h9 (by decide), fun h9 => absurd h9 HR9.out⟩, HE.out.drew.bel⟩
     ·have HNH := Lib.hid hhi
      clear c
      replace HE := Lib.hid (show (Env w [⟨g5, 40, #[.slice As ss.length cs]⟩, ⟨w.heap.size + 1, 23, #[.slice Ax xs.length cx]⟩, ⟨w.heap.size, 25, #[.int .i64 f.M, .slice f.Ac f.cols.length f.cc, .slice f.Al f.lo.length f.cl, .slice f.Ah f.hi.length f.ch, .slice f.Ak f.cost.length f.ck, .slice f.Ab f.b.length f.cb]⟩] (fun V => FoD n f V ∧ LsR 4 rtcells (roD n) Ax xs V ∧ Tz V) (fun V => LsR 5 tecells teN As ss V) _) from (by with_reducible first | exact HE.out.drop | exact HE.out.drew.drop))
      have c := Env.c3 HE.out
      go_wp2_with fail
      have hNJ : 1 + j * (2 * n + 2) ≤ 40000 := by have := Nat.mul_le_mul (show j ≤ 12 by omega) (show 2 * n + 2 ≤ 2002 by omega); omega
      refine (feas1_any _ (1 + j * (2 * n + 2)) n hNJ hn (by omega) h1n f g5 (w.heap.size + 1) (w.heap.size) As Ax cs cx ss xs (HE.out.bx ⟨g5, 40, #[.slice As ss.length cs]⟩ (by simp)) (HE.out.bx ⟨w.heap.size + 1, 23, #[.slice Ax xs.length cx]⟩ (by simp)) (HE.out.bx ⟨w.heap.size, 25, #[.int .i64 f.M, .slice f.Ac f.cols.length f.cc, .slice f.Al f.lo.length f.cl, .slice f.Ah f.hi.length f.ch, .slice f.Ak f.cost.length f.ck, .slice f.Ab f.b.length f.cb]⟩ (by simp)) HE.out.o.1 HE.out.o.2.1 (HE.out.n.imp fun t ht hn => RatN.rat hn (HF.out.sz t ht)) HF.out.rise (by have := HF.out.len Hs.out.M; omega) j hlt hjx (HR.out.col j hlt).rise (by have := Hs.out.col _ (List.getElem_mem hlt); omega) HE.out.o.2.2).mono ?_
      rintro e w3 ⟨W1, A, c2, us, rfl, rfl, h1, h2, -, h3, hk, hb⟩
      have HF2 := Lib.hid (HNX.out us h1 h2 (by rw [Hp.out]; exact h3) (by have := HNLo.out; omega) (by have := HNH.out; omega))
      replace HE := Lib.hid (show (Env w [⟨g5, 40, #[.slice A us.length c2]⟩, ⟨w.heap.size + 1, 23, #[.slice Ax xs.length cx]⟩, ⟨w.heap.size, 25, #[.int .i64 f.M, .slice f.Ac f.cols.length f.cc, .slice f.Al f.lo.length f.cl, .slice f.Ah f.hi.length f.ch, .slice f.Ak f.cost.length f.ck, .slice f.Ab f.b.length f.cb]⟩] (fun V => FoD n f V ∧ LsR 4 rtcells (roD n) Ax xs V ∧ Tz V) (fun V => LsR 5 tecells teN A us V) _) from (((Env.ret HE.out hk hb).put 0 (.slice A us.length c2)).imp (fun _ h => h) (fun _ h => h.1)))
      clear h1 h2 h3 hk hb c
      go_wp2_with fail
      go_roundw
      case rel => exact ⟨j + 1, A, c2, us, by go_num, by omega, HF2, HE⟩
      case measure => (simp [intOf] <;> omega)
  ·obtain rfl : j = f.cols.length := by omega
   have c := Env.c3 HE.out
   have hnu : ¬ f.cols.length < xs.length := by rw [HL.out]; omega
   have hNJ : n + (1 + f.cols.length * (2 * n + 2)) ≤ 100000 := by have := Nat.mul_le_mul (show f.cols.length ≤ 12 by omega) (show 2 * n + 2 ≤ 2002 by omega); omega
   go_upto_region 12 with fail
   go_region_held3 (fun W => CB g5 #[.slice As ss.length cs] W ∧ CB (w.heap.size) #[.int .i64 f.M, .slice f.Ac f.cols.length f.cc, .slice f.Al f.lo.length f.cl, .slice f.Ah f.hi.length f.ch, .slice f.Ak f.cost.length f.ck, .slice f.Ab f.b.length f.cb] W) (first | with_reducible exact And.intro c.1 c.2.2 | with_reducible exact And.intro (Env.c3 HE.out.drew).1 (Env.c3 HE.out.drew).2.2 | ((repeat' apply And.intro) <;> go_keep))
    (first
     | (go_at_call 18; go_must (refine (of_any _ n (by omega) h1n f.Ab f.cb f.b (HFB.out _ (by with_reducible first | exact HE.out.o.1 | exact HE.out.drew.o.1)) Hs.out.b (by with_reducible first | exact HE.out.o.2.2 | exact HE.out.drew.o.2.2)).mono ?_; rintro e w2 ⟨Aq, cq, qs, rfl, hcq, hqs, hk, hb⟩; replace HE := Lib.hid (Env.ret (by with_reducible first | exact HE.out | exact HE.out.drew) hk hb); replace c := Env.c3 HE.out; have Hqs := Lib.hid (show qs.map plq = vecL f.b from hqs); clear hk hb hqs hcq))
     | (go_at_call 52; go_must (refine (same_any _ (n + (1 + f.cols.length * (2 * n + 2))) (by omega) (by omega) As Aq cs cq ss qs ((show ∀ V, LsR 5 tecells teN As ss V → LsR 5 tecells (teD (n + (1 + f.cols.length * (2 * n + 2)))) As ss V from fun V h => h.imp fun t ht hn => RatN.rat hn ((HF.out.sz t ht).up (by omega))) _ (by with_reducible first | exact HE.out.n.2 | exact HE.out.drew.n.2)) ((show ∀ V, LsR 5 tecells teN Aq qs V → LsR 5 tecells (teD (n + (1 + f.cols.length * (2 * n + 2)))) Aq qs V from fun V h => h.imp fun t ht hn => RatN.rat hn ((vecL_sz Hqs.out Hsb.out t ht).up (by omega))) _ (by with_reducible first | exact HE.out.n.1 | exact HE.out.drew.n.1)) HF.out.rise (vecL_of Hqs.out) (by have := HF.out.len Hs.out.M; omega) (by have := vecL_len Hqs.out; have := Hs.out.b; omega) (by with_reducible first | exact HE.out.o.2.2 | exact HE.out.drew.o.2.2)).mono ?_; rintro e w3 ⟨⟨B, rfl, hB⟩, hb⟩; replace HE := Lib.hid (Env.call (by with_reducible first | exact HE.out | exact HE.out.drew) hb); replace c := Env.c3 HE.out; have HB := Lib.hid (hB.trans (FI.done HF.out HR.out HL.out Hqs.out)); clear hb hB)))
   all_goals
    go_wp2_with fail
    first
     | exact bodyPost_ret (v := .bool B) (by simp [results, Tryz.results20, go_sem]) rfl ⟨boolRes_mk B HB.out, HE.out.bel⟩
     | exact bodyPost_ret (v := .bool B) (by simp [results, Tryz.results20, go_sem]) rfl ⟨boolRes_mk B HB.out, HE.out.drew.bel⟩
theorem feas_any (w : World) (n : Nat) (hn : n ≤ 1000) (h1n : 1 ≤ n) (f : FoV) (h : FoD n f w) (hs : FSmall f) (Ax : Option Addr) (cx : Nat) (xs : List (RV × Rat)) (hx : LsR 4 rtcells (roD n) Ax xs w) (hT : Tz w) :
 Calls Tryz.prog 20 #[fA f, .slice Ax xs.length cx] w fun e w' => BoolRes (FeasP f xs w) e ∧ Below w.heap.size w w' := by
 by_cases hR : FRight f w
 ·by_cases hl : xs.length = f.cols.length
  ·exact feas_ok w n hn h1n f h hs Ax cx xs hx hT hR hl
  ·exact feas_len w n hn h1n f h hs Ax cx xs hx hT hR hl
 ·exact feas_no w n hn h1n f h hs Ax cx xs hx hT hR
end Go.Proofs.YtbnleajchmnbdaaGreatDoor
