/-
 sparse.Same. Forms in memory; point.Right. The closures of package proof.
-/
import Derived.Test.YtbnleajchmnbdaaGreatDoorV9
namespace Go.Proofs.YtbnleajchmnbdaaGreatDoor
set_option maxHeartbeats 8000000
open Go.RowKit

set_option maxRecDepth 100000 in
theorem same1_ne (w : World) (t u : TeV) (n : Nat) (_hn : n ≤ 100000) (_h1n : 1 ≤ n) (h : RatD t.r t.q n w) (h' : RatD u.r u.q n w) (he : t.pl ≠ u.pl) : Calls Tryz.prog 91 #[tA t, tA u] w fun e w' => e = .returned (.bool false) ∧ Below w.heap.size w w' := by
 have HE := Lib.hid (lyTT t u (((RatD.old h)).and ((RatD.old h'))))
 have c := Env.c2 HE.out
 have dd := Env.d2 HE.out
 have hb2 : (t.pl == u.pl) = false := by simpa using he
 clear h h' he
 unfold tA
 go_enter Tryz.func91, Tryz.ntmps91
 go_wp2_with fail
 exact bodyPost_ret (v := .bool false) (by simp [results, Tryz.results91, go_sem]) rfl ⟨rfl, HE.out.bel⟩
set_option maxRecDepth 100000 in
theorem same1_eq (w : World) (t u : TeV) (n : Nat) (hn : n ≤ 100000) (h1n : 1 ≤ n) (h : RatD t.r t.q n w) (h' : RatD u.r u.q n w) (he : t.pl = u.pl) : Calls Tryz.prog 91 #[tA t, tA u] w fun e w' => e = .returned (.bool (decide (t.q = u.q))) ∧ Below w.heap.size w w' := by
 have HE := Lib.hid (lyTT t u (((RatD.old h)).and ((RatD.old h'))))
 have c := Env.c2 HE.out
 have dd := Env.d2 HE.out
 have hb2 : (t.pl == u.pl) = true := by simpa using he
 clear h h' he
 unfold tA
 go_enter Tryz.func91, Tryz.ntmps91
 go_wp2_with fail
 refine (rsame_any _ t.r u.r t.q u.q n (by omega) h1n HE.out.o.1 HE.out.o.2).mono ?_
 rintro e w1 ⟨rfl, hb⟩
 replace HE := Lib.hid (Env.call HE.out hb)
 clear hb
 go_wp2_with fail
 exact bodyPost_ret (v := .bool (decide (t.q = u.q))) (by simp [results, Tryz.results91, go_sem]) rfl ⟨rfl, HE.out.bel⟩
theorem same1_any (w : World) (t u : TeV) (n : Nat) (hn : n ≤ 100000) (h1n : 1 ≤ n) (h : RatD t.r t.q n w) (h' : RatD u.r u.q n w) : Calls Tryz.prog 91 #[tA t, tA u] w fun e w' => e = .returned (.bool (decide (plq t = plq u))) ∧ Below w.heap.size w w' := by
 by_cases he : t.pl = u.pl
 ·have e : decide (plq t = plq u) = decide (t.q = u.q) := by
   unfold plq; rw [Bool.eq_iff_iff]; simp [he]
  rw [e]; exact same1_eq w t u n hn h1n h h' he
 ·have e : decide (plq t = plq u) = false := by
   unfold plq; simp [he]
  rw [e]; exact same1_ne w t u n hn h1n h h' he
set_option maxRecDepth 100000 in
theorem equalF_len (w : World) (A A2 : Option Addr) (c0 c2 n m : Nat) (hne : n ≠ m) : Calls Tryz.prog 90 #[.slice A n c0, .slice A2 m c2, .func (.func 91) #[] #[]] w fun e w' => e = .returned (.bool false) ∧ Below w.heap.size w w' := by
 have h1 : ((n : Int) != (m : Int)) = true := by simp; omega
 go_enter Tryz.func90, Tryz.ntmps90
 go_wp2_with fail
 go_ret
 exact ⟨rfl, Below.refl _ _⟩
theorem take_eq {ts us : List TeV} {i : Nat} (hi : i < ts.length) (hu : i < us.length) : ((ts.take (i + 1)).map plq = (us.take (i + 1)).map plq) ↔ ((ts.take i).map plq = (us.take i).map plq ∧ plq ts[i] = plq us[i]) := by
 rw [List.take_succ_eq_append_getElem hi, List.take_succ_eq_append_getElem hu, List.map_append, List.map_append]
 constructor
 ·intro h
  have := List.append_inj h (by simp; omega)
  exact ⟨this.1, by simpa using this.2⟩
 ·rintro ⟨h1, h2⟩
  rw [h1]; simp [h2]
set_option maxRecDepth 100000 in
theorem equalF_same (w : World) (n : Nat) (hn : n ≤ 100000) (h1n : 1 ≤ n) (A A2 : Option Addr) (c0 c2 : Nat) (ts us : List TeV) (h : LsR 5 tecells (teD n) A ts w) (h' : LsR 5 tecells (teD n) A2 us w) (hl : ts.length ≤ 1000000) (hlu : us.length = ts.length) :
 Calls Tryz.prog 90 #[.slice A ts.length c0, .slice A2 ts.length c2, .func (.func 91) #[] #[]] w fun e w' => BoolRes (ts.map plq = us.map plq) e ∧ Below w.heap.size w w' := by
 have sl1 := h.sl
 have sl2 := h'.sl
 rw [hlu] at sl2
 have Hlu := Lib.hid hlu
 have hsz2 := size_vec
 have hadd := adr_add
 have Ho := Lib.hid ((h.old teD_old).and (h'.old teD_old))
 have Hb := Lib.hid (Below.refl w.heap.size w)
 clear h h' hlu
 go_enter Tryz.func90, Tryz.ntmps90
 go_wp2_with fail
 go_loopw [17] (fun iv wr => ∃ i : Nat, iv = .int .i64 (i : Int) ∧ i ≤ ts.length ∧ Hid ((ts.take i).map plq = (us.take i).map plq) ∧ Hid (Below w.heap.size w wr)) (fun iv _ => ts.length - (intOf iv).toNat)
 case atStart => exact ⟨0, rfl, Nat.zero_le _, Lib.hid rfl, Hb⟩
 case round =>
  clear Hb
  obtain ⟨i, rfl, hi, HP, Hb⟩ := hrel
  by_cases hlt : i < ts.length
  ·have HE := Lib.hid (Env.start ((Ho.out.below Hb.out).now |> fun h => (LsR.old teD_old h.1).and (LsR.old teD_old h.2)))
   have hiu : i < us.length := by rw [Hlu.out]; exact hlt
   have c1 := HE.out.o.1.tc i hlt
   have HU := Lib.hid (fun (V : World) (h : LsR 5 tecells (teD n) A2 us V) => h.tc i hiu)
   have HQ := Lib.hid (take_eq hlt hiu)
   obtain ⟨t, ht⟩ : ∃ t, t = ts[i] := ⟨_, rfl⟩
   obtain ⟨u, hu⟩ : ∃ u, u = us[i] := ⟨_, rfl⟩
   have Hmt := Lib.hid (show t ∈ ts by rw [ht]; exact List.getElem_mem hlt)
   have Hmu := Lib.hid (show u ∈ us by rw [hu]; exact List.getElem_mem hiu)
   rw [← ht] at c1 HQ
   rw [← hu] at HU HQ
   clear ht hu hiu
   go_upto_region 6 with fail
   obtain ⟨W2, gt, hW2, hgt, HE⟩ := Env.al HE.out 60 #[.int .i64 t.pl, .bool t.r.num.neg, .slice t.r.num.A t.r.num.k t.r.num.c, .bool t.r.den.neg, .slice t.r.den.A t.r.den.k t.r.den.c]
   rw [hW2, hgt]
   clear hW2 hgt c1
   have c3 := HU.out _ HE.out.o.2
   go_upto_region 7 with fail
   obtain ⟨W3, gu, hW3, hgu, HE⟩ := Env.al HE.out 60 #[.int .i64 u.pl, .bool u.r.num.neg, .slice u.r.num.A u.r.num.k u.r.num.c, .bool u.r.den.neg, .slice u.r.den.A u.r.den.k u.r.den.c]
   rw [hW3, hgu]
   clear hW3 hgu c3
   have cb := Env.c2 HE.out
   go_wp2_with fail
   refine (same1_any _ t u n hn h1n (HE.out.o.1.ok t Hmt.out) (HE.out.o.2.ok u Hmu.out)).mono ?_
   rintro e w4 ⟨rfl, hb⟩
   replace HE := Lib.hid (Env.call HE.out hb)
   clear hb cb
   obtain ⟨B, hB⟩ : ∃ B, decide (plq t = plq u) = B := ⟨_, rfl⟩
   have HB := Lib.hid hB
   rw [hB]
   clear hB
   cases B
   ·go_wp2_with fail
    go_ret
    exact ⟨boolRes_mk false ⟨fun h0 => absurd h0 (by decide), fun h => by
     have h2 : (ts.take (i + 1)).map plq = (us.take (i + 1)).map plq := by rw [List.map_take, List.map_take, h]
     exact absurd (HQ.out.1 h2).2 (of_decide_eq_false HB.out)⟩, Below.after Hb.out HE.out.bel⟩
   ·go_wp2_with fail
    go_roundw
    case rel => exact ⟨i + 1, by go_num, by omega, Lib.hid (HQ.out.2 ⟨HP.out, of_decide_eq_true HB.out⟩), Lib.hid (Below.after Hb.out HE.out.bel)⟩
    case measure => (simp [intOf] <;> omega)
  ·obtain rfl : i = ts.length := by omega
   have HP2 := Lib.hid (show ts.map plq = us.map plq by have h := HP.out; rwa [List.take_length, ← Hlu.out, List.take_length] at h)
   go_wp2_with fail
   go_ret
   exact ⟨boolRes_mk true ⟨fun _ => HP2.out, fun _ => rfl⟩, Hb.out⟩
theorem equalF_any (w : World) (n : Nat) (hn : n ≤ 100000) (h1n : 1 ≤ n) (A A2 : Option Addr) (c0 c2 : Nat) (ts us : List TeV) (h : LsR 5 tecells (teD n) A ts w) (h' : LsR 5 tecells (teD n) A2 us w) (hl : ts.length ≤ 1000000) :
 Calls Tryz.prog 90 #[.slice A ts.length c0, .slice A2 us.length c2, .func (.func 91) #[] #[]] w fun e w' => BoolRes (ts.map plq = us.map plq) e ∧ Below w.heap.size w w' := by
 by_cases hlu : us.length = ts.length
 ·rw [hlu]; exact equalF_same w n hn h1n A A2 c0 c2 ts us h h' hl hlu
 ·refine (equalF_len w A A2 c0 c2 _ _ (fun e => hlu e.symm)).mono ?_
  rintro e w' ⟨rfl, hb⟩
  exact ⟨boolRes_mk false ⟨fun h0 => absurd h0 (by decide), fun e => by
   have := congrArg List.length e
   rw [List.length_map, List.length_map] at this
   exact absurd this.symm hlu⟩, hb⟩
set_option maxRecDepth 100000 in
theorem same_any (w : World) (n : Nat) (hn : n ≤ 100000) (h1n : 1 ≤ n) (A A2 : Option Addr) (c0 c2 : Nat) (ts us : List TeV) (h : LsR 5 tecells (teD n) A ts w) (h' : LsR 5 tecells (teD n) A2 us w) (hr : Rise ts) (hr' : Rise us) (hl : ts.length ≤ 20) (hl' : us.length ≤ 20) (hT : Tz w) :
 Calls Tryz.prog 52 #[.slice A ts.length c0, .slice A2 us.length c2] w fun e w' => BoolRes ((ts.map plq).filter nzP = (us.map plq).filter nzP) e ∧ Below w.heap.size w w' := by
 have Hst := Lib.hid (show ∀ t ∈ ts, Sz t.q n from fun t ht => RatD.sz (h.ok t ht) h1n)
 have Hsu := Lib.hid (show ∀ t ∈ us, Sz t.q n from fun t ht => RatD.sz (h'.ok t ht) h1n)
 have Hrt := Lib.hid hr
 have Hru := Lib.hid hr'
 have HE := Lib.hid (Env.start ((h.old teD_old).and ((h'.old teD_old).and hT.old)))
 clear h h' hr hr' hT
 go_enter Tryz.func52, Tryz.ntmps52
 go_wp2_with fail
 refine (norm_rise _ n hn h1n A c0 ts HE.out.o.1 hl Hrt.out HE.out.o.2.2).mono ?_
 rintro e w1 ⟨A3, c3, xs, rfl, hc3, hxs, hk, hb⟩
 replace HE := Lib.hid (Env.ret HE.out hk hb)
 have Hxs := Lib.hid hxs
 clear hk hb hxs hc3
 go_wp2_with fail
 refine (norm_rise _ n hn h1n A2 c2 us HE.out.o.2.1 hl' Hru.out HE.out.o.2.2).mono ?_
 rintro e w2 ⟨A4, c4, ys, rfl, hc4, hys, hk, hb⟩
 replace HE := Lib.hid (Env.ret HE.out hk hb)
 have Hys := Lib.hid hys
 clear hk hb hys hc4
 have Hsx := Lib.hid (sz_map Hxs.out fun p hp => by
  obtain ⟨t, ht, rfl⟩ := List.mem_map.1 (List.mem_filter.1 hp).1
  exact Hst.out t ht)
 have Hsy := Lib.hid (sz_map Hys.out fun p hp => by
  obtain ⟨t, ht, rfl⟩ := List.mem_map.1 (List.mem_filter.1 hp).1
  exact Hsu.out t ht)
 have hlx : xs.length ≤ 1000000 := by
  have h := congrArg List.length Hxs.out
  rw [List.length_map] at h
  have h2 := List.length_filter_le nzP (ts.map plq)
  rw [List.length_map] at h2
  omega
 go_wp2_with fail
 refine (equalF_any _ n hn h1n A3 A4 c3 c4 xs ys (HE.out.n.2.1.imp fun t ht hn => RatN.rat hn (Hsx.out t ht)) (HE.out.n.1.imp fun t ht hn => RatN.rat hn (Hsy.out t ht)) hlx).mono ?_
 rintro e w3 ⟨⟨B, rfl, hB⟩, hb⟩
 rw [Hxs.out, Hys.out] at hB
 have HB := Lib.hid hB
 replace HE := Lib.hid (Env.call HE.out hb)
 clear hb hB
 go_wp2_with fail
 go_ret
 exact ⟨boolRes_mk B HB.out, HE.out.bel⟩

theorem held_take {P : Program} {md : Region.Mode} {ops : Array Oper} {Q : Exit → Act → World → Prop} {S : World → Prop} {i : Nat} {oi : Oper} {v : Value} {fuel : Nat} {listed : Array Bool} {a : Act} {w : World} (d : Option Nat) (hi : ops[i]? = some oi) (hd : oi.dst = d)
 (hs : Region.noSelect ops = true) (hf : Region.free md ops listed i = true) (hr : (Region.ready md ops listed).contains i = true)
 (hQ : ∀ c a w, Q (.panic c) (a.put d v) w → Q (.panic c) a w) (hy : YieldsIf P ops S oi v a) (hS : S w)
 (h : wpAnyH P md ops Q S fuel (listed.setIfInBounds i true) (a.put d v) w) : wpAnyH P md ops Q S (fuel + 1) listed a w := by
 subst hd; exact wpAnyH_take hi hs hf hr hQ hy hS h
theorem p1 (a : Act) (d : Nat) (v : Value) : a.put (some d) v = { a with tmps := a.tmps.setIfInBounds d v } := rfl
theorem p2 {α : Type} (l : List α) (i : Nat) (v : α) : l.toArray.setIfInBounds i v = (l.set i v).toArray := by simp
theorem p3 {α : Type} (a b : α) (l : List α) : (a :: l).set 0 b = b :: l := rfl
theorem p4 {α : Type} (a b : α) (l : List α) (n : Nat) : (a :: l).set (n + 1) b = a :: l.set n b := rfl
theorem hT {P : Program} {md : Region.Mode} {ops : Array Oper} {Q : Exit → Act → World → Prop} {S : World → Prop} (i s : Nat) {oi : Oper} {v : Value} {fuel : Nat} {listed l2 : Array Bool} {a a2 : Act} {w : World} (hS : S w)
 (h : wpAnyH P md ops Q S fuel l2 a2 w) (hi : ops[i]? = some oi := by rfl) (hd : oi.dst = some s := by rfl) (hs : Region.noSelect ops = true := by kernel_rfl) (hf : Region.free md ops listed i = true := by kernel_rfl) (hr : (Region.ready md ops listed).contains i = true := by kernel_rfl)
 (hw : Region.wanted oi (yielded ops a.tmps) = true := by rfl)
 (hy : ∀ w, S w → (execOp a.eval oi).run P w = .ok (.value v) w := by (intro w hSw; (try dsimp only at hSw); (first | (go_simp; done) | (go_simp; with_reducible rfl))))
 (hl : listed.setIfInBounds i true = l2 := by ((try simp only [p2, p3, p4]); exact rfl)) (ha : a.put (some s) v = a2 := by ((try simp only [p1, p2, p3, p4]); exact rfl))
 (hQ : ∀ c a w, Q (.panic c) (a.put (some s) v) w → Q (.panic c) a w := by exact fun _ _ _ h => h) : wpAnyH P md ops Q S (fuel + 1) listed a w := by
 subst hl ha
 exact held_take (some s) hi hd hs hf hr hQ (.inl ⟨hw, hy⟩) hS h
theorem held_skip {P : Program} {md : Region.Mode} {ops : Array Oper} {Q : Exit → Act → World → Prop} {S : World → Prop} {i : Nat} {o : Oper} {fuel : Nat} {listed : Array Bool} {a : Act} {w : World} (d : Option Nat) (hi : ops[i]? = some o) (hd : o.dst = d)
 (hr : Region.ready md ops listed = [i]) (hw : Region.wanted o (yielded ops a.tmps) = false) (hS : S w)
 (h : wpAnyH P md ops Q S fuel (listed.setIfInBounds i true) (a.put d undef) w) : wpAnyH P md ops Q S (fuel + 1) listed a w := by
 subst hd
 refine wpAnyH_ready hr (by simp) (AllReadyH.cons hi (fun K hK => ?_) AllReadyH.nil)
 rw [if_neg (by simp [hw])]
 exact hK.out _ _ hS (fun _ => h)
theorem held_call {P : Program} {md : Region.Mode} {ops : Array Oper} {Q : Exit → Act → World → Prop} {S : World → Prop} {i : Nat} {o : Oper} {fuel : Nat} {listed : Array Bool} {a : Act} {w : World} (hi : ops[i]? = some o)
 (hr : Region.ready md ops listed = [i]) (hw : Region.wanted o (yielded ops a.tmps) = true)
 (h : ∀ K : Act → World → Prop, Shut (∀ a w, S w → (S w → wpAnyH P md ops Q S fuel (listed.setIfInBounds i true) a w) → K a w) → Oper.wp P o a w K Q) : wpAnyH P md ops Q S (fuel + 1) listed a w := by
 refine wpAnyH_ready hr (by simp) (AllReadyH.cons hi (fun K hK => ?_) AllReadyH.nil)
 rw [if_pos hw]
 exact h K hK
theorem size_cols (w : World) : (sizeOf (Tryz.prog.elem 22)).run Tryz.prog w = .ok 1 w := by kernel_rfl
structure VeV where
 A : Option Addr
 c : Nat
 ts : List TeV
def vecells (v : VeV) : Array Value := #[.slice v.A v.ts.length v.c]
def veD (n : Nat) (v : VeV) (W : World) : Prop := LsR 5 tecells (teD n) v.A v.ts W
theorem veD_old {n : Nat} (v : VeV) (W : World) (h : veD n v W) : Rests W (· < W.heap.size) (veD n v) := LsR.old teD_old h
theorem LsR.vc {ok : VeV → World → Prop} {A : Option Addr} {l : List VeV} {w : World} (h : LsR 1 vecells ok A l w) (i : Nat) (hi : i < l.length) : w.cell? (adr A i) = some (.slice (l[i]).A (l[i]).ts.length (l[i]).c) := by
 have hc := h.cell i hi 0 (by decide)
 rwa [Nat.mul_one, Nat.add_zero] at hc
structure FoV where
 M : Int
 Ac : Option Addr
 cc : Nat
 cols : List VeV
 Al : Option Addr
 cl : Nat
 lo : List (RV × Rat)
 Ah : Option Addr
 ch : Nat
 hi : List (RV × Rat)
 Ak : Option Addr
 ck : Nat
 cost : List (RV × Rat)
 Ab : Option Addr
 cb : Nat
 b : List (RV × Rat)
structure FoD (n : Nat) (f : FoV) (W : World) : Prop where
 cols : LsR 1 vecells (veD n) f.Ac f.cols W
 lo : LsR 4 rtcells (roD n) f.Al f.lo W
 hi : LsR 4 rtcells (roD n) f.Ah f.hi W
 cost : LsR 4 rtcells (roD n) f.Ak f.cost W
 b : LsR 4 rtcells (roD n) f.Ab f.b W
theorem FoD.old {n : Nat} {f : FoV} {w : World} (h : FoD n f w) : Rests w (· < w.heap.size) (FoD n f) :=
 ((h.cols.old veD_old).and ((h.lo.old roD_old).and ((h.hi.old roD_old).and ((h.cost.old roD_old).and (h.b.old roD_old))))).imp fun _ h => ⟨h.1, h.2.1, h.2.2.1, h.2.2.2.1, h.2.2.2.2⟩
structure FRight (f : FoV) (w : World) : Prop where
 M0 : 0 ≤ f.M
 lo : f.lo.length = f.cols.length
 hi : f.hi.length = f.cols.length
 cost : f.cost.length = f.cols.length
 b : (f.b.length : Int) = f.M
 col : ∀ j (h : j < f.cols.length), RightP f.cols[j].ts f.M w
 le : ∀ j (h : j < f.lo.length) (h' : j < f.hi.length), ¬ 0 < cmpQ f.lo[j].2 f.hi[j].2
structure FSmall (f : FoV) : Prop where
 M : f.M ≤ 5
 cols : f.cols.length ≤ 12
 col : ∀ v ∈ f.cols, v.ts.length ≤ 20
 lo : f.lo.length ≤ 20
 hi : f.hi.length ≤ 20
 cost : f.cost.length ≤ 20
 b : f.b.length ≤ 20
abbrev fA (r : FoV) : Value := .agg #[.int .i64 r.M, .slice r.Ac r.cols.length r.cc, .slice r.Al r.lo.length r.cl, .slice r.Ah r.hi.length r.ch, .slice r.Ak r.cost.length r.ck, .slice r.Ab r.b.length r.cb]
theorem lyF {w : World} {o : World → Prop} (a : FoV) (h : Rests w (· < w.heap.size) o) : Env w [⟨w.heap.size, 25, #[.int .i64 a.M, .slice a.Ac a.cols.length a.cc, .slice a.Al a.lo.length a.cl, .slice a.Ah a.hi.length a.ch, .slice a.Ak a.cost.length a.ck, .slice a.Ab a.b.length a.cb]⟩] o (fun _ => True) (w.alloc (.cells #[.int .i64 a.M, .slice a.Ac a.cols.length a.cc, .slice a.Al a.lo.length a.cl, .slice a.Ah a.hi.length a.ch, .slice a.Ak a.cost.length a.ck, .slice a.Ab a.b.length a.cb] 25)) := Env.lay1 (Env.start h) rfl
theorem lyFZ {w : World} {o : World → Prop} (a : FoV) (h : Rests w (· < w.heap.size) o) : Env w [⟨w.heap.size + 1, 33, #[.bool false, .slice none 0 0, .bool false, .slice none 0 0]⟩, ⟨w.heap.size, 25, #[.int .i64 a.M, .slice a.Ac a.cols.length a.cc, .slice a.Al a.lo.length a.cl, .slice a.Ah a.hi.length a.ch, .slice a.Ak a.cost.length a.ck, .slice a.Ab a.b.length a.cb]⟩] o (fun _ => True) ((w.alloc (.cells #[.int .i64 a.M, .slice a.Ac a.cols.length a.cc, .slice a.Al a.lo.length a.cl, .slice a.Ah a.hi.length a.ch, .slice a.Ak a.cost.length a.ck, .slice a.Ab a.b.length a.cb] 25)).alloc (.cells #[.bool false, .slice none 0 0, .bool false, .slice none 0 0] 33)) := Env.lay2 (Env.start h) rfl
theorem lyFS {w : World} {o : World → Prop} (a : FoV) (b : Option Addr) (c d : Nat) (h : Rests w (· < w.heap.size) o) : Env w [⟨w.heap.size + 1, 23, #[.slice b c d]⟩, ⟨w.heap.size, 25, #[.int .i64 a.M, .slice a.Ac a.cols.length a.cc, .slice a.Al a.lo.length a.cl, .slice a.Ah a.hi.length a.ch, .slice a.Ak a.cost.length a.ck, .slice a.Ab a.b.length a.cb]⟩] o (fun _ => True) ((w.alloc (.cells #[.int .i64 a.M, .slice a.Ac a.cols.length a.cc, .slice a.Al a.lo.length a.cl, .slice a.Ah a.hi.length a.ch, .slice a.Ak a.cost.length a.ck, .slice a.Ab a.b.length a.cb] 25)).alloc (.cells #[.slice b c d] 23)) := Env.lay2 (Env.start h) rfl
theorem RightP.same {ts : List TeV} {m : Int} {n : Nat} {A : Option Addr} {w W : World} (h : LsR 5 tecells (teD n) A ts w) (hb : Below w.heap.size w W) : RightP ts m W ↔ RightP ts m w := by
 constructor
 ·rintro ⟨h1, h2, h3, h4⟩
  exact ⟨h1, h2, h3, fun t ht => ((h.ok t ht).same hb).1 (h4 t ht)⟩
 ·rintro ⟨h1, h2, h3, h4⟩
  exact ⟨h1, h2, h3, fun t ht => ((h.ok t ht).same hb).2 (h4 t ht)⟩
theorem right_at {w W : World} {n : Nat} (hn : n ≤ 400000000000) (h1n : 1 ≤ n) {A : Option Addr} {c : Nat} {ts : List TeV} {m : Int} (h : LsR 5 tecells (teD n) A ts w) (hl : ts.length ≤ 1000000) (hb : Below w.heap.size w W) (hT : Tz W) (B : Bool) (hB : B = true ↔ RightP ts m w) :
 Calls Tryz.prog 56 #[.slice A ts.length c, .int .i64 m] W fun e w' => e = .returned (.bool B) ∧ Below W.heap.size W w' := by
 refine (right_any W n hn h1n A c ts m ((h.old teD_old).below hb).now hl hT).mono ?_
 rintro e w' ⟨⟨B', rfl, hB'⟩, hb'⟩
 have : B' = B := by rw [Bool.eq_iff_iff, hB', hB, RightP.same h hb]
 rw [this]
 exact ⟨rfl, hb'⟩
set_option maxRecDepth 100000 in
theorem pright_M (w : World) (n : Nat) (_hn : n ≤ 100000) (_h1n : 1 ≤ n) (f : FoV) (h : FoD n f w) (hs : FSmall f) (hT : Tz w) (hm : f.M < 0) : Calls Tryz.prog 25 #[fA f] w fun e w' => e = .returned (.int .i64 101) ∧ Below w.heap.size w w' := by
 have HE := Lib.hid (lyF f (Rests.pure trivial w _))
 have c := Env.c1 HE.out
 have h1 := hs.M
 have h2 := hs.cols
 clear h hT hs
 unfold fA
 go_enter Tryz.func25, Tryz.ntmps25
 go_wp2_with fail
 exact bodyPost_ret (v := .int .i64 101) (by simp [results, Tryz.results25, go_sem]) rfl ⟨rfl, HE.out.bel⟩
set_option maxRecDepth 100000 in
theorem pright_lo (w : World) (n : Nat) (_hn : n ≤ 100000) (_h1n : 1 ≤ n) (f : FoV) (h : FoD n f w) (hs : FSmall f) (hT : Tz w) (hm : 0 ≤ f.M) (e1 : f.lo.length ≠ f.cols.length) : Calls Tryz.prog 25 #[fA f] w fun e w' => e = .returned (.int .i64 101) ∧ Below w.heap.size w w' := by
 have HE := Lib.hid (lyF f (Rests.pure trivial w _))
 have c := Env.c1 HE.out
 have h1 := hs.M
 have h2 := hs.cols
 have t1 : ¬ f.M < 0 := by omega
 have t2 : ¬ (600 : Int) < f.M := by omega
 have t3 : ¬ (1200 : Int) < (f.cols.length : Int) := by omega
 have klo : ((f.lo.length : Int) != (f.cols.length : Int)) = true := by simp; omega
 clear h hT hs
 unfold fA
 go_enter Tryz.func25, Tryz.ntmps25
 go_wp2_with fail
 exact bodyPost_ret (v := .int .i64 101) (by simp [results, Tryz.results25, go_sem]) rfl ⟨rfl, HE.out.bel⟩
set_option maxRecDepth 100000 in
theorem pright_hi (w : World) (n : Nat) (_hn : n ≤ 100000) (_h1n : 1 ≤ n) (f : FoV) (h : FoD n f w) (hs : FSmall f) (hT : Tz w) (hm : 0 ≤ f.M) (e1 : f.lo.length = f.cols.length) (e2 : f.hi.length ≠ f.cols.length) : Calls Tryz.prog 25 #[fA f] w fun e w' => e = .returned (.int .i64 101) ∧ Below w.heap.size w w' := by
 have HE := Lib.hid (lyF f (Rests.pure trivial w _))
 have c := Env.c1 HE.out
 have h1 := hs.M
 have h2 := hs.cols
 have t1 : ¬ f.M < 0 := by omega
 have t2 : ¬ (600 : Int) < f.M := by omega
 have t3 : ¬ (1200 : Int) < (f.cols.length : Int) := by omega
 have klo : ((f.lo.length : Int) != (f.cols.length : Int)) = false := by simp; omega
 have khi : ((f.hi.length : Int) != (f.cols.length : Int)) = true := by simp; omega
 clear e1
 clear h hT hs
 unfold fA
 go_enter Tryz.func25, Tryz.ntmps25
 go_wp2_with fail
 exact bodyPost_ret (v := .int .i64 101) (by simp [results, Tryz.results25, go_sem]) rfl ⟨rfl, HE.out.bel⟩
set_option maxRecDepth 100000 in
theorem pright_cost (w : World) (n : Nat) (_hn : n ≤ 100000) (_h1n : 1 ≤ n) (f : FoV) (h : FoD n f w) (hs : FSmall f) (hT : Tz w) (hm : 0 ≤ f.M) (e1 : f.lo.length = f.cols.length) (e2 : f.hi.length = f.cols.length) (e3 : f.cost.length ≠ f.cols.length) : Calls Tryz.prog 25 #[fA f] w fun e w' => e = .returned (.int .i64 101) ∧ Below w.heap.size w w' := by
 have HE := Lib.hid (lyF f (Rests.pure trivial w _))
 have c := Env.c1 HE.out
 have h1 := hs.M
 have h2 := hs.cols
 have t1 : ¬ f.M < 0 := by omega
 have t2 : ¬ (600 : Int) < f.M := by omega
 have t3 : ¬ (1200 : Int) < (f.cols.length : Int) := by omega
 have klo : ((f.lo.length : Int) != (f.cols.length : Int)) = false := by simp; omega
 have khi : ((f.hi.length : Int) != (f.cols.length : Int)) = false := by simp; omega
 have kcost : ((f.cost.length : Int) != (f.cols.length : Int)) = true := by simp; omega
 clear e1 e2
 clear h hT hs
 unfold fA
 go_enter Tryz.func25, Tryz.ntmps25
 go_wp2_with fail
 exact bodyPost_ret (v := .int .i64 101) (by simp [results, Tryz.results25, go_sem]) rfl ⟨rfl, HE.out.bel⟩
set_option maxRecDepth 100000 in
theorem pright_b (w : World) (n : Nat) (_hn : n ≤ 100000) (_h1n : 1 ≤ n) (f : FoV) (h : FoD n f w) (hs : FSmall f) (hT : Tz w) (hm : 0 ≤ f.M) (e1 : f.lo.length = f.cols.length) (e2 : f.hi.length = f.cols.length) (e3 : f.cost.length = f.cols.length) (e4 : (f.b.length : Int) ≠ f.M) : Calls Tryz.prog 25 #[fA f] w fun e w' => e = .returned (.int .i64 101) ∧ Below w.heap.size w w' := by
 have HE := Lib.hid (lyF f (Rests.pure trivial w _))
 have c := Env.c1 HE.out
 have h1 := hs.M
 have h2 := hs.cols
 have t1 : ¬ f.M < 0 := by omega
 have t2 : ¬ (600 : Int) < f.M := by omega
 have t3 : ¬ (1200 : Int) < (f.cols.length : Int) := by omega
 have klo : ((f.lo.length : Int) != (f.cols.length : Int)) = false := by simp; omega
 have khi : ((f.hi.length : Int) != (f.cols.length : Int)) = false := by simp; omega
 have kcost : ((f.cost.length : Int) != (f.cols.length : Int)) = false := by simp; omega
 have kb : ((f.b.length : Int) != f.M) = true := by simpa using e4
 clear e1 e2 e3 e4
 clear h hT hs
 unfold fA
 go_enter Tryz.func25, Tryz.ntmps25
 go_wp2_with fail
 exact bodyPost_ret (v := .int .i64 101) (by simp [results, Tryz.results25, go_sem]) rfl ⟨rfl, HE.out.bel⟩
def PRes (P : Prop) (e : Ending) : Prop := ∃ z : Int, e = .returned (.int .i64 z) ∧ ((z = 0 ∧ P) ∨ (z = 101 ∧ ¬ P))
theorem pres_ok {P : Prop} (h : P) : PRes P (.returned (.int .i64 0)) := ⟨0, rfl, .inl ⟨rfl, h⟩⟩
theorem pres_no {P : Prop} (h : ¬ P) : PRes P (.returned (.int .i64 101)) := ⟨101, rfl, .inr ⟨rfl, h⟩⟩
set_option maxRecDepth 100000 in
theorem pright_ok (w : World) (n : Nat) (hn : n ≤ 100000) (h1n : 1 ≤ n) (f : FoV) (h : FoD n f w) (hs : FSmall f) (hT : Tz w) (hm : 0 ≤ f.M) (e1 : f.lo.length = f.cols.length) (e2 : f.hi.length = f.cols.length) (e3 : f.cost.length = f.cols.length) (e4 : (f.b.length : Int) = f.M) : Calls Tryz.prog 25 #[fA f] w fun e w' => PRes (FRight f w) e ∧ Below w.heap.size w w' := by
 have h1 := hs.M
 have h2 := hs.cols
 have t1 : ¬ f.M < 0 := by omega
 have t2 : ¬ (600 : Int) < f.M := by omega
 have t3 : ¬ (1200 : Int) < (f.cols.length : Int) := by omega
 have klo : ((f.lo.length : Int) != (f.cols.length : Int)) = false := by simp; omega
 have khi : ((f.hi.length : Int) != (f.cols.length : Int)) = false := by simp; omega
 have kcost : ((f.cost.length : Int) != (f.cols.length : Int)) = false := by simp; omega
 have kb : ((f.b.length : Int) != f.M) = false := by simpa using e4
 have Hf := Lib.hid h
 have Hs := Lib.hid hs
 have slc := h.cols.sl
 have sll := h.lo.sl
 have slh := h.hi.sl
 have hszc := size_cols
 have hszr := size_rats
 have hadd := adr_add
 have HE := Lib.hid (lyF f ((h.old).and (hT.old)))
 have c := Env.c1 HE.out
 clear h hT hs
 have E1 := Lib.hid e1
 have E2 := Lib.hid e2
 have E3 := Lib.hid e3
 have E4 := Lib.hid e4
 clear e1 e2 e3 e4
 unfold fA
 go_enter Tryz.func25, Tryz.ntmps25
 go_wp2_with fail
 clear c
 go_loopw [51] (fun iv wr => ∃ j : Nat, iv = .int .i64 (j : Int) ∧ j ≤ f.cols.length ∧ Hid (∀ k (h : k < f.cols.length) (hl : k < f.lo.length) (hh : k < f.hi.length), k < j → RightP f.cols[k].ts f.M w ∧ ¬ 0 < cmpQ f.lo[k].2 f.hi[k].2) ∧ Hid (Env w [⟨w.heap.size, 25, #[.int .i64 f.M, .slice f.Ac f.cols.length f.cc, .slice f.Al f.lo.length f.cl, .slice f.Ah f.hi.length f.ch, .slice f.Ak f.cost.length f.ck, .slice f.Ab f.b.length f.cb]⟩] (fun V => FoD n f V ∧ Tz V) (fun _ => True) wr)) (fun iv _ => f.cols.length - (intOf iv).toNat)
 case atStart => exact ⟨0, rfl, Nat.zero_le _, Lib.hid (fun k _ _ _ h => absurd h (Nat.not_lt_zero _)), HE⟩
 case round =>
  clear HE
  obtain ⟨j, rfl, hj, HP, HE⟩ := hrel
  by_cases hlt : j < f.cols.length
  ·have hll : j < f.lo.length := by rw [E1.out]; exact hlt
   have hlh : j < f.hi.length := by rw [E2.out]; exact hlt
   have cv := HE.out.o.1.cols.vc j hlt
   have HL := Lib.hid (fun (V : World) (h : FoD n f V) => h.lo.rc j hll)
   have HH := Lib.hid (fun (V : World) (h : FoD n f V) => h.hi.rc j hlh)
   have HX := Lib.hid (show ∀ k (h : k < f.cols.length) (hl : k < f.lo.length) (hh : k < f.hi.length), k < j + 1 → (k < j ∨ k = j) from fun k _ _ _ h => by omega)
   have HNew := Lib.hid (show (RightP f.cols[j].ts f.M w ∧ ¬ 0 < cmpQ f.lo[j].2 f.hi[j].2) → ∀ k (h : k < f.cols.length) (hl : k < f.lo.length) (hh : k < f.hi.length), k < j + 1 → RightP f.cols[k].ts f.M w ∧ ¬ 0 < cmpQ f.lo[k].2 f.hi[k].2 from fun hj' k h hl hh hk => by
    rcases HX.out k h hl hh hk with h9 | h9
    ·exact HP.out k h hl hh h9
    ·subst h9; exact hj')
   have HBad := Lib.hid (show FRight f w → RightP f.cols[j].ts f.M w ∧ ¬ 0 < cmpQ f.lo[j].2 f.hi[j].2 from fun h => ⟨h.col j hlt, h.le j hll hlh⟩)
   obtain ⟨v, hv⟩ : ∃ v, v = f.cols[j] := ⟨_, rfl⟩
   obtain ⟨p, hp⟩ : ∃ p, p = f.lo[j] := ⟨_, rfl⟩
   obtain ⟨q, hq⟩ : ∃ q, q = f.hi[j] := ⟨_, rfl⟩
   have Hmv := Lib.hid (show v ∈ f.cols by rw [hv]; exact List.getElem_mem hlt)
   have Hmp := Lib.hid (show p ∈ f.lo by rw [hp]; exact List.getElem_mem hll)
   have Hmq := Lib.hid (show q ∈ f.hi by rw [hq]; exact List.getElem_mem hlh)
   rw [← hv] at cv HNew HBad
   rw [← hp] at HL HNew HBad
   rw [← hq] at HH HNew HBad
   clear hv hp hq HX
   have Hv := Lib.hid (show LsR 5 tecells (teD n) v.A v.ts w from Hf.out.cols.ok v Hmv.out)
   have Hvl := Lib.hid (show v.ts.length ≤ 1000000 by have := Hs.out.col v Hmv.out; omega)
   have HC := Lib.hid (fun (V : World) (h : Env w [⟨w.heap.size, 25, #[.int .i64 f.M, .slice f.Ac f.cols.length f.cc, .slice f.Al f.lo.length f.cl, .slice f.Ah f.hi.length f.ch, .slice f.Ak f.cost.length f.ck, .slice f.Ab f.b.length f.cb]⟩] (fun V => FoD n f V ∧ Tz V) (fun _ => True) V) => And.intro (Env.c1 h) (And.intro (HL.out V h.o.1) (HH.out V h.o.1)))
   obtain ⟨BB, hB⟩ : ∃ B : Bool, B = true ↔ RightP v.ts f.M w := by
    by_cases h : RightP v.ts f.M w
    ·exact ⟨true, by simp [h]⟩
    ·exact ⟨false, by simp [h]⟩
   have HB := Lib.hid hB
   clear hB
   have c := HC.out _ HE.out
   cases BB
   ·have HR := Lib.hid (show ¬ FRight f w from fun h => absurd (HB.out.2 (HBad.out h).1) (by decide))
    go_upto_region 9 with fail
    refine wp_region_noPanic ?_
    refine wp_region_held_drew (S := (fun W => CB (w.heap.size) #[.int .i64 f.M, .slice f.Ac f.cols.length f.cc, .slice f.Al f.lo.length f.cl, .slice f.Ah f.hi.length f.ch, .slice f.Ak f.cost.length f.ck, .slice f.Ab f.b.length f.cb] W ∧ RC f.Al j p W ∧ RC f.Ah j q W)) (by kernel_rfl) (by first | exact HC.out _ HE.out | exact HC.out _ HE.out.drew) (fun hHeld => ?_)
    refine hT 0 56 hHeld ?_
    refine hT 1 57 hHeld ?_
    refine hT 2 58 hHeld ?_
    refine held_call (i := 3) rfl (by kernel_rfl) (by rfl) (fun K hK => ?_)
    clear hHeld
    simp only [q1, q2, q3]
    go_simp
    refine (right_at (by omega) h1n Hv.out Hvl.out (by first | exact HE.out.bel | exact HE.out.drew.bel) (by first | exact HE.out.o.2 | exact HE.out.drew.o.2) false HB.out).mono ?_
    rintro e w1 ⟨rfl, hb⟩
    replace HE := Lib.hid (Env.cx HE.out hb)
    clear hb
    (try (go_wp2_with fail))
    refine hK.out _ _ (by first | exact HC.out _ HE.out | exact HC.out _ HE.out.drew) (fun hHeld => ?_)
    clear hK K
    try simp only [p1, p2, p3, p4]
    refine hT 4 60 hHeld ?_
    refine hT 5 61 hHeld ?_
    refine held_take (i := 6) (v := undef) (some 62) rfl rfl (by kernel_rfl) (by kernel_rfl) (by kernel_rfl) (fun _ _ _ h => h) (Or.inr ⟨by rfl, rfl⟩) hHeld ?_
    try simp only [p1, p2, p3, p4]
    refine held_take (i := 7) (v := undef) (some 63) rfl rfl (by kernel_rfl) (by kernel_rfl) (by kernel_rfl) (fun _ _ _ h => h) (Or.inr ⟨by rfl, rfl⟩) hHeld ?_
    try simp only [p1, p2, p3, p4]
    refine held_take (i := 8) (v := undef) (some 64) rfl rfl (by kernel_rfl) (by kernel_rfl) (by kernel_rfl) (fun _ _ _ h => h) (Or.inr ⟨by rfl, rfl⟩) hHeld ?_
    try simp only [p1, p2, p3, p4]
    refine held_take (i := 9) (v := undef) (some 65) rfl rfl (by kernel_rfl) (by kernel_rfl) (by kernel_rfl) (fun _ _ _ h => h) (Or.inr ⟨by rfl, rfl⟩) hHeld ?_
    try simp only [p1, p2, p3, p4]
    refine held_take (i := 10) (v := undef) (some 66) rfl rfl (by kernel_rfl) (by kernel_rfl) (by kernel_rfl) (fun _ _ _ h => h) (Or.inr ⟨by rfl, rfl⟩) hHeld ?_
    try simp only [p1, p2, p3, p4]
    refine held_take (i := 11) (v := undef) (some 67) rfl rfl (by kernel_rfl) (by kernel_rfl) (by kernel_rfl) (fun _ _ _ h => h) (Or.inr ⟨by rfl, rfl⟩) hHeld ?_
    try simp only [p1, p2, p3, p4]
    refine held_take (i := 12) (v := undef) (some 68) rfl rfl (by kernel_rfl) (by kernel_rfl) (by kernel_rfl) (fun _ _ _ h => h) (Or.inr ⟨by rfl, rfl⟩) hHeld ?_
    try simp only [p1, p2, p3, p4]
    refine held_take (i := 13) (v := undef) (some 69) rfl rfl (by kernel_rfl) (by kernel_rfl) (by kernel_rfl) (fun _ _ _ h => h) (Or.inr ⟨by rfl, rfl⟩) hHeld ?_
    try simp only [p1, p2, p3, p4]
    refine held_take (i := 14) (v := undef) (some 70) rfl rfl (by kernel_rfl) (by kernel_rfl) (by kernel_rfl) (fun _ _ _ h => h) (Or.inr ⟨by rfl, rfl⟩) hHeld ?_
    try simp only [p1, p2, p3, p4]
    refine held_take (i := 15) (v := undef) (some 71) rfl rfl (by kernel_rfl) (by kernel_rfl) (by kernel_rfl) (fun _ _ _ h => h) (Or.inr ⟨by rfl, rfl⟩) hHeld ?_
    try simp only [p1, p2, p3, p4]
    refine held_skip (i := 16) (some 72) rfl rfl (by kernel_rfl) (by rfl) hHeld ?_
    try simp only [p1, p2, p3, p4]
    refine held_take (i := 17) (v := undef) (some 73) rfl rfl (by kernel_rfl) (by kernel_rfl) (by kernel_rfl) (fun _ _ _ h => h) (Or.inr ⟨by rfl, rfl⟩) hHeld ?_
    try simp only [p1, p2, p3, p4]
    refine hT 18 74 hHeld ?_
    refine wpAnyH_done (by kernel_rfl) ?_ _
    refine NoPanic.normal ?_
    go_wp2_with fail
    exact bodyPost_ret (v := .int .i64 101) (by simp [results, Tryz.results25, go_sem]) rfl ⟨pres_no HR.out, by first | exact HE.out.bel | exact HE.out.drew.bel⟩
   ·by_cases hc : 0 < cmpQ p.2 q.2
    ·have HR := Lib.hid (show ¬ FRight f w from fun h => absurd hc (HBad.out h).2)
     go_upto_region 9 with fail
     go_region_held3 (fun W => CB (w.heap.size) #[.int .i64 f.M, .slice f.Ac f.cols.length f.cc, .slice f.Al f.lo.length f.cl, .slice f.Ah f.hi.length f.ch, .slice f.Ak f.cost.length f.ck, .slice f.Ab f.b.length f.cb] W ∧ RC f.Al j p W ∧ RC f.Ah j q W) (first | with_reducible exact c | ((repeat' apply And.intro) <;> go_keep) | exact c)
      (first
       | (go_at_call 56; go_must (refine (right_at (by omega) h1n Hv.out Hvl.out (by first | exact HE.out.bel | exact HE.out.drew.bel) (by first | exact HE.out.o.2 | exact HE.out.drew.o.2) true HB.out).mono ?_; rintro e w1 ⟨rfl, hb⟩; replace HE := Lib.hid (Env.cx HE.out hb); replace c := HC.out _ HE.out; clear hb))
       | (go_at_call 21; go_must (refine (rcmp_any _ p.1 q.1 p.2 q.2 n (by omega) h1n (by first | exact HE.out.o.1.lo.ok p Hmp.out | exact HE.out.drew.o.1.lo.ok p Hmp.out) (by first | exact HE.out.o.1.hi.ok q Hmq.out | exact HE.out.drew.o.1.hi.ok q Hmq.out)).mono ?_; rintro e w2 ⟨rfl, hb⟩; replace HE := Lib.hid (Env.cx HE.out hb); replace c := HC.out _ HE.out; clear hb)))
     go_wp2_with fail
     exact bodyPost_ret (v := .int .i64 101) (by simp [results, Tryz.results25, go_sem]) rfl ⟨pres_no HR.out, HE.out.bel⟩
    ·have HN := Lib.hid (HNew.out ⟨HB.out.1 rfl, hc⟩)
     go_upto_region 9 with fail
     go_region_held3 (fun W => CB (w.heap.size) #[.int .i64 f.M, .slice f.Ac f.cols.length f.cc, .slice f.Al f.lo.length f.cl, .slice f.Ah f.hi.length f.ch, .slice f.Ak f.cost.length f.ck, .slice f.Ab f.b.length f.cb] W ∧ RC f.Al j p W ∧ RC f.Ah j q W) (first | with_reducible exact c | ((repeat' apply And.intro) <;> go_keep) | exact c)
      (first
       | (go_at_call 56; go_must (refine (right_at (by omega) h1n Hv.out Hvl.out (by first | exact HE.out.bel | exact HE.out.drew.bel) (by first | exact HE.out.o.2 | exact HE.out.drew.o.2) true HB.out).mono ?_; rintro e w1 ⟨rfl, hb⟩; replace HE := Lib.hid (Env.cx HE.out hb); replace c := HC.out _ HE.out; clear hb))
       | (go_at_call 21; go_must (refine (rcmp_any _ p.1 q.1 p.2 q.2 n (by omega) h1n (by first | exact HE.out.o.1.lo.ok p Hmp.out | exact HE.out.drew.o.1.lo.ok p Hmp.out) (by first | exact HE.out.o.1.hi.ok q Hmq.out | exact HE.out.drew.o.1.hi.ok q Hmq.out)).mono ?_; rintro e w2 ⟨rfl, hb⟩; replace HE := Lib.hid (Env.cx HE.out hb); replace c := HC.out _ HE.out; clear hb)))
     go_wp2_with fail
     go_roundw
     case rel => exact ⟨j + 1, by go_num, by omega, Lib.hid (fun k h hl hh hk => ⟨(HN.out k h hl hh hk).1, by have h9 := (HN.out k h hl hh hk).2; omega⟩), HE⟩
     case measure => (simp [intOf] <;> omega)
  ·obtain rfl : j = f.cols.length := by omega
   have HR := Lib.hid (show FRight f w from ⟨hm, E1.out, E2.out, E3.out, E4.out, fun k h => (HP.out k h (by rw [E1.out]; exact h) (by rw [E2.out]; exact h) h).1, fun k hl hh => (HP.out k (by rw [← E1.out]; exact hl) hl hh (by rw [← E1.out]; exact hl)).2⟩)
   go_wp2_with fail
   exact bodyPost_ret (v := .int .i64 0) (by simp [results, Tryz.results25, go_sem]) rfl ⟨pres_ok HR.out, HE.out.bel⟩
theorem pright_any (w : World) (n : Nat) (hn : n ≤ 100000) (h1n : 1 ≤ n) (f : FoV) (h : FoD n f w) (hs : FSmall f) (hT : Tz w) : Calls Tryz.prog 25 #[fA f] w fun e w' => PRes (FRight f w) e ∧ Below w.heap.size w w' := by
 have key : ∀ {Q : Ending → World → Prop}, ¬ FRight f w → (Calls Tryz.prog 25 #[.agg #[.int .i64 f.M, .slice f.Ac f.cols.length f.cc, .slice f.Al f.lo.length f.cl, .slice f.Ah f.hi.length f.ch, .slice f.Ak f.cost.length f.ck, .slice f.Ab f.b.length f.cb]] w fun e w' => e = .returned (.int .i64 101) ∧ Below w.heap.size w w') → Calls Tryz.prog 25 #[.agg #[.int .i64 f.M, .slice f.Ac f.cols.length f.cc, .slice f.Al f.lo.length f.cl, .slice f.Ah f.hi.length f.ch, .slice f.Ak f.cost.length f.ck, .slice f.Ab f.b.length f.cb]] w fun e w' => PRes (FRight f w) e ∧ Below w.heap.size w w' := fun {_} hn hc => hc.mono fun e w' ⟨h1, h2⟩ => by subst h1; exact ⟨pres_no hn, h2⟩
 by_cases hm : f.M < 0
 ·exact key (Q := fun _ _ => True) (fun h' => by have := h'.M0; omega) (pright_M w n hn h1n f h hs hT hm)
 ·by_cases e1 : f.lo.length = f.cols.length
  ·by_cases e2 : f.hi.length = f.cols.length
   ·by_cases e3 : f.cost.length = f.cols.length
    ·by_cases e4 : (f.b.length : Int) = f.M
     ·exact pright_ok w n hn h1n f h hs hT (by omega) e1 e2 e3 e4
     ·exact key (Q := fun _ _ => True) (fun h' => e4 h'.b) (pright_b w n hn h1n f h hs hT (by omega) e1 e2 e3 e4)
    ·exact key (Q := fun _ _ => True) (fun h' => e3 h'.cost) (pright_cost w n hn h1n f h hs hT (by omega) e1 e2 e3)
   ·exact key (Q := fun _ _ => True) (fun h' => e2 h'.hi) (pright_hi w n hn h1n f h hs hT (by omega) e1 e2)
  ·exact key (Q := fun _ _ => True) (fun h' => e1 h'.lo) (pright_lo w n hn h1n f h hs hT (by omega) e1)

set_option maxRecDepth 100000 in
theorem Blk.old {w : World} {g : Nat} {t : TypeId} {cs : Array Value} (h : Blk w g t cs) : Rests w (· < w.heap.size) (fun V => Blk V g t cs) := ⟨h, fun _ hw => (hw g h.lt h.lt).trans h⟩
set_option maxRecDepth 100000 in
theorem bcost_any (w : World) (g : Nat) (f : FoV) (n j : Nat) (hb : Blk w g 25 #[.int .i64 f.M, .slice f.Ac f.cols.length f.cc, .slice f.Al f.lo.length f.cl, .slice f.Ah f.hi.length f.ch, .slice f.Ak f.cost.length f.ck, .slice f.Ab f.b.length f.cb]) (h : FoD n f w) (hj : j < f.cost.length) :
 Calls Tryz.prog 27 #[.int .i64 (j : Int), .pointer (some ⟨g, 0, none⟩)] w fun e w' => e = .returned (.agg #[.bool f.cost[j].1.num.neg, .slice f.cost[j].1.num.A f.cost[j].1.num.k f.cost[j].1.num.c, .bool f.cost[j].1.den.neg, .slice f.cost[j].1.den.A f.cost[j].1.den.k f.cost[j].1.den.c]) ∧ Below w.heap.size w w' := by
 have slk := h.cost.sl
 have hszr := size_rats
 have hadd := adr_add
 have HC := Lib.hid (fun (V : World) (h : FoD n f V) => h.cost.rc j hj)
 obtain ⟨p, hp⟩ : ∃ p, p = f.cost[j] := ⟨_, rfl⟩
 rw [← hp] at HC ⊢
 clear hp
 have HE := Lib.hid (Env.start (hb.old.and h.old))
 clear hb h
 go_enter Tryz.func27, Tryz.ntmps27
 go_upto_region 1 with fail
 obtain ⟨W1, g3, hW1, hg3, HE⟩ := Env.al HE.out 33 #[.bool false, .slice none 0 0, .bool false, .slice none 0 0]
 rw [hW1, hg3]
 clear hW1 hg3
 have c := Env.c1 HE.out
 have cf := Blk.cb HE.out.o.1
 have cc := HC.out _ HE.out.o.2
 go_wp2_with fail
 exact bodyPost_ret (v := .agg #[.bool p.1.num.neg, .slice p.1.num.A p.1.num.k p.1.num.c, .bool p.1.den.neg, .slice p.1.den.A p.1.den.k p.1.den.c]) (by simp [results, Tryz.results27, go_sem, Env.c1 (HE.out.put4 (.bool p.1.num.neg) (.slice p.1.num.A p.1.num.k p.1.num.c) (.bool p.1.den.neg) (.slice p.1.den.A p.1.den.k p.1.den.c))]) rfl ⟨rfl, (HE.out.put4 _ _ _ _).bel⟩
set_option maxRecDepth 100000 in
theorem RatD.zero_ (w : World) (n : Nat) : RatD zeroR 0 n w := ⟨0, 0, (intN_zero w).int (Nat.zero_le _), (intN_zero w).int (Nat.zero_le _), rfl⟩
set_option maxRecDepth 100000 in
theorem rcost_any (w : World) (j : Int) :
 Calls Tryz.prog 31 #[.int .i64 j] w fun e w' => e = .returned (.agg #[.bool false, .slice none 0 0, .bool false, .slice none 0 0]) ∧ Below w.heap.size w w' := by
 have HE := Lib.hid (Env.start (Rests.pure trivial w (· < w.heap.size)))
 go_enter Tryz.func31, Tryz.ntmps31
 go_upto_region 1 with fail
 obtain ⟨W1, g3, hW1, hg3, HE⟩ := Env.al HE.out 33 #[.bool false, .slice none 0 0, .bool false, .slice none 0 0]
 rw [hW1, hg3]
 clear hW1 hg3
 have c := Env.c1 HE.out
 go_wp2_with fail
 exact bodyPost_ret (v := .agg #[.bool false, .slice none 0 0, .bool false, .slice none 0 0]) (by simp [results, Tryz.results31, go_sem, Env.c1 (HE.out.put4 (.bool false) (.slice none 0 0) (.bool false) (.slice none 0 0))]) rfl ⟨rfl, (HE.out.put4 _ _ _ _).bel⟩
theorem RatD.mono9 {r : RV} {q : Rat} {n m : Nat} {w : World} (h : RatD r q n w) (hm : n ≤ m) : RatD r q m w := by
 obtain ⟨x, d, hx, hd, hq⟩ := h.ex
 exact ⟨x, d, hx.mono hm, hd.mono hm, hq⟩
set_option maxRecDepth 100000 in
theorem least_b (w : World) (n : Nat) (hn : n ≤ 1000) (h1n : 1 ≤ n) (f : FoV) (h : FoD n f w) (gk gp gf g2 : Nat) (Ap : Option Addr) (cp : Nat) (ps : List TeV) (hgk : Blk w gk 66 #[.func (.func 27) #[] #[.pointer (some ⟨g2, 0, none⟩)]]) (hgp : Blk w gp 40 #[.slice Ap ps.length cp]) (hgf : Blk w gf 25 #[.int .i64 f.M, .slice f.Ac f.cols.length f.cc, .slice f.Al f.lo.length f.cl, .slice f.Ah f.hi.length f.ch, .slice f.Ak f.cost.length f.ck, .slice f.Ab f.b.length f.cb]) (hg2 : Blk w g2 25 #[.int .i64 f.M, .slice f.Ac f.cols.length f.cc, .slice f.Al f.lo.length f.cl, .slice f.Ah f.hi.length f.ch, .slice f.Ak f.cost.length f.ck, .slice f.Ab f.b.length f.cb]) (hp : LsR 5 tecells (teD n) Ap ps w) (hrp : Rise ps) (hlp : ps.length ≤ 20)
 (j : Nat) (hj : j < f.cols.length) (hjlo : j < f.lo.length) (hjhi : j < f.hi.length) (hjk : j < f.cost.length) (hrv : Rise f.cols[j].ts) (hvl : f.cols[j].ts.length ≤ 1000000) (hT : Tz w) :
 Calls Tryz.prog 57 #[.int .i64 (j : Int), .pointer (some ⟨gk, 0, none⟩), .pointer (some ⟨gp, 0, none⟩), .pointer (some ⟨gf, 0, none⟩)] w (RetR (if 0 ≤ (f.cost[j].2 - dotQ (ps.map plq) (f.cols[j].ts.map plq)).num.sign then (f.cost[j].2 - dotQ (ps.map plq) (f.cols[j].ts.map plq)) * f.lo[j].2 else (f.cost[j].2 - dotQ (ps.map plq) (f.cols[j].ts.map plq)) * f.hi[j].2) w) := by
 obtain ⟨RES, hRES⟩ : ∃ R, R = (if 0 ≤ (f.cost[j].2 - dotQ (ps.map plq) (f.cols[j].ts.map plq)).num.sign then (f.cost[j].2 - dotQ (ps.map plq) (f.cols[j].ts.map plq)) * f.lo[j].2 else (f.cost[j].2 - dotQ (ps.map plq) (f.cols[j].ts.map plq)) * f.hi[j].2) := ⟨_, rfl⟩
 rw [← hRES]
 have HRES := Lib.hid hRES
 clear hRES
 have slc := h.cols.sl
 have sll := h.lo.sl
 have slh := h.hi.sl
 have hszc := size_cols
 have hszr := size_rats
 have hadd := adr_add
 have HV := Lib.hid (fun (V : World) (h : FoD n f V) => h.cols.vc j hj)
 obtain ⟨D, hD⟩ : ∃ D, D = dotQ (ps.map plq) (f.cols[j].ts.map plq) := ⟨_, rfl⟩
 obtain ⟨N, hN⟩ : ∃ N, N = 1 + 20 * (2 * n + 2) := ⟨_, rfl⟩
 have hnN : n ≤ N := by omega
 have hNb : N ≤ 1000000 := by omega
 have Hsd := Lib.hid (show Sz D N by
  rw [hD, hN]
  refine (dotQ_sz hrv h1n (fun u hu => RatD.sz ((h.cols.ok _ (List.getElem_mem hj)).ok u hu) h1n) ps (fun t ht => RatD.sz (hp.ok t ht) h1n)).up ?_
  have := Nat.mul_le_mul_right (2 * n + 2) hlp
  omega)
 have Hdd0 := hD.symm
 obtain ⟨pc, hpc⟩ : ∃ pc : RV × Rat, pc = f.cost[j] := ⟨_, rfl⟩
 have HPC := Lib.hid (show ∀ V, FoD n f V → RatD pc.1 pc.2 n V from fun V h => by rw [hpc]; exact h.cost.ok _ (List.getElem_mem hjk))
 have Hss := Lib.hid (show Sz (pc.2 - D) (n + N + 1) from Sz.sub (RatD.sz (HPC.out w h) h1n) Hsd.out)
 have HD := Lib.hid (show pc.2 - D = f.cost[j].2 - dotQ (ps.map plq) (f.cols[j].ts.map plq) by rw [hD, hpc])
 have Hpc := Lib.hid (show .agg #[.bool f.cost[j].1.num.neg, .slice f.cost[j].1.num.A f.cost[j].1.num.k f.cost[j].1.num.c, .bool f.cost[j].1.den.neg, .slice f.cost[j].1.den.A f.cost[j].1.den.k f.cost[j].1.den.c] = Value.agg #[.bool pc.1.num.neg, .slice pc.1.num.A pc.1.num.k pc.1.num.c, .bool pc.1.den.neg, .slice pc.1.den.A pc.1.den.k pc.1.den.c] by rw [hpc])
 obtain ⟨v, hv⟩ : ∃ v, v = f.cols[j] := ⟨_, rfl⟩
 have Hmv := Lib.hid (show v ∈ f.cols by rw [hv]; exact List.getElem_mem hj)
 rw [← hv] at HV hrv hvl hD Hdd0
 have Hdd := Lib.hid Hdd0
 clear Hdd0
 have Hv := Lib.hid hv.symm
 have HVE := Lib.hid (show ∀ V, FoD n f V → LsR 5 tecells (teD n) v.A v.ts V from fun V h => h.cols.ok v Hmv.out)
 have HD2 := Lib.hid (show pc.2 - D = f.cost[j].2 - dotQ (ps.map plq) (v.ts.map plq) by have h9 := HD.out; rwa [hv.symm] at h9)
 have Hrv := Lib.hid hrv
 have Hvl := Lib.hid hvl
 have Hrp := Lib.hid hrp
 have HE := Lib.hid (Env.start ((hgk.old.and ((hgp.old.and ((hgf.old.and (hg2.old.and (h.old.and ((hp.old teD_old).and hT.old))))))))))
 have HC := Lib.hid (fun (V : World) (h : (fun V => Blk V gk 66 #[.func (.func 27) #[] #[.pointer (some ⟨g2, 0, none⟩)]] ∧ Blk V gp 40 #[.slice Ap ps.length cp] ∧ Blk V gf 25 #[.int .i64 f.M, .slice f.Ac f.cols.length f.cc, .slice f.Al f.lo.length f.cl, .slice f.Ah f.hi.length f.ch, .slice f.Ak f.cost.length f.ck, .slice f.Ab f.b.length f.cb] ∧ Blk V g2 25 #[.int .i64 f.M, .slice f.Ac f.cols.length f.cc, .slice f.Al f.lo.length f.cl, .slice f.Ah f.hi.length f.ch, .slice f.Ak f.cost.length f.ck, .slice f.Ab f.b.length f.cb] ∧ FoD n f V ∧ LsR 5 tecells (teD n) Ap ps V ∧ Tz V) V) => And.intro (Blk.cb h.1) (And.intro (Blk.cb h.2.1) (And.intro (Blk.cb h.2.2.1) (HV.out V h.2.2.2.2.1))))
 clear hgk hgp hgf hg2 h hp hrp hrv hvl hT hv hpc hD hN
 go_enter Tryz.func57, Tryz.ntmps57
 go_upto_region 1 with fail
 obtain ⟨W1, g5, hW1, hg5, HE⟩ := Env.al HE.out 33 #[.bool false, .slice none 0 0, .bool false, .slice none 0 0]
 rw [hW1, hg5]
 clear hW1 hg5
 go_cut [6] (fun v wx => ∃ g6 ks, v = .pointer (some ⟨g6, 0, none⟩) ∧ Hid (Env w [⟨g6, 33, #[.bool ks.num.neg, .slice ks.num.A ks.num.k ks.num.c, .bool ks.den.neg, .slice ks.den.A ks.den.k ks.den.c]⟩, ⟨g5, 33, #[.bool false, .slice none 0 0, .bool false, .slice none 0 0]⟩] (fun V => Blk V gk 66 #[.func (.func 27) #[] #[.pointer (some ⟨g2, 0, none⟩)]] ∧ Blk V gp 40 #[.slice Ap ps.length cp] ∧ Blk V gf 25 #[.int .i64 f.M, .slice f.Ac f.cols.length f.cc, .slice f.Al f.lo.length f.cl, .slice f.Ah f.hi.length f.ch, .slice f.Ak f.cost.length f.ck, .slice f.Ab f.b.length f.cb] ∧ Blk V g2 25 #[.int .i64 f.M, .slice f.Ac f.cols.length f.cc, .slice f.Al f.lo.length f.cl, .slice f.Ah f.hi.length f.ch, .slice f.Ak f.cost.length f.ck, .slice f.Ab f.b.length f.cb] ∧ FoD n f V ∧ LsR 5 tecells (teD n) Ap ps V ∧ Tz V) (fun V => RatN ks (pc.2 - D) V) wx))
 case first =>
  have c := HC.out _ HE.out.o
  go_region_held3 (fun W => CB gk #[.func (.func 27) #[] #[.pointer (some ⟨g2, 0, none⟩)]] W ∧ CB gp #[.slice Ap ps.length cp] W ∧ CB gf #[.int .i64 f.M, .slice f.Ac f.cols.length f.cc, .slice f.Al f.lo.length f.cl, .slice f.Ah f.hi.length f.ch, .slice f.Ak f.cost.length f.ck, .slice f.Ab f.b.length f.cb] W ∧ W.cell? (adr f.Ac j) = some (.slice v.A v.ts.length v.c)) (first | with_reducible exact c | with_reducible exact HC.out _ HE.out.o | with_reducible exact HC.out _ HE.out.drew.o | with_reducible exact HC.out _ (HE.out.nn _ _).o | with_reducible exact HC.out _ (HE.out.nn _ _).drew.o | with_reducible exact HC.out _ (HE.out.nd_ _ _).o | with_reducible exact HC.out _ (HE.out.put4 _ _ _ _).o | with_reducible exact HC.out _ (HE.out.drew.put4 _ _ _ _).o | ((repeat' apply And.intro) <;> go_keep))
   (first
    | (go_at_call 27; go_must (refine (bcost_any _ g2 f n j (by with_reducible first | exact HE.out.o.2.2.2.1 | exact HE.out.drew.o.2.2.2.1 | exact (HE.out.nn _ _).o.2.2.2.1 | exact (HE.out.nd_ _ _).o.2.2.2.1 | exact (HE.out.nn _ _).drew.o.2.2.2.1) (by with_reducible first | exact HE.out.o.2.2.2.2.1 | exact HE.out.drew.o.2.2.2.2.1 | exact (HE.out.nn _ _).o.2.2.2.2.1 | exact (HE.out.nd_ _ _).o.2.2.2.2.1 | exact (HE.out.nn _ _).drew.o.2.2.2.2.1) hjk).mono ?_; rintro e w1 ⟨rfl, hb⟩; (first | (with_reducible (replace HE := Lib.hid (Env.call HE.out hb))) | (with_reducible (replace HE := Lib.hid (Env.call HE.out.drew hb))) | (with_reducible (replace HE := Lib.hid (Env.call (HE.out.nn 33 #[.bool false, .slice none 0 0, .bool false, .slice none 0 0]) hb))) | (with_reducible (replace HE := Lib.hid (Env.call (HE.out.nd_ 33 #[.bool false, .slice none 0 0, .bool false, .slice none 0 0]) hb))) | (with_reducible (replace HE := Lib.hid (Env.call (HE.out.nn 33 #[.bool false, .slice none 0 0, .bool false, .slice none 0 0]).drew hb)))); replace c := HC.out _ HE.out.o; (first | (have cb := Env.c2 HE.out) | (have cb := Env.c1 HE.out)); clear hb; rw [Hpc.out]))
    | (go_at_call 17; go_must (refine (dot_rise _ n (by omega) h1n Ap v.A cp v.c ps v.ts (by with_reducible first | exact HE.out.o.2.2.2.2.2.1 | exact HE.out.drew.o.2.2.2.2.2.1 | exact (HE.out.nn _ _).o.2.2.2.2.2.1 | exact (HE.out.nd_ _ _).o.2.2.2.2.2.1 | exact (HE.out.nn _ _).drew.o.2.2.2.2.2.1) (HVE.out _ (by with_reducible first | exact HE.out.o.2.2.2.2.1 | exact HE.out.drew.o.2.2.2.2.1 | exact (HE.out.nn _ _).o.2.2.2.2.1 | exact (HE.out.nd_ _ _).o.2.2.2.2.1 | exact (HE.out.nn _ _).drew.o.2.2.2.2.1)) Hrp.out Hrv.out (by omega) Hvl.out (by with_reducible first | exact HE.out.o.2.2.2.2.2.2 | exact HE.out.drew.o.2.2.2.2.2.2 | exact (HE.out.nn _ _).o.2.2.2.2.2.2 | exact (HE.out.nd_ _ _).o.2.2.2.2.2.2 | exact (HE.out.nn _ _).drew.o.2.2.2.2.2.2)).mono ?_; rintro e w2 ⟨kd, rfl, hk, hb⟩; rw [Hdd.out] at hk; (first | (with_reducible (replace HE := Lib.hid (Env.ret HE.out hk hb))) | (with_reducible (replace HE := Lib.hid (Env.ret HE.out.drew hk hb))) | (with_reducible (replace HE := Lib.hid (Env.ret (HE.out.nn 33 #[.bool false, .slice none 0 0, .bool false, .slice none 0 0]) hk hb))) | (with_reducible (replace HE := Lib.hid (Env.ret (HE.out.nd_ 33 #[.bool false, .slice none 0 0, .bool false, .slice none 0 0]) hk hb))) | (with_reducible (replace HE := Lib.hid (Env.ret (HE.out.nn 33 #[.bool false, .slice none 0 0, .bool false, .slice none 0 0]).drew hk hb)))); replace c := HC.out _ HE.out.o; (first | (have cb := Env.c2 HE.out) | (have cb := Env.c1 HE.out)); clear hk hb))
    | (go_at_call 16; go_must (refine (rsub_any _ pc.1 kd pc.2 D N (by omega) (by omega) (RatD.mono9 (HPC.out _ (by with_reducible first | exact HE.out.o.2.2.2.2.1 | exact HE.out.drew.o.2.2.2.2.1 | exact (HE.out.nn _ _).o.2.2.2.2.1 | exact (HE.out.nd_ _ _).o.2.2.2.2.1 | exact (HE.out.nn _ _).drew.o.2.2.2.2.1)) hnN) (RatN.rat (by with_reducible first | exact HE.out.n.1 | exact HE.out.drew.n.1 | exact (HE.out.nn _ _).n.1 | exact (HE.out.nd_ _ _).n.1 | exact (HE.out.nn _ _).drew.n.1) Hsd.out) (by with_reducible first | exact HE.out.o.2.2.2.2.2.2 | exact HE.out.drew.o.2.2.2.2.2.2 | exact (HE.out.nn _ _).o.2.2.2.2.2.2 | exact (HE.out.nd_ _ _).o.2.2.2.2.2.2 | exact (HE.out.nn _ _).drew.o.2.2.2.2.2.2)).mono ?_; rintro e w3 ⟨ks, rfl, hk, hb⟩; (first | (with_reducible (replace HE := Lib.hid (Env.ret HE.out hk hb))) | (with_reducible (replace HE := Lib.hid (Env.ret HE.out.drew hk hb))) | (with_reducible (replace HE := Lib.hid (Env.ret (HE.out.nn 33 #[.bool false, .slice none 0 0, .bool false, .slice none 0 0]) hk hb))) | (with_reducible (replace HE := Lib.hid (Env.ret (HE.out.nd_ 33 #[.bool false, .slice none 0 0, .bool false, .slice none 0 0]) hk hb))) | (with_reducible (replace HE := Lib.hid (Env.ret (HE.out.nn 33 #[.bool false, .slice none 0 0, .bool false, .slice none 0 0]).drew hk hb)))); replace c := HC.out _ HE.out.o; (first | (have cb := Env.c2 HE.out) | (have cb := Env.c1 HE.out)); clear hk hb)))
  all_goals
   go_wp2_with fail
   go_meet
   first
    | with_reducible exact ⟨_, ks, rfl, Lib.hid ((HE.out.put4 _ _ _ _).imp (fun _ h => h) (fun _ h => h.1))⟩
    | with_reducible exact ⟨_, ks, rfl, Lib.hid ((HE.out.drew.put4 _ _ _ _).imp (fun _ h => h) (fun _ h => h.1))⟩
    | with_reducible exact ⟨_, ks, rfl, Lib.hid ((HE.out.nn _ _).imp (fun _ h => h) (fun _ h => h.1))⟩
    | with_reducible exact ⟨_, ks, rfl, Lib.hid ((HE.out.nn _ _).drew.imp (fun _ h => h) (fun _ h => h.1))⟩
    | with_reducible exact ⟨_, ks, rfl, Lib.hid ((HE.out.nd_ _ _).imp (fun _ h => h) (fun _ h => h.1))⟩
 case rest =>
  clear HE
  obtain ⟨g6, ks, rfl, HE⟩ := hcut
  have cb := Env.c2 HE.out
  go_wp2_with fail
  refine (rsign_any _ ks (pc.2 - D) (n + N + 1) (by omega) (RatN.rat HE.out.n Hss.out)).mono ?_
  rintro e w4 ⟨rfl, hb⟩
  replace HE := Lib.hid (Env.call HE.out hb)
  clear hb cb
  obtain ⟨SG, hSG⟩ : ∃ SG, (pc.2 - D).num.sign = SG := ⟨_, rfl⟩
  rw [hSG]
  have HSG := Lib.hid hSG
  clear hSG
  by_cases hsg : 0 ≤ SG
  ·have Hsg := Lib.hid (show 0 ≤ (pc.2 - D).num.sign by rw [HSG.out]; exact hsg)
   go_upto_region 3 with fail
   have HL := Lib.hid (fun (V : World) (h : FoD n f V) => h.lo.rc j hjlo)
   obtain ⟨p, hp⟩ : ∃ p, p = f.lo[j] := ⟨_, rfl⟩
   have Hmp := Lib.hid (show p ∈ f.lo by rw [hp]; exact List.getElem_mem hjlo)
   rw [← hp] at HL
   have Hp := Lib.hid hp
   clear hp
   have HC2 := Lib.hid (fun (V : World) (h : Env w [⟨g6, 33, #[.bool ks.num.neg, .slice ks.num.A ks.num.k ks.num.c, .bool ks.den.neg, .slice ks.den.A ks.den.k ks.den.c]⟩, ⟨g5, 33, #[.bool false, .slice none 0 0, .bool false, .slice none 0 0]⟩] (fun V => Blk V gk 66 #[.func (.func 27) #[] #[.pointer (some ⟨g2, 0, none⟩)]] ∧ Blk V gp 40 #[.slice Ap ps.length cp] ∧ Blk V gf 25 #[.int .i64 f.M, .slice f.Ac f.cols.length f.cc, .slice f.Al f.lo.length f.cl, .slice f.Ah f.hi.length f.ch, .slice f.Ak f.cost.length f.ck, .slice f.Ab f.b.length f.cb] ∧ Blk V g2 25 #[.int .i64 f.M, .slice f.Ac f.cols.length f.cc, .slice f.Al f.lo.length f.cl, .slice f.Ah f.hi.length f.ch, .slice f.Ak f.cost.length f.ck, .slice f.Ab f.b.length f.cb] ∧ FoD n f V ∧ LsR 5 tecells (teD n) Ap ps V ∧ Tz V) (fun V => RatN ks (pc.2 - D) V) V) => And.intro (Env.c2 h).1 (And.intro (Blk.cb h.o.2.2.1) (HL.out V h.o.2.2.2.2.1)))
   have c := HC2.out _ HE.out
   have cb := Env.c2 HE.out
   have HOK := Lib.hid (show ∀ V, FoD n f V → RatD p.1 p.2 n V from fun V h => h.lo.ok p Hmp.out)
   go_region_held3 (fun W => CB g6 #[.bool ks.num.neg, .slice ks.num.A ks.num.k ks.num.c, .bool ks.den.neg, .slice ks.den.A ks.den.k ks.den.c] W ∧ CB gf #[.int .i64 f.M, .slice f.Ac f.cols.length f.cc, .slice f.Al f.lo.length f.cl, .slice f.Ah f.hi.length f.ch, .slice f.Ak f.cost.length f.ck, .slice f.Ab f.b.length f.cb] W ∧ RC f.Al j p W) (first | with_reducible exact c | with_reducible exact And.intro (Env.c2 (HE.out.put4_1 _ _ _ _)).1 (And.intro (Blk.cb (HE.out.put4_1 _ _ _ _).o.2.2.1) (HL.out _ (HE.out.put4_1 _ _ _ _).o.2.2.2.2.1)) | with_reducible exact And.intro (Env.c2 (HE.out.drew.put4_1 _ _ _ _)).1 (And.intro (Blk.cb (HE.out.drew.put4_1 _ _ _ _).o.2.2.1) (HL.out _ (HE.out.drew.put4_1 _ _ _ _).o.2.2.2.2.1)) | ((repeat' apply And.intro) <;> go_keep))
    (first
     | (go_at_call 48; go_must (refine (rmul_any _ ks p.1 (pc.2 - D) p.2 (n + N + 1) (by omega) (by omega) (RatN.rat (by with_reducible first | exact HE.out.n | exact HE.out.drew.n) Hss.out) (RatD.mono9 (HOK.out _ (by with_reducible first | exact HE.out.o.2.2.2.2.1 | exact HE.out.drew.o.2.2.2.2.1)) (by omega)) (by with_reducible first | exact HE.out.o.2.2.2.2.2.2 | exact HE.out.drew.o.2.2.2.2.2.2)).mono ?_; rintro e w5 ⟨km, rfl, hk, hb⟩; replace HE := Lib.hid (Env.ret (by with_reducible first | exact HE.out | exact HE.out.drew) hk hb); replace c := HC2.out _ (HE.out.imp (fun _ h => h) (fun _ h => h.2)); replace cb := Env.c2 HE.out; clear hk hb)))
   all_goals
    go_wp2_with fail
    have hfin : (pc.2 - D) * p.2 = RES := by
     rw [HRES.out, Hv.out, ← HD2.out, Hp.out, if_pos (by have h9 := Hsg.out; omega)]
    first
     | exact bodyPost_ret (v := .agg #[.bool km.num.neg, .slice km.num.A km.num.k km.num.c, .bool km.den.neg, .slice km.den.A km.den.k km.den.c]) (by simp [results, Tryz.results57, go_sem, Env.c2 (HE.out.put4_1 (.bool km.num.neg) (.slice km.num.A km.num.k km.num.c) (.bool km.den.neg) (.slice km.den.A km.den.k km.den.c))]) rfl ((HE.out.put4_1 _ _ _ _).retR' rfl fun _ h => hfin ▸ h.1)
  ·have Hsg := Lib.hid (show ¬ 0 ≤ (pc.2 - D).num.sign by rw [HSG.out]; exact hsg)
   go_upto_region 4 with fail
   have HL := Lib.hid (fun (V : World) (h : FoD n f V) => h.hi.rc j hjhi)
   obtain ⟨p, hp⟩ : ∃ p, p = f.hi[j] := ⟨_, rfl⟩
   have Hmp := Lib.hid (show p ∈ f.hi by rw [hp]; exact List.getElem_mem hjhi)
   rw [← hp] at HL
   have Hp := Lib.hid hp
   clear hp
   have HC2 := Lib.hid (fun (V : World) (h : Env w [⟨g6, 33, #[.bool ks.num.neg, .slice ks.num.A ks.num.k ks.num.c, .bool ks.den.neg, .slice ks.den.A ks.den.k ks.den.c]⟩, ⟨g5, 33, #[.bool false, .slice none 0 0, .bool false, .slice none 0 0]⟩] (fun V => Blk V gk 66 #[.func (.func 27) #[] #[.pointer (some ⟨g2, 0, none⟩)]] ∧ Blk V gp 40 #[.slice Ap ps.length cp] ∧ Blk V gf 25 #[.int .i64 f.M, .slice f.Ac f.cols.length f.cc, .slice f.Al f.lo.length f.cl, .slice f.Ah f.hi.length f.ch, .slice f.Ak f.cost.length f.ck, .slice f.Ab f.b.length f.cb] ∧ Blk V g2 25 #[.int .i64 f.M, .slice f.Ac f.cols.length f.cc, .slice f.Al f.lo.length f.cl, .slice f.Ah f.hi.length f.ch, .slice f.Ak f.cost.length f.ck, .slice f.Ab f.b.length f.cb] ∧ FoD n f V ∧ LsR 5 tecells (teD n) Ap ps V ∧ Tz V) (fun V => RatN ks (pc.2 - D) V) V) => And.intro (Env.c2 h).1 (And.intro (Blk.cb h.o.2.2.1) (HL.out V h.o.2.2.2.2.1)))
   have c := HC2.out _ HE.out
   have cb := Env.c2 HE.out
   have HOK := Lib.hid (show ∀ V, FoD n f V → RatD p.1 p.2 n V from fun V h => h.hi.ok p Hmp.out)
   go_region_held3 (fun W => CB g6 #[.bool ks.num.neg, .slice ks.num.A ks.num.k ks.num.c, .bool ks.den.neg, .slice ks.den.A ks.den.k ks.den.c] W ∧ CB gf #[.int .i64 f.M, .slice f.Ac f.cols.length f.cc, .slice f.Al f.lo.length f.cl, .slice f.Ah f.hi.length f.ch, .slice f.Ak f.cost.length f.ck, .slice f.Ab f.b.length f.cb] W ∧ RC f.Ah j p W) (first | with_reducible exact c | with_reducible exact And.intro (Env.c2 (HE.out.put4_1 _ _ _ _)).1 (And.intro (Blk.cb (HE.out.put4_1 _ _ _ _).o.2.2.1) (HL.out _ (HE.out.put4_1 _ _ _ _).o.2.2.2.2.1)) | with_reducible exact And.intro (Env.c2 (HE.out.drew.put4_1 _ _ _ _)).1 (And.intro (Blk.cb (HE.out.drew.put4_1 _ _ _ _).o.2.2.1) (HL.out _ (HE.out.drew.put4_1 _ _ _ _).o.2.2.2.2.1)) | ((repeat' apply And.intro) <;> go_keep))
    (first
     | (go_at_call 48; go_must (refine (rmul_any _ ks p.1 (pc.2 - D) p.2 (n + N + 1) (by omega) (by omega) (RatN.rat (by with_reducible first | exact HE.out.n | exact HE.out.drew.n) Hss.out) (RatD.mono9 (HOK.out _ (by with_reducible first | exact HE.out.o.2.2.2.2.1 | exact HE.out.drew.o.2.2.2.2.1)) (by omega)) (by with_reducible first | exact HE.out.o.2.2.2.2.2.2 | exact HE.out.drew.o.2.2.2.2.2.2)).mono ?_; rintro e w5 ⟨km, rfl, hk, hb⟩; replace HE := Lib.hid (Env.ret (by with_reducible first | exact HE.out | exact HE.out.drew) hk hb); replace c := HC2.out _ (HE.out.imp (fun _ h => h) (fun _ h => h.2)); replace cb := Env.c2 HE.out; clear hk hb)))
   all_goals
    go_wp2_with fail
    have hfin : (pc.2 - D) * p.2 = RES := by
     rw [HRES.out, Hv.out, ← HD2.out, Hp.out, if_neg (by have h9 := Hsg.out; omega)]
    first
     | exact bodyPost_ret (v := .agg #[.bool km.num.neg, .slice km.num.A km.num.k km.num.c, .bool km.den.neg, .slice km.den.A km.den.k km.den.c]) (by simp [results, Tryz.results57, go_sem, Env.c2 (HE.out.put4_1 (.bool km.num.neg) (.slice km.num.A km.num.k km.num.c) (.bool km.den.neg) (.slice km.den.A km.den.k km.den.c))]) rfl ((HE.out.put4_1 _ _ _ _).retR' rfl fun _ h => hfin ▸ h.1)
set_option maxRecDepth 100000 in
theorem least_r (w : World) (n : Nat) (hn : n ≤ 1000) (h1n : 1 ≤ n) (f : FoV) (h : FoD n f w) (gk gp gf : Nat) (Ap : Option Addr) (cp : Nat) (ps : List TeV) (hgk : Blk w gk 66 #[.func (.func 31) #[] #[]]) (hgp : Blk w gp 40 #[.slice Ap ps.length cp]) (hgf : Blk w gf 25 #[.int .i64 f.M, .slice f.Ac f.cols.length f.cc, .slice f.Al f.lo.length f.cl, .slice f.Ah f.hi.length f.ch, .slice f.Ak f.cost.length f.ck, .slice f.Ab f.b.length f.cb]) (hp : LsR 5 tecells (teD n) Ap ps w) (hrp : Rise ps) (hlp : ps.length ≤ 20)
 (j : Nat) (hj : j < f.cols.length) (hjlo : j < f.lo.length) (hjhi : j < f.hi.length) (hrv : Rise f.cols[j].ts) (hvl : f.cols[j].ts.length ≤ 1000000) (hT : Tz w) :
 Calls Tryz.prog 57 #[.int .i64 (j : Int), .pointer (some ⟨gk, 0, none⟩), .pointer (some ⟨gp, 0, none⟩), .pointer (some ⟨gf, 0, none⟩)] w (RetR (if 0 ≤ ((0 : Rat) - dotQ (ps.map plq) (f.cols[j].ts.map plq)).num.sign then ((0 : Rat) - dotQ (ps.map plq) (f.cols[j].ts.map plq)) * f.lo[j].2 else ((0 : Rat) - dotQ (ps.map plq) (f.cols[j].ts.map plq)) * f.hi[j].2) w) := by
 obtain ⟨RES, hRES⟩ : ∃ R, R = (if 0 ≤ ((0 : Rat) - dotQ (ps.map plq) (f.cols[j].ts.map plq)).num.sign then ((0 : Rat) - dotQ (ps.map plq) (f.cols[j].ts.map plq)) * f.lo[j].2 else ((0 : Rat) - dotQ (ps.map plq) (f.cols[j].ts.map plq)) * f.hi[j].2) := ⟨_, rfl⟩
 rw [← hRES]
 have HRES := Lib.hid hRES
 clear hRES
 have slc := h.cols.sl
 have sll := h.lo.sl
 have slh := h.hi.sl
 have hszc := size_cols
 have hszr := size_rats
 have hadd := adr_add
 have HV := Lib.hid (fun (V : World) (h : FoD n f V) => h.cols.vc j hj)
 obtain ⟨D, hD⟩ : ∃ D, D = dotQ (ps.map plq) (f.cols[j].ts.map plq) := ⟨_, rfl⟩
 obtain ⟨N, hN⟩ : ∃ N, N = 1 + 20 * (2 * n + 2) := ⟨_, rfl⟩
 have hnN : n ≤ N := by omega
 have hNb : N ≤ 1000000 := by omega
 have Hsd := Lib.hid (show Sz D N by
  rw [hD, hN]
  refine (dotQ_sz hrv h1n (fun u hu => RatD.sz ((h.cols.ok _ (List.getElem_mem hj)).ok u hu) h1n) ps (fun t ht => RatD.sz (hp.ok t ht) h1n)).up ?_
  have := Nat.mul_le_mul_right (2 * n + 2) hlp
  omega)
 have Hdd0 := hD.symm
 obtain ⟨pc, hpc⟩ : ∃ pc : RV × Rat, pc = (zeroR, 0) := ⟨_, rfl⟩
 have HPC := Lib.hid (show ∀ V, FoD n f V → RatD pc.1 pc.2 n V from fun V h => by rw [hpc]; exact RatD.zero_ V n)
 have Hss := Lib.hid (show Sz (pc.2 - D) (n + N + 1) from Sz.sub (RatD.sz (HPC.out w h) h1n) Hsd.out)
 have HD := Lib.hid (show pc.2 - D = (0 : Rat) - dotQ (ps.map plq) (f.cols[j].ts.map plq) by rw [hD, hpc])
 have Hpc := Lib.hid (show .agg #[.bool false, .slice none 0 0, .bool false, .slice none 0 0] = Value.agg #[.bool pc.1.num.neg, .slice pc.1.num.A pc.1.num.k pc.1.num.c, .bool pc.1.den.neg, .slice pc.1.den.A pc.1.den.k pc.1.den.c] by rw [hpc]; rfl)
 obtain ⟨v, hv⟩ : ∃ v, v = f.cols[j] := ⟨_, rfl⟩
 have Hmv := Lib.hid (show v ∈ f.cols by rw [hv]; exact List.getElem_mem hj)
 rw [← hv] at HV hrv hvl hD Hdd0
 have Hdd := Lib.hid Hdd0
 clear Hdd0
 have Hv := Lib.hid hv.symm
 have HVE := Lib.hid (show ∀ V, FoD n f V → LsR 5 tecells (teD n) v.A v.ts V from fun V h => h.cols.ok v Hmv.out)
 have HD2 := Lib.hid (show pc.2 - D = (0 : Rat) - dotQ (ps.map plq) (v.ts.map plq) by have h9 := HD.out; rwa [hv.symm] at h9)
 have Hrv := Lib.hid hrv
 have Hvl := Lib.hid hvl
 have Hrp := Lib.hid hrp
 have HE := Lib.hid (Env.start ((hgk.old.and ((hgp.old.and (hgf.old.and (h.old.and ((hp.old teD_old).and hT.old))))))))
 have HC := Lib.hid (fun (V : World) (h : (fun V => Blk V gk 66 #[.func (.func 31) #[] #[]] ∧ Blk V gp 40 #[.slice Ap ps.length cp] ∧ Blk V gf 25 #[.int .i64 f.M, .slice f.Ac f.cols.length f.cc, .slice f.Al f.lo.length f.cl, .slice f.Ah f.hi.length f.ch, .slice f.Ak f.cost.length f.ck, .slice f.Ab f.b.length f.cb] ∧ FoD n f V ∧ LsR 5 tecells (teD n) Ap ps V ∧ Tz V) V) => And.intro (Blk.cb h.1) (And.intro (Blk.cb h.2.1) (And.intro (Blk.cb h.2.2.1) (HV.out V h.2.2.2.1))))
 clear hgk hgp hgf h hp hrp hrv hvl hT hv hpc hD hN
 go_enter Tryz.func57, Tryz.ntmps57
 go_upto_region 1 with fail
 obtain ⟨W1, g5, hW1, hg5, HE⟩ := Env.al HE.out 33 #[.bool false, .slice none 0 0, .bool false, .slice none 0 0]
 rw [hW1, hg5]
 clear hW1 hg5
 go_cut [6] (fun v wx => ∃ g6 ks, v = .pointer (some ⟨g6, 0, none⟩) ∧ Hid (Env w [⟨g6, 33, #[.bool ks.num.neg, .slice ks.num.A ks.num.k ks.num.c, .bool ks.den.neg, .slice ks.den.A ks.den.k ks.den.c]⟩, ⟨g5, 33, #[.bool false, .slice none 0 0, .bool false, .slice none 0 0]⟩] (fun V => Blk V gk 66 #[.func (.func 31) #[] #[]] ∧ Blk V gp 40 #[.slice Ap ps.length cp] ∧ Blk V gf 25 #[.int .i64 f.M, .slice f.Ac f.cols.length f.cc, .slice f.Al f.lo.length f.cl, .slice f.Ah f.hi.length f.ch, .slice f.Ak f.cost.length f.ck, .slice f.Ab f.b.length f.cb] ∧ FoD n f V ∧ LsR 5 tecells (teD n) Ap ps V ∧ Tz V) (fun V => RatN ks (pc.2 - D) V) wx))
 case first =>
  have c := HC.out _ HE.out.o
  go_region_held3 (fun W => CB gk #[.func (.func 31) #[] #[]] W ∧ CB gp #[.slice Ap ps.length cp] W ∧ CB gf #[.int .i64 f.M, .slice f.Ac f.cols.length f.cc, .slice f.Al f.lo.length f.cl, .slice f.Ah f.hi.length f.ch, .slice f.Ak f.cost.length f.ck, .slice f.Ab f.b.length f.cb] W ∧ W.cell? (adr f.Ac j) = some (.slice v.A v.ts.length v.c)) (first | with_reducible exact c | with_reducible exact HC.out _ HE.out.o | with_reducible exact HC.out _ HE.out.drew.o | with_reducible exact HC.out _ (HE.out.nn _ _).o | with_reducible exact HC.out _ (HE.out.nn _ _).drew.o | with_reducible exact HC.out _ (HE.out.nd_ _ _).o | with_reducible exact HC.out _ (HE.out.put4 _ _ _ _).o | with_reducible exact HC.out _ (HE.out.drew.put4 _ _ _ _).o | ((repeat' apply And.intro) <;> go_keep))
   (first
    | (go_at_call 31; go_must (refine (rcost_any _ (j : Int)).mono ?_; rintro e w1 ⟨rfl, hb⟩; (first | (with_reducible (replace HE := Lib.hid (Env.call HE.out hb))) | (with_reducible (replace HE := Lib.hid (Env.call HE.out.drew hb))) | (with_reducible (replace HE := Lib.hid (Env.call (HE.out.nn 33 #[.bool false, .slice none 0 0, .bool false, .slice none 0 0]) hb))) | (with_reducible (replace HE := Lib.hid (Env.call (HE.out.nd_ 33 #[.bool false, .slice none 0 0, .bool false, .slice none 0 0]) hb))) | (with_reducible (replace HE := Lib.hid (Env.call (HE.out.nn 33 #[.bool false, .slice none 0 0, .bool false, .slice none 0 0]).drew hb)))); replace c := HC.out _ HE.out.o; (first | (have cb := Env.c2 HE.out) | (have cb := Env.c1 HE.out)); clear hb; rw [Hpc.out]))
    | (go_at_call 17; go_must (refine (dot_rise _ n (by omega) h1n Ap v.A cp v.c ps v.ts (by with_reducible first | exact HE.out.o.2.2.2.2.1 | exact HE.out.drew.o.2.2.2.2.1 | exact (HE.out.nn _ _).o.2.2.2.2.1 | exact (HE.out.nd_ _ _).o.2.2.2.2.1 | exact (HE.out.nn _ _).drew.o.2.2.2.2.1) (HVE.out _ (by with_reducible first | exact HE.out.o.2.2.2.1 | exact HE.out.drew.o.2.2.2.1 | exact (HE.out.nn _ _).o.2.2.2.1 | exact (HE.out.nd_ _ _).o.2.2.2.1 | exact (HE.out.nn _ _).drew.o.2.2.2.1)) Hrp.out Hrv.out (by omega) Hvl.out (by with_reducible first | exact HE.out.o.2.2.2.2.2 | exact HE.out.drew.o.2.2.2.2.2 | exact (HE.out.nn _ _).o.2.2.2.2.2 | exact (HE.out.nd_ _ _).o.2.2.2.2.2 | exact (HE.out.nn _ _).drew.o.2.2.2.2.2)).mono ?_; rintro e w2 ⟨kd, rfl, hk, hb⟩; rw [Hdd.out] at hk; (first | (with_reducible (replace HE := Lib.hid (Env.ret HE.out hk hb))) | (with_reducible (replace HE := Lib.hid (Env.ret HE.out.drew hk hb))) | (with_reducible (replace HE := Lib.hid (Env.ret (HE.out.nn 33 #[.bool false, .slice none 0 0, .bool false, .slice none 0 0]) hk hb))) | (with_reducible (replace HE := Lib.hid (Env.ret (HE.out.nd_ 33 #[.bool false, .slice none 0 0, .bool false, .slice none 0 0]) hk hb))) | (with_reducible (replace HE := Lib.hid (Env.ret (HE.out.nn 33 #[.bool false, .slice none 0 0, .bool false, .slice none 0 0]).drew hk hb)))); replace c := HC.out _ HE.out.o; (first | (have cb := Env.c2 HE.out) | (have cb := Env.c1 HE.out)); clear hk hb))
    | (go_at_call 16; go_must (refine (rsub_any _ pc.1 kd pc.2 D N (by omega) (by omega) (RatD.mono9 (HPC.out _ (by with_reducible first | exact HE.out.o.2.2.2.1 | exact HE.out.drew.o.2.2.2.1 | exact (HE.out.nn _ _).o.2.2.2.1 | exact (HE.out.nd_ _ _).o.2.2.2.1 | exact (HE.out.nn _ _).drew.o.2.2.2.1)) hnN) (RatN.rat (by with_reducible first | exact HE.out.n.1 | exact HE.out.drew.n.1 | exact (HE.out.nn _ _).n.1 | exact (HE.out.nd_ _ _).n.1 | exact (HE.out.nn _ _).drew.n.1) Hsd.out) (by with_reducible first | exact HE.out.o.2.2.2.2.2 | exact HE.out.drew.o.2.2.2.2.2 | exact (HE.out.nn _ _).o.2.2.2.2.2 | exact (HE.out.nd_ _ _).o.2.2.2.2.2 | exact (HE.out.nn _ _).drew.o.2.2.2.2.2)).mono ?_; rintro e w3 ⟨ks, rfl, hk, hb⟩; (first | (with_reducible (replace HE := Lib.hid (Env.ret HE.out hk hb))) | (with_reducible (replace HE := Lib.hid (Env.ret HE.out.drew hk hb))) | (with_reducible (replace HE := Lib.hid (Env.ret (HE.out.nn 33 #[.bool false, .slice none 0 0, .bool false, .slice none 0 0]) hk hb))) | (with_reducible (replace HE := Lib.hid (Env.ret (HE.out.nd_ 33 #[.bool false, .slice none 0 0, .bool false, .slice none 0 0]) hk hb))) | (with_reducible (replace HE := Lib.hid (Env.ret (HE.out.nn 33 #[.bool false, .slice none 0 0, .bool false, .slice none 0 0]).drew hk hb)))); replace c := HC.out _ HE.out.o; (first | (have cb := Env.c2 HE.out) | (have cb := Env.c1 HE.out)); clear hk hb)))
  all_goals
   go_wp2_with fail
   go_meet
   first
    | with_reducible exact ⟨_, ks, rfl, Lib.hid ((HE.out.put4 _ _ _ _).imp (fun _ h => h) (fun _ h => h.1))⟩
    | with_reducible exact ⟨_, ks, rfl, Lib.hid ((HE.out.drew.put4 _ _ _ _).imp (fun _ h => h) (fun _ h => h.1))⟩
    | with_reducible exact ⟨_, ks, rfl, Lib.hid ((HE.out.nn _ _).imp (fun _ h => h) (fun _ h => h.1))⟩
    | with_reducible exact ⟨_, ks, rfl, Lib.hid ((HE.out.nn _ _).drew.imp (fun _ h => h) (fun _ h => h.1))⟩
    | with_reducible exact ⟨_, ks, rfl, Lib.hid ((HE.out.nd_ _ _).imp (fun _ h => h) (fun _ h => h.1))⟩
 case rest =>
  clear HE
  obtain ⟨g6, ks, rfl, HE⟩ := hcut
  have cb := Env.c2 HE.out
  go_wp2_with fail
  refine (rsign_any _ ks (pc.2 - D) (n + N + 1) (by omega) (RatN.rat HE.out.n Hss.out)).mono ?_
  rintro e w4 ⟨rfl, hb⟩
  replace HE := Lib.hid (Env.call HE.out hb)
  clear hb cb
  obtain ⟨SG, hSG⟩ : ∃ SG, (pc.2 - D).num.sign = SG := ⟨_, rfl⟩
  rw [hSG]
  have HSG := Lib.hid hSG
  clear hSG
  by_cases hsg : 0 ≤ SG
  ·have Hsg := Lib.hid (show 0 ≤ (pc.2 - D).num.sign by rw [HSG.out]; exact hsg)
   go_upto_region 3 with fail
   have HL := Lib.hid (fun (V : World) (h : FoD n f V) => h.lo.rc j hjlo)
   obtain ⟨p, hp⟩ : ∃ p, p = f.lo[j] := ⟨_, rfl⟩
   have Hmp := Lib.hid (show p ∈ f.lo by rw [hp]; exact List.getElem_mem hjlo)
   rw [← hp] at HL
   have Hp := Lib.hid hp
   clear hp
   have HC2 := Lib.hid (fun (V : World) (h : Env w [⟨g6, 33, #[.bool ks.num.neg, .slice ks.num.A ks.num.k ks.num.c, .bool ks.den.neg, .slice ks.den.A ks.den.k ks.den.c]⟩, ⟨g5, 33, #[.bool false, .slice none 0 0, .bool false, .slice none 0 0]⟩] (fun V => Blk V gk 66 #[.func (.func 31) #[] #[]] ∧ Blk V gp 40 #[.slice Ap ps.length cp] ∧ Blk V gf 25 #[.int .i64 f.M, .slice f.Ac f.cols.length f.cc, .slice f.Al f.lo.length f.cl, .slice f.Ah f.hi.length f.ch, .slice f.Ak f.cost.length f.ck, .slice f.Ab f.b.length f.cb] ∧ FoD n f V ∧ LsR 5 tecells (teD n) Ap ps V ∧ Tz V) (fun V => RatN ks (pc.2 - D) V) V) => And.intro (Env.c2 h).1 (And.intro (Blk.cb h.o.2.2.1) (HL.out V h.o.2.2.2.1)))
   have c := HC2.out _ HE.out
   have cb := Env.c2 HE.out
   have HOK := Lib.hid (show ∀ V, FoD n f V → RatD p.1 p.2 n V from fun V h => h.lo.ok p Hmp.out)
   go_region_held3 (fun W => CB g6 #[.bool ks.num.neg, .slice ks.num.A ks.num.k ks.num.c, .bool ks.den.neg, .slice ks.den.A ks.den.k ks.den.c] W ∧ CB gf #[.int .i64 f.M, .slice f.Ac f.cols.length f.cc, .slice f.Al f.lo.length f.cl, .slice f.Ah f.hi.length f.ch, .slice f.Ak f.cost.length f.ck, .slice f.Ab f.b.length f.cb] W ∧ RC f.Al j p W) (first | with_reducible exact c | with_reducible exact And.intro (Env.c2 (HE.out.put4_1 _ _ _ _)).1 (And.intro (Blk.cb (HE.out.put4_1 _ _ _ _).o.2.2.1) (HL.out _ (HE.out.put4_1 _ _ _ _).o.2.2.2.1)) | with_reducible exact And.intro (Env.c2 (HE.out.drew.put4_1 _ _ _ _)).1 (And.intro (Blk.cb (HE.out.drew.put4_1 _ _ _ _).o.2.2.1) (HL.out _ (HE.out.drew.put4_1 _ _ _ _).o.2.2.2.1)) | ((repeat' apply And.intro) <;> go_keep))
    (first
     | (go_at_call 48; go_must (refine (rmul_any _ ks p.1 (pc.2 - D) p.2 (n + N + 1) (by omega) (by omega) (RatN.rat (by with_reducible first | exact HE.out.n | exact HE.out.drew.n) Hss.out) (RatD.mono9 (HOK.out _ (by with_reducible first | exact HE.out.o.2.2.2.1 | exact HE.out.drew.o.2.2.2.1)) (by omega)) (by with_reducible first | exact HE.out.o.2.2.2.2.2 | exact HE.out.drew.o.2.2.2.2.2)).mono ?_; rintro e w5 ⟨km, rfl, hk, hb⟩; replace HE := Lib.hid (Env.ret (by with_reducible first | exact HE.out | exact HE.out.drew) hk hb); replace c := HC2.out _ (HE.out.imp (fun _ h => h) (fun _ h => h.2)); replace cb := Env.c2 HE.out; clear hk hb)))
   all_goals
    go_wp2_with fail
    have hfin : (pc.2 - D) * p.2 = RES := by
     rw [HRES.out, Hv.out, ← HD2.out, Hp.out, if_pos (by have h9 := Hsg.out; omega)]
    first
     | exact bodyPost_ret (v := .agg #[.bool km.num.neg, .slice km.num.A km.num.k km.num.c, .bool km.den.neg, .slice km.den.A km.den.k km.den.c]) (by simp [results, Tryz.results57, go_sem, Env.c2 (HE.out.put4_1 (.bool km.num.neg) (.slice km.num.A km.num.k km.num.c) (.bool km.den.neg) (.slice km.den.A km.den.k km.den.c))]) rfl ((HE.out.put4_1 _ _ _ _).retR' rfl fun _ h => hfin ▸ h.1)
  ·have Hsg := Lib.hid (show ¬ 0 ≤ (pc.2 - D).num.sign by rw [HSG.out]; exact hsg)
   go_upto_region 4 with fail
   have HL := Lib.hid (fun (V : World) (h : FoD n f V) => h.hi.rc j hjhi)
   obtain ⟨p, hp⟩ : ∃ p, p = f.hi[j] := ⟨_, rfl⟩
   have Hmp := Lib.hid (show p ∈ f.hi by rw [hp]; exact List.getElem_mem hjhi)
   rw [← hp] at HL
   have Hp := Lib.hid hp
   clear hp
   have HC2 := Lib.hid (fun (V : World) (h : Env w [⟨g6, 33, #[.bool ks.num.neg, .slice ks.num.A ks.num.k ks.num.c, .bool ks.den.neg, .slice ks.den.A ks.den.k ks.den.c]⟩, ⟨g5, 33, #[.bool false, .slice none 0 0, .bool false, .slice none 0 0]⟩] (fun V => Blk V gk 66 #[.func (.func 31) #[] #[]] ∧ Blk V gp 40 #[.slice Ap ps.length cp] ∧ Blk V gf 25 #[.int .i64 f.M, .slice f.Ac f.cols.length f.cc, .slice f.Al f.lo.length f.cl, .slice f.Ah f.hi.length f.ch, .slice f.Ak f.cost.length f.ck, .slice f.Ab f.b.length f.cb] ∧ FoD n f V ∧ LsR 5 tecells (teD n) Ap ps V ∧ Tz V) (fun V => RatN ks (pc.2 - D) V) V) => And.intro (Env.c2 h).1 (And.intro (Blk.cb h.o.2.2.1) (HL.out V h.o.2.2.2.1)))
   have c := HC2.out _ HE.out
   have cb := Env.c2 HE.out
   have HOK := Lib.hid (show ∀ V, FoD n f V → RatD p.1 p.2 n V from fun V h => h.hi.ok p Hmp.out)
   go_region_held3 (fun W => CB g6 #[.bool ks.num.neg, .slice ks.num.A ks.num.k ks.num.c, .bool ks.den.neg, .slice ks.den.A ks.den.k ks.den.c] W ∧ CB gf #[.int .i64 f.M, .slice f.Ac f.cols.length f.cc, .slice f.Al f.lo.length f.cl, .slice f.Ah f.hi.length f.ch, .slice f.Ak f.cost.length f.ck, .slice f.Ab f.b.length f.cb] W ∧ RC f.Ah j p W) (first | with_reducible exact c | with_reducible exact And.intro (Env.c2 (HE.out.put4_1 _ _ _ _)).1 (And.intro (Blk.cb (HE.out.put4_1 _ _ _ _).o.2.2.1) (HL.out _ (HE.out.put4_1 _ _ _ _).o.2.2.2.1)) | with_reducible exact And.intro (Env.c2 (HE.out.drew.put4_1 _ _ _ _)).1 (And.intro (Blk.cb (HE.out.drew.put4_1 _ _ _ _).o.2.2.1) (HL.out _ (HE.out.drew.put4_1 _ _ _ _).o.2.2.2.1)) | ((repeat' apply And.intro) <;> go_keep))
    (first
     | (go_at_call 48; go_must (refine (rmul_any _ ks p.1 (pc.2 - D) p.2 (n + N + 1) (by omega) (by omega) (RatN.rat (by with_reducible first | exact HE.out.n | exact HE.out.drew.n) Hss.out) (RatD.mono9 (HOK.out _ (by with_reducible first | exact HE.out.o.2.2.2.1 | exact HE.out.drew.o.2.2.2.1)) (by omega)) (by with_reducible first | exact HE.out.o.2.2.2.2.2 | exact HE.out.drew.o.2.2.2.2.2)).mono ?_; rintro e w5 ⟨km, rfl, hk, hb⟩; replace HE := Lib.hid (Env.ret (by with_reducible first | exact HE.out | exact HE.out.drew) hk hb); replace c := HC2.out _ (HE.out.imp (fun _ h => h) (fun _ h => h.2)); replace cb := Env.c2 HE.out; clear hk hb)))
   all_goals
    go_wp2_with fail
    have hfin : (pc.2 - D) * p.2 = RES := by
     rw [HRES.out, Hv.out, ← HD2.out, Hp.out, if_neg (by have h9 := Hsg.out; omega)]
    first
     | exact bodyPost_ret (v := .agg #[.bool km.num.neg, .slice km.num.A km.num.k km.num.c, .bool km.den.neg, .slice km.den.A km.den.k km.den.c]) (by simp [results, Tryz.results57, go_sem, Env.c2 (HE.out.put4_1 (.bool km.num.neg) (.slice km.num.A km.num.k km.num.c) (.bool km.den.neg) (.slice km.den.A km.den.k km.den.c))]) rfl ((HE.out.put4_1 _ _ _ _).retR' rfl fun _ h => hfin ▸ h.1)
end Go.Proofs.YtbnleajchmnbdaaGreatDoor
