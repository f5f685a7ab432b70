/-
 sparse.Same. Forms in memory; point.Right. The closures of package proof. proof.bound. proof.Bound. proof.Refutes. point.Feasible$1. The plain law of point.Feasible. point.Feasible.
-/
import Derived.Test.YtfdmajmhmligpaaGreatDoorV9
namespace Go.Proofs.YtfdmajmhmligpaaGreatDoor
set_option maxHeartbeats 8000000
open Go.RowKit

set_option maxRecDepth 100000 in
theorem zk3 (w : World) (t u : TeV) (n : Nat) (_hn : n ≤ 100000000000) (_h1n : 1 ≤ n) (h : RatD t.r t.q n w) (h' : RatD u.r u.q n w) (he : t.pl ≠ u.pl) : Calls Tryz.prog 103 #[tA t, tA u] w fun e w' => e = .returned (.bool false) ∧ Below w.heap.size w w' := by
 have HE := znd (lyTT t u (((RatD.old h)).and ((RatD.old h'))))
 have c := Env.c2 HE.out
 have dd := Env.d2 HE.out
 have hb2 : (t.pl == u.pl) = false := by simpa using he
 clear h h' he
 unfold tA
 go_enter Tryz.func103, Tryz.ntmps103
 go_wp2_with fail
 exact bodyPost_ret (v := .bool false) (by simp [results, Tryz.results103, go_sem]) rfl ⟨rfl, HE.out.bel⟩
set_option maxRecDepth 100000 in
theorem zk5 (w : World) (t u : TeV) (n : Nat) (hn : n ≤ 100000000000) (h1n : 1 ≤ n) (h : RatD t.r t.q n w) (h' : RatD u.r u.q n w) (he : t.pl = u.pl) : Calls Tryz.prog 103 #[tA t, tA u] w fun e w' => e = .returned (.bool (decide (t.q = u.q))) ∧ Below w.heap.size w w' := by
 have HE := znd (lyTT t u (((RatD.old h)).and ((RatD.old h'))))
 have c := Env.c2 HE.out
 have dd := Env.d2 HE.out
 have hb2 : (t.pl == u.pl) = true := by simpa using he
 clear h h' he
 unfold tA
 go_enter Tryz.func103, Tryz.ntmps103
 go_wp2_with fail
 refine (zco _ t.r u.r t.q u.q n (by omega) h1n HE.out.o.1 HE.out.o.2).mono ?_
 rintro e w1 ⟨rfl, hb⟩
 replace HE := znd (Env.call HE.out hb)
 clear hb
 go_wp2_with fail
 exact bodyPost_ret (v := .bool (decide (t.q = u.q))) (by simp [results, Tryz.results103, go_sem]) rfl ⟨rfl, HE.out.bel⟩
theorem zit (w : World) (t u : TeV) (n : Nat) (hn : n ≤ 100000000000) (h1n : 1 ≤ n) (h : RatD t.r t.q n w) (h' : RatD u.r u.q n w) : Calls Tryz.prog 103 #[tA t, tA u] w fun e w' => e = .returned (.bool (decide (plq t = plq u))) ∧ Below w.heap.size w w' := by
 by_cases he : t.pl = u.pl
 ·have e : decide (plq t = plq u) = decide (t.q = u.q) := by
   unfold plq; rw [Bool.eq_iff_iff]; simp [he]
  rw [e]; exact zk5 w t u n hn h1n h h' he
 ·have e : decide (plq t = plq u) = false := by
   unfold plq; simp [he]
  rw [e]; exact zk3 w t u n hn h1n h h' he
set_option maxRecDepth 100000 in
theorem zhd (w : World) (A A2 : Option Addr) (c0 c2 n m : Nat) (hne : n ≠ m) : Calls Tryz.prog 102 #[.slice A n c0, .slice A2 m c2, .func (.func 103) #[] #[]] w fun e w' => e = .returned (.bool false) ∧ Below w.heap.size w w' := by
 have h1 : ((n : Int) != (m : Int)) = true := by simp; omega
 go_enter Tryz.func102, Tryz.ntmps102
 go_wp2_with fail
 go_ret
 exact ⟨rfl, Below.refl _ _⟩
theorem zma {ts us : List TeV} {i : Nat} (hi : i < ts.length) (hu : i < us.length) : ((ts.take (i + 1)).map plq = (us.take (i + 1)).map plq) ↔ ((ts.take i).map plq = (us.take i).map plq ∧ plq ts[i] = plq us[i]) := by
 rw [List.take_succ_eq_append_getElem hi, List.take_succ_eq_append_getElem hu, List.map_append, List.map_append]
 constructor
 ·intro h
  have := List.append_inj h (by simp; omega)
  exact ⟨this.1, by simpa using this.2⟩
 ·rintro ⟨h1, h2⟩
  rw [h1]; simp [h2]
set_option maxRecDepth 100000 in
theorem zg5 (w : World) (n : Nat) (hn : n ≤ 100000000000) (h1n : 1 ≤ n) (A A2 : Option Addr) (c0 c2 : Nat) (ts us : List TeV) (h : LsR 5 tecells (teD n) A ts w) (h' : LsR 5 tecells (teD n) A2 us w) (hl : ts.length ≤ 1000000) (hlu : us.length = ts.length) :
 Calls Tryz.prog 102 #[.slice A ts.length c0, .slice A2 ts.length c2, .func (.func 103) #[] #[]] w fun e w' => zaR (ts.map plq = us.map plq) e ∧ Below w.heap.size w w' := by
 have sl1 := h.sl
 have sl2 := h'.sl
 rw [hlu] at sl2
 have Hlu := znd hlu
 have hsz2 := zai
 have hadd := zaa
 have Ho := znd ((h.old zah).and (h'.old zah))
 have Hb := znd (Below.refl w.heap.size w)
 clear h h' hlu
 go_enter Tryz.func102, Tryz.ntmps102
 go_wp2_with fail
 go_loopw [17] (fun iv wr => ∃ i : Nat, iv = .int .i64 (i : Int) ∧ i ≤ ts.length ∧ Hid ((ts.take i).map plq = (us.take i).map plq) ∧ Hid (Below w.heap.size w wr)) (fun iv _ => ts.length - (intOf iv).toNat)
 case atStart => exact ⟨0, rfl, Nat.zero_le _, znd rfl, Hb⟩
 case round =>
  clear Hb
  obtain ⟨i, rfl, hi, HP, Hb⟩ := hrel
  by_cases hlt : i < ts.length
  ·have HE := znd (Env.start ((Ho.out.below Hb.out).now |> fun h => (LsR.old zah h.1).and (LsR.old zah h.2)))
   have hiu : i < us.length := by rw [Hlu.out]; exact hlt
   have c1 := HE.out.o.1.tc i hlt
   have HU := znd (fun (V : World) (h : LsR 5 tecells (teD n) A2 us V) => h.tc i hiu)
   have HQ := znd (zma hlt hiu)
   obtain ⟨t, ht⟩ : ∃ t, t = ts[i] := ⟨_, rfl⟩
   obtain ⟨u, hu⟩ : ∃ u, u = us[i] := ⟨_, rfl⟩
   have Hmt := znd (show t ∈ ts by rw [ht]; exact List.getElem_mem hlt)
   have Hmu := znd (show u ∈ us by rw [hu]; exact List.getElem_mem hiu)
   rw [← ht] at c1 HQ
   rw [← hu] at HU HQ
   clear ht hu hiu
   go_upto_region 6 with fail
   obtain ⟨W2, gt, hW2, hgt, HE⟩ := Env.al HE.out 65 #[.int .i64 t.pl, .bool t.r.num.neg, .slice t.r.num.A t.r.num.k t.r.num.c, .bool t.r.den.neg, .slice t.r.den.A t.r.den.k t.r.den.c]
   rw [hW2, hgt]
   clear hW2 hgt c1
   have c3 := HU.out _ HE.out.o.2
   go_upto_region 7 with fail
   obtain ⟨W3, gu, hW3, hgu, HE⟩ := Env.al HE.out 65 #[.int .i64 u.pl, .bool u.r.num.neg, .slice u.r.num.A u.r.num.k u.r.num.c, .bool u.r.den.neg, .slice u.r.den.A u.r.den.k u.r.den.c]
   rw [hW3, hgu]
   clear hW3 hgu c3
   have cb := Env.c2 HE.out
   go_wp2_with fail
   refine (zit _ t u n hn h1n (HE.out.o.1.ok t Hmt.out) (HE.out.o.2.ok u Hmu.out)).mono ?_
   rintro e w4 ⟨rfl, hb⟩
   replace HE := znd (Env.call HE.out hb)
   clear hb cb
   obtain ⟨B, hB⟩ : ∃ B, decide (plq t = plq u) = B := ⟨_, rfl⟩
   have HB := znd hB
   rw [hB]
   clear hB
   cases B
   ·go_wp2_with fail
    go_ret
    exact ⟨za7 false ⟨fun h0 => absurd h0 (by decide), fun h => by
     have h2 : (ts.take (i + 1)).map plq = (us.take (i + 1)).map plq := by rw [List.map_take, List.map_take, h]
     exact absurd (HQ.out.1 h2).2 (of_decide_eq_false HB.out)⟩, Below.after Hb.out HE.out.bel⟩
   ·go_wp2_with fail
    go_roundw
    case rel => exact ⟨i + 1, by go_num, by omega, znd (HQ.out.2 ⟨HP.out, of_decide_eq_true HB.out⟩), znd (Below.after Hb.out HE.out.bel)⟩
    case measure => (simp [intOf] <;> omega)
  ·obtain rfl : i = ts.length := by omega
   have HP2 := znd (show ts.map plq = us.map plq by have h := HP.out; rwa [List.take_length, ← Hlu.out, List.take_length] at h)
   go_wp2_with fail
   go_ret
   exact ⟨za7 true ⟨fun _ => HP2.out, fun _ => rfl⟩, Hb.out⟩
theorem zhi (w : World) (n : Nat) (hn : n ≤ 100000000000) (h1n : 1 ≤ n) (A A2 : Option Addr) (c0 c2 : Nat) (ts us : List TeV) (h : LsR 5 tecells (teD n) A ts w) (h' : LsR 5 tecells (teD n) A2 us w) (hl : ts.length ≤ 1000000) :
 Calls Tryz.prog 102 #[.slice A ts.length c0, .slice A2 us.length c2, .func (.func 103) #[] #[]] w fun e w' => zaR (ts.map plq = us.map plq) e ∧ Below w.heap.size w w' := by
 by_cases hlu : us.length = ts.length
 ·rw [hlu]; exact zg5 w n hn h1n A A2 c0 c2 ts us h h' hl hlu
 ·refine (zhd w A A2 c0 c2 _ _ (fun e => hlu e.symm)).mono ?_
  rintro e w' ⟨rfl, hb⟩
  exact ⟨za7 false ⟨fun h0 => absurd h0 (by decide), fun e => by
   have := congrArg List.length e
   rw [List.length_map, List.length_map] at this
   exact absurd this.symm hlu⟩, hb⟩
set_option maxRecDepth 100000 in
theorem zkf (w : World) (n : Nat) (hn : n ≤ 100000000000) (h1n : 1 ≤ n) (A A2 : Option Addr) (c0 c2 : Nat) (ts us : List TeV) (h : LsR 5 tecells (teD n) A ts w) (h' : LsR 5 tecells (teD n) A2 us w) (hr : Rise ts) (hr' : Rise us) (hl : ts.length ≤ 20) (hl' : us.length ≤ 20) (hT : Tz w) :
 Calls Tryz.prog 60 #[.slice A ts.length c0, .slice A2 us.length c2] w fun e w' => zaR ((ts.map plq).filter nzP = (us.map plq).filter nzP) e ∧ Below w.heap.size w w' := by
 have Hst := znd (show ∀ t ∈ ts, Sz t.q n from fun t ht => RatD.sz (h.ok t ht) h1n)
 have Hsu := znd (show ∀ t ∈ us, Sz t.q n from fun t ht => RatD.sz (h'.ok t ht) h1n)
 have Hrt := znd hr
 have Hru := znd hr'
 have HE := znd (Env.start ((h.old zah).and ((h'.old zah).and hT.old)))
 clear h h' hr hr' hT
 go_enter Tryz.func60, Tryz.ntmps60
 go_wp2_with fail
 refine (zbe _ n hn h1n A c0 ts HE.out.o.1 hl Hrt.out HE.out.o.2.2).mono ?_
 rintro e w1 ⟨A3, c3, xs, rfl, hc3, hxs, hk, hb⟩
 replace HE := znd (Env.ret HE.out hk hb)
 have Hxs := znd hxs
 clear hk hb hxs hc3
 go_wp2_with fail
 refine (zbe _ n hn h1n A2 c2 us HE.out.o.2.1 hl' Hru.out HE.out.o.2.2).mono ?_
 rintro e w2 ⟨A4, c4, ys, rfl, hc4, hys, hk, hb⟩
 replace HE := znd (Env.ret HE.out hk hb)
 have Hys := znd hys
 clear hk hb hys hc4
 have Hsx := znd (zfy Hxs.out fun p hp => by
  obtain ⟨t, ht, rfl⟩ := List.mem_map.1 (List.mem_filter.1 hp).1
  exact Hst.out t ht)
 have Hsy := znd (zfy Hys.out fun p hp => by
  obtain ⟨t, ht, rfl⟩ := List.mem_map.1 (List.mem_filter.1 hp).1
  exact Hsu.out t ht)
 have hlx : xs.length ≤ 1000000 := by
  have h := congrArg List.length Hxs.out
  rw [List.length_map] at h
  have h2 := List.length_filter_le nzP (ts.map plq)
  rw [List.length_map] at h2
  omega
 go_wp2_with fail
 refine (zhi _ n hn h1n A3 A4 c3 c4 xs ys (HE.out.n.2.1.imp fun t ht hn => RatN.rat hn (Hsx.out t ht)) (HE.out.n.1.imp fun t ht hn => RatN.rat hn (Hsy.out t ht)) hlx).mono ?_
 rintro e w3 ⟨⟨B, rfl, hB⟩, hb⟩
 rw [Hxs.out, Hys.out] at hB
 have HB := znd hB
 replace HE := znd (Env.call HE.out hb)
 clear hb hB
 go_wp2_with fail
 go_ret
 exact ⟨za7 B HB.out, HE.out.bel⟩

theorem za2 {P : Program} {md : Region.Mode} {ops : Array Oper} {Q : Exit → Act → World → Prop} {S : World → Prop} {i : Nat} {oi : Oper} {v : Value} {fuel : Nat} {listed : Array Bool} {a : Act} {w : World} (d : Option Nat) (hi : ops[i]? = some oi) (hd : oi.dst = d)
 (hs : Region.noSelect ops = true) (hf : Region.free md ops listed i = true) (hr : (Region.ready md ops listed).contains i = true)
 (hQ : ∀ c a w, Q (.panic c) (a.put d v) w → Q (.panic c) a w) (hy : YieldsIf P ops S oi v a) (hS : S w)
 (h : wpAnyH P md ops Q S fuel (listed.setIfInBounds i true) (a.put d v) w) : wpAnyH P md ops Q S (fuel + 1) listed a w := by
 subst hd; exact wpAnyH_take hi hs hf hr hQ hy hS h
theorem p1 (a : Act) (d : Nat) (v : Value) : a.put (some d) v = { a with tmps := a.tmps.setIfInBounds d v } := rfl
theorem p2 {α : Type} (l : List α) (i : Nat) (v : α) : l.toArray.setIfInBounds i v = (l.set i v).toArray := by simp
theorem p3 {α : Type} (a b : α) (l : List α) : (a :: l).set 0 b = b :: l := rfl
theorem p4 {α : Type} (a b : α) (l : List α) (n : Nat) : (a :: l).set (n + 1) b = a :: l.set n b := rfl
theorem hT {P : Program} {md : Region.Mode} {ops : Array Oper} {Q : Exit → Act → World → Prop} {S : World → Prop} (i s : Nat) {oi : Oper} {v : Value} {fuel : Nat} {listed l2 : Array Bool} {a a2 : Act} {w : World} (hS : S w)
 (h : wpAnyH P md ops Q S fuel l2 a2 w) (hi : ops[i]? = some oi := by rfl) (hd : oi.dst = some s := by rfl) (hs : Region.noSelect ops = true := by kernel_rfl) (hf : Region.free md ops listed i = true := by kernel_rfl) (hr : (Region.ready md ops listed).contains i = true := by kernel_rfl)
 (hw : Region.wanted oi (yielded ops a.tmps) = true := by rfl)
 (hy : ∀ w, S w → (execOp a.eval oi).run P w = .ok (.value v) w := by (intro w hSw; (try dsimp only at hSw); (first | (go_simp; done) | (go_simp; with_reducible rfl))))
 (hl : listed.setIfInBounds i true = l2 := by ((try simp only [p2, p3, p4]); exact rfl)) (ha : a.put (some s) v = a2 := by ((try simp only [p1, p2, p3, p4]); exact rfl))
 (hQ : ∀ c a w, Q (.panic c) (a.put (some s) v) w → Q (.panic c) a w := by exact fun _ _ _ h => h) : wpAnyH P md ops Q S (fuel + 1) listed a w := by
 subst hl ha
 exact za2 (some s) hi hd hs hf hr hQ (.inl ⟨hw, hy⟩) hS h
theorem zf1 {P : Program} {md : Region.Mode} {ops : Array Oper} {Q : Exit → Act → World → Prop} {S : World → Prop} {i : Nat} {o : Oper} {fuel : Nat} {listed : Array Bool} {a : Act} {w : World} (d : Option Nat) (hi : ops[i]? = some o) (hd : o.dst = d)
 (hr : Region.ready md ops listed = [i]) (hw : Region.wanted o (yielded ops a.tmps) = false) (hS : S w)
 (h : wpAnyH P md ops Q S fuel (listed.setIfInBounds i true) (a.put d undef) w) : wpAnyH P md ops Q S (fuel + 1) listed a w := by
 subst hd
 refine wpAnyH_ready hr (by simp) (AllReadyH.cons hi (fun K hK => ?_) AllReadyH.nil)
 rw [if_neg (by simp [hw])]
 exact hK.out _ _ hS (fun _ => h)
theorem za8 {P : Program} {md : Region.Mode} {ops : Array Oper} {Q : Exit → Act → World → Prop} {S : World → Prop} {i : Nat} {o : Oper} {fuel : Nat} {listed : Array Bool} {a : Act} {w : World} (hi : ops[i]? = some o)
 (hr : Region.ready md ops listed = [i]) (hw : Region.wanted o (yielded ops a.tmps) = true)
 (h : ∀ K : Act → World → Prop, Shut (∀ a w, S w → (S w → wpAnyH P md ops Q S fuel (listed.setIfInBounds i true) a w) → K a w) → Oper.wp P o a w K Q) : wpAnyH P md ops Q S (fuel + 1) listed a w := by
 refine wpAnyH_ready hr (by simp) (AllReadyH.cons hi (fun K hK => ?_) AllReadyH.nil)
 rw [if_pos hw]
 exact h K hK
theorem zaw (w : World) : (sizeOf (Tryz.prog.elem 29)).run Tryz.prog w = .ok 1 w := by kernel_rfl
structure VeV where
 A : Option Addr
 c : Nat
 ts : List TeV
def za3 (v : VeV) : Array Value := #[.slice v.A v.ts.length v.c]
def veD (n : Nat) (v : VeV) (W : World) : Prop := LsR 5 tecells (teD n) v.A v.ts W
theorem zeE {n : Nat} (v : VeV) (W : World) (h : veD n v W) : Rests W (· < W.heap.size) (veD n v) := LsR.old zah h
theorem LsR.vc {ok : VeV → World → Prop} {A : Option Addr} {l : List VeV} {w : World} (h : LsR 1 za3 ok A l w) (i : Nat) (hi : i < l.length) : w.cell? (adr A i) = some (.slice (l[i]).A (l[i]).ts.length (l[i]).c) := by
 have hc := h.cell i hi 0 (by decide)
 rwa [Nat.mul_one, Nat.add_zero] at hc
structure FoV where
 M : Int
 Ac : Option Addr
 cc : Nat
 cols : List VeV
 Al : Option Addr
 cl : Nat
 lo : List (RV × Rat)
 Ah : Option Addr
 ch : Nat
 hi : List (RV × Rat)
 Ak : Option Addr
 ck : Nat
 cost : List (RV × Rat)
 Ab : Option Addr
 cb : Nat
 b : List (RV × Rat)
structure FoD (n : Nat) (f : FoV) (W : World) : Prop where
 cols : LsR 1 za3 (veD n) f.Ac f.cols W
 lo : LsR 4 za0 (roD n) f.Al f.lo W
 hi : LsR 4 za0 (roD n) f.Ah f.hi W
 cost : LsR 4 za0 (roD n) f.Ak f.cost W
 b : LsR 4 za0 (roD n) f.Ab f.b W
theorem FoD.old {n : Nat} {f : FoV} {w : World} (h : FoD n f w) : Rests w (· < w.heap.size) (FoD n f) :=
 ((h.cols.old zeE).and ((h.lo.old zbQ).and ((h.hi.old zbQ).and ((h.cost.old zbQ).and (h.b.old zbQ))))).imp fun _ h => ⟨h.1, h.2.1, h.2.2.1, h.2.2.2.1, h.2.2.2.2⟩
structure FRight (f : FoV) (w : World) : Prop where
 M0 : 0 ≤ f.M
 lo : f.lo.length = f.cols.length
 hi : f.hi.length = f.cols.length
 cost : f.cost.length = f.cols.length
 b : (f.b.length : Int) = f.M
 col : ∀ j (h : j < f.cols.length), RightP f.cols[j].ts f.M w
 le : ∀ j (h : j < f.lo.length) (h' : j < f.hi.length), ¬ 0 < cmpQ f.lo[j].2 f.hi[j].2
structure FSmall (f : FoV) : Prop where
 M : f.M ≤ 5
 cols : f.cols.length ≤ 12
 col : ∀ v ∈ f.cols, v.ts.length ≤ 20
 lo : f.lo.length ≤ 20
 hi : f.hi.length ≤ 20
 cost : f.cost.length ≤ 20
 b : f.b.length ≤ 20
abbrev fA (r : FoV) : Value := .agg #[.int .i64 r.M, .slice r.Ac r.cols.length r.cc, .slice r.Al r.lo.length r.cl, .slice r.Ah r.hi.length r.ch, .slice r.Ak r.cost.length r.ck, .slice r.Ab r.b.length r.cb]
theorem lyF {w : World} {o : World → Prop} (a : FoV) (h : Rests w (· < w.heap.size) o) : Env w [⟨w.heap.size, 32, #[.int .i64 a.M, .slice a.Ac a.cols.length a.cc, .slice a.Al a.lo.length a.cl, .slice a.Ah a.hi.length a.ch, .slice a.Ak a.cost.length a.ck, .slice a.Ab a.b.length a.cb]⟩] o (fun _ => True) (w.alloc (.cells #[.int .i64 a.M, .slice a.Ac a.cols.length a.cc, .slice a.Al a.lo.length a.cl, .slice a.Ah a.hi.length a.ch, .slice a.Ak a.cost.length a.ck, .slice a.Ab a.b.length a.cb] 32)) := Env.lay1 (Env.start h) rfl
theorem lyFS {w : World} {o : World → Prop} (a : FoV) (b : Option Addr) (c d : Nat) (h : Rests w (· < w.heap.size) o) : Env w [⟨w.heap.size + 1, 30, #[.slice b c d]⟩, ⟨w.heap.size, 32, #[.int .i64 a.M, .slice a.Ac a.cols.length a.cc, .slice a.Al a.lo.length a.cl, .slice a.Ah a.hi.length a.ch, .slice a.Ak a.cost.length a.ck, .slice a.Ab a.b.length a.cb]⟩] o (fun _ => True) ((w.alloc (.cells #[.int .i64 a.M, .slice a.Ac a.cols.length a.cc, .slice a.Al a.lo.length a.cl, .slice a.Ah a.hi.length a.ch, .slice a.Ak a.cost.length a.ck, .slice a.Ab a.b.length a.cb] 32)).alloc (.cells #[.slice b c d] 30)) := Env.lay2 (Env.start h) rfl
theorem RightP.same {ts : List TeV} {m : Int} {n : Nat} {A : Option Addr} {w W : World} (h : LsR 5 tecells (teD n) A ts w) (hb : Below w.heap.size w W) : RightP ts m W ↔ RightP ts m w := by
 constructor
 ·rintro ⟨h1, h2, h3, h4⟩
  exact ⟨h1, h2, h3, fun t ht => ((h.ok t ht).same hb).1 (h4 t ht)⟩
 ·rintro ⟨h1, h2, h3, h4⟩
  exact ⟨h1, h2, h3, fun t ht => ((h.ok t ht).same hb).2 (h4 t ht)⟩
theorem zdx {w W : World} {n : Nat} (hn : n ≤ 400000000000) (h1n : 1 ≤ n) {A : Option Addr} {c : Nat} {ts : List TeV} {m : Int} (h : LsR 5 tecells (teD n) A ts w) (hl : ts.length ≤ 1000000) (hb : Below w.heap.size w W) (hT : Tz W) (B : Bool) (hB : B = true ↔ RightP ts m w) :
 Calls Tryz.prog 63 #[.slice A ts.length c, .int .i64 m] W fun e w' => e = .returned (.bool B) ∧ Below W.heap.size W w' := by
 refine (zcj W n hn h1n A c ts m ((h.old zah).below hb).now hl hT).mono ?_
 rintro e w' ⟨⟨B', rfl, hB'⟩, hb'⟩
 have : B' = B := by rw [Bool.eq_iff_iff, hB', hB, RightP.same h hb]
 rw [this]
 exact ⟨rfl, hb'⟩
set_option maxRecDepth 100000 in
theorem zkq (w : World) (n : Nat) (_hn : n ≤ 1000000000) (_h1n : 1 ≤ n) (f : FoV) (_h : FoD n f w) (hs : FSmall f) (_hT : Tz w) (hm : f.M < 0) : Calls Tryz.prog 32 #[fA f] w fun e w' => e = .returned (.int .i64 101) ∧ Below w.heap.size w w' := by
 have HE := znd (lyF f (Rests.pure trivial w _))
 have c := Env.c1 HE.out
 have h1 := hs.M
 have h2 := hs.cols
 clear _h _hT hs
 unfold fA
 go_enter Tryz.func32, Tryz.ntmps32
 go_wp2_with fail
 exact bodyPost_ret (v := .int .i64 101) (by simp [results, Tryz.results32, go_sem]) rfl ⟨rfl, HE.out.bel⟩
set_option maxRecDepth 100000 in
theorem zij (w : World) (n : Nat) (_hn : n ≤ 1000000000) (_h1n : 1 ≤ n) (f : FoV) (_h : FoD n f w) (hs : FSmall f) (_hT : Tz w) (hm : 0 ≤ f.M) (e1 : f.lo.length ≠ f.cols.length) : Calls Tryz.prog 32 #[fA f] w fun e w' => e = .returned (.int .i64 101) ∧ Below w.heap.size w w' := by
 have HE := znd (lyF f (Rests.pure trivial w _))
 have c := Env.c1 HE.out
 have h1 := hs.M
 have h2 := hs.cols
 have t1 : ¬ f.M < 0 := by omega
 have t2 : ¬ (600 : Int) < f.M := by omega
 have t3 : ¬ (1200 : Int) < (f.cols.length : Int) := by omega
 have klo : ((f.lo.length : Int) != (f.cols.length : Int)) = true := by simp; omega
 clear _h _hT hs
 unfold fA
 go_enter Tryz.func32, Tryz.ntmps32
 go_wp2_with fail
 exact bodyPost_ret (v := .int .i64 101) (by simp [results, Tryz.results32, go_sem]) rfl ⟨rfl, HE.out.bel⟩
set_option maxRecDepth 100000 in
theorem zj3 (w : World) (n : Nat) (_hn : n ≤ 1000000000) (_h1n : 1 ≤ n) (f : FoV) (_h : FoD n f w) (hs : FSmall f) (_hT : Tz w) (hm : 0 ≤ f.M) (e1 : f.lo.length = f.cols.length) (e2 : f.hi.length ≠ f.cols.length) : Calls Tryz.prog 32 #[fA f] w fun e w' => e = .returned (.int .i64 101) ∧ Below w.heap.size w w' := by
 have HE := znd (lyF f (Rests.pure trivial w _))
 have c := Env.c1 HE.out
 have h1 := hs.M
 have h2 := hs.cols
 have t1 : ¬ f.M < 0 := by omega
 have t2 : ¬ (600 : Int) < f.M := by omega
 have t3 : ¬ (1200 : Int) < (f.cols.length : Int) := by omega
 have klo : ((f.lo.length : Int) != (f.cols.length : Int)) = false := by simp; omega
 have khi : ((f.hi.length : Int) != (f.cols.length : Int)) = true := by simp; omega
 clear e1
 clear _h _hT hs
 unfold fA
 go_enter Tryz.func32, Tryz.ntmps32
 go_wp2_with fail
 exact bodyPost_ret (v := .int .i64 101) (by simp [results, Tryz.results32, go_sem]) rfl ⟨rfl, HE.out.bel⟩
set_option maxRecDepth 100000 in
theorem zfV (w : World) (n : Nat) (_hn : n ≤ 1000000000) (_h1n : 1 ≤ n) (f : FoV) (_h : FoD n f w) (hs : FSmall f) (_hT : Tz w) (hm : 0 ≤ f.M) (e1 : f.lo.length = f.cols.length) (e2 : f.hi.length = f.cols.length) (e3 : f.cost.length ≠ f.cols.length) : Calls Tryz.prog 32 #[fA f] w fun e w' => e = .returned (.int .i64 101) ∧ Below w.heap.size w w' := by
 have HE := znd (lyF f (Rests.pure trivial w _))
 have c := Env.c1 HE.out
 have h1 := hs.M
 have h2 := hs.cols
 have t1 : ¬ f.M < 0 := by omega
 have t2 : ¬ (600 : Int) < f.M := by omega
 have t3 : ¬ (1200 : Int) < (f.cols.length : Int) := by omega
 have klo : ((f.lo.length : Int) != (f.cols.length : Int)) = false := by simp; omega
 have khi : ((f.hi.length : Int) != (f.cols.length : Int)) = false := by simp; omega
 have kcost : ((f.cost.length : Int) != (f.cols.length : Int)) = true := by simp; omega
 clear e1 e2
 clear _h _hT hs
 unfold fA
 go_enter Tryz.func32, Tryz.ntmps32
 go_wp2_with fail
 exact bodyPost_ret (v := .int .i64 101) (by simp [results, Tryz.results32, go_sem]) rfl ⟨rfl, HE.out.bel⟩
set_option maxRecDepth 100000 in
theorem zkB (w : World) (n : Nat) (_hn : n ≤ 1000000000) (_h1n : 1 ≤ n) (f : FoV) (_h : FoD n f w) (hs : FSmall f) (_hT : Tz w) (hm : 0 ≤ f.M) (e1 : f.lo.length = f.cols.length) (e2 : f.hi.length = f.cols.length) (e3 : f.cost.length = f.cols.length) (e4 : (f.b.length : Int) ≠ f.M) : Calls Tryz.prog 32 #[fA f] w fun e w' => e = .returned (.int .i64 101) ∧ Below w.heap.size w w' := by
 have HE := znd (lyF f (Rests.pure trivial w _))
 have c := Env.c1 HE.out
 have h1 := hs.M
 have h2 := hs.cols
 have t1 : ¬ f.M < 0 := by omega
 have t2 : ¬ (600 : Int) < f.M := by omega
 have t3 : ¬ (1200 : Int) < (f.cols.length : Int) := by omega
 have klo : ((f.lo.length : Int) != (f.cols.length : Int)) = false := by simp; omega
 have khi : ((f.hi.length : Int) != (f.cols.length : Int)) = false := by simp; omega
 have kcost : ((f.cost.length : Int) != (f.cols.length : Int)) = false := by simp; omega
 have kb : ((f.b.length : Int) != f.M) = true := by simpa using e4
 clear e1 e2 e3 e4
 clear _h _hT hs
 unfold fA
 go_enter Tryz.func32, Tryz.ntmps32
 go_wp2_with fail
 exact bodyPost_ret (v := .int .i64 101) (by simp [results, Tryz.results32, go_sem]) rfl ⟨rfl, HE.out.bel⟩
def PRes (P : Prop) (e : Ending) : Prop := ∃ z : Int, e = .returned (.int .i64 z) ∧ ((z = 0 ∧ P) ∨ (z = 101 ∧ ¬ P))
theorem zm5 {P : Prop} (h : P) : PRes P (.returned (.int .i64 0)) := ⟨0, rfl, .inl ⟨rfl, h⟩⟩
theorem zfU {P : Prop} (h : ¬ P) : PRes P (.returned (.int .i64 101)) := ⟨101, rfl, .inr ⟨rfl, h⟩⟩
set_option maxRecDepth 100000 in
theorem zjp (w : World) (n : Nat) (hn : n ≤ 1000000000) (h1n : 1 ≤ n) (f : FoV) (h : FoD n f w) (hs : FSmall f) (hT : Tz w) (hm : 0 ≤ f.M) (e1 : f.lo.length = f.cols.length) (e2 : f.hi.length = f.cols.length) (e3 : f.cost.length = f.cols.length) (e4 : (f.b.length : Int) = f.M) : Calls Tryz.prog 32 #[fA f] w fun e w' => PRes (FRight f w) e ∧ Below w.heap.size w w' := by
 have h1 := hs.M
 have h2 := hs.cols
 have t1 : ¬ f.M < 0 := by omega
 have t2 : ¬ (600 : Int) < f.M := by omega
 have t3 : ¬ (1200 : Int) < (f.cols.length : Int) := by omega
 have klo : ((f.lo.length : Int) != (f.cols.length : Int)) = false := by simp; omega
 have khi : ((f.hi.length : Int) != (f.cols.length : Int)) = false := by simp; omega
 have kcost : ((f.cost.length : Int) != (f.cols.length : Int)) = false := by simp; omega
 have kb : ((f.b.length : Int) != f.M) = false := by simpa using e4
 have Hf := znd h
 have Hs := znd hs
 have slc := h.cols.sl
 have sll := h.lo.sl
 have slh := h.hi.sl
 have hszc := zaw
 have hszr := zal
 have hadd := zaa
 have HE := znd (lyF f ((h.old).and (hT.old)))
 have c := Env.c1 HE.out
 clear h hT hs
 have E1 := znd e1
 have E2 := znd e2
 have E3 := znd e3
 have E4 := znd e4
 clear e1 e2 e3 e4
 unfold fA
 go_enter Tryz.func32, Tryz.ntmps32
 go_wp2_with fail
 clear c
 go_loopw [51] (fun iv wr => ∃ j : Nat, iv = .int .i64 (j : Int) ∧ j ≤ f.cols.length ∧ Hid (∀ k (h : k < f.cols.length) (hl : k < f.lo.length) (hh : k < f.hi.length), k < j → RightP f.cols[k].ts f.M w ∧ ¬ 0 < cmpQ f.lo[k].2 f.hi[k].2) ∧ Hid (Env w [⟨w.heap.size, 32, #[.int .i64 f.M, .slice f.Ac f.cols.length f.cc, .slice f.Al f.lo.length f.cl, .slice f.Ah f.hi.length f.ch, .slice f.Ak f.cost.length f.ck, .slice f.Ab f.b.length f.cb]⟩] (fun V => FoD n f V ∧ Tz V) (fun _ => True) wr)) (fun iv _ => f.cols.length - (intOf iv).toNat)
 case atStart => exact ⟨0, rfl, Nat.zero_le _, znd (fun k _ _ _ h => absurd h (Nat.not_lt_zero _)), HE⟩
 case round =>
  clear HE
  obtain ⟨j, rfl, hj, HP, HE⟩ := hrel
  by_cases hlt : j < f.cols.length
  ·have hll : j < f.lo.length := by rw [E1.out]; exact hlt
   have hlh : j < f.hi.length := by rw [E2.out]; exact hlt
   have cv := HE.out.o.1.cols.vc j hlt
   have HL := znd (fun (V : World) (h : FoD n f V) => h.lo.rc j hll)
   have HH := znd (fun (V : World) (h : FoD n f V) => h.hi.rc j hlh)
   have HX := znd (show ∀ k (h : k < f.cols.length) (hl : k < f.lo.length) (hh : k < f.hi.length), k < j + 1 → (k < j ∨ k = j) from fun k _ _ _ h => by omega)
   have HNew := znd (show (RightP f.cols[j].ts f.M w ∧ ¬ 0 < cmpQ f.lo[j].2 f.hi[j].2) → ∀ k (h : k < f.cols.length) (hl : k < f.lo.length) (hh : k < f.hi.length), k < j + 1 → RightP f.cols[k].ts f.M w ∧ ¬ 0 < cmpQ f.lo[k].2 f.hi[k].2 from fun hj' k h hl hh hk => by
    rcases HX.out k h hl hh hk with h9 | h9
    ·exact HP.out k h hl hh h9
    ·subst h9; exact hj')
   have HBad := znd (show FRight f w → RightP f.cols[j].ts f.M w ∧ ¬ 0 < cmpQ f.lo[j].2 f.hi[j].2 from fun h => ⟨h.col j hlt, h.le j hll hlh⟩)
   obtain ⟨v, hv⟩ : ∃ v, v = f.cols[j] := ⟨_, rfl⟩
   obtain ⟨p, hp⟩ : ∃ p, p = f.lo[j] := ⟨_, rfl⟩
   obtain ⟨q, hq⟩ : ∃ q, q = f.hi[j] := ⟨_, rfl⟩
   have Hmv := znd (show v ∈ f.cols by rw [hv]; exact List.getElem_mem hlt)
   have Hmp := znd (show p ∈ f.lo by rw [hp]; exact List.getElem_mem hll)
   have Hmq := znd (show q ∈ f.hi by rw [hq]; exact List.getElem_mem hlh)
   rw [← hv] at cv HNew HBad
   rw [← hp] at HL HNew HBad
   rw [← hq] at HH HNew HBad
   clear hv hp hq HX
   have Hv := znd (show LsR 5 tecells (teD n) v.A v.ts w from Hf.out.cols.ok v Hmv.out)
   have Hvl := znd (show v.ts.length ≤ 1000000 by have := Hs.out.col v Hmv.out; omega)
   have HC := znd (fun (V : World) (h : Env w [⟨w.heap.size, 32, #[.int .i64 f.M, .slice f.Ac f.cols.length f.cc, .slice f.Al f.lo.length f.cl, .slice f.Ah f.hi.length f.ch, .slice f.Ak f.cost.length f.ck, .slice f.Ab f.b.length f.cb]⟩] (fun V => FoD n f V ∧ Tz V) (fun _ => True) V) => And.intro (Env.c1 h) (And.intro (HL.out V h.o.1) (HH.out V h.o.1)))
   obtain ⟨BB, hB⟩ : ∃ B : Bool, B = true ↔ RightP v.ts f.M w := by
    by_cases h : RightP v.ts f.M w
    ·exact ⟨true, by simp [h]⟩
    ·exact ⟨false, by simp [h]⟩
   have HB := znd hB
   clear hB
   have c := HC.out _ HE.out
   cases BB
   ·have HR := znd (show ¬ FRight f w from fun h => absurd (HB.out.2 (HBad.out h).1) (by decide))
    go_upto_region 9 with fail
    refine wp_region_noPanic ?_
    refine wp_region_held_drew (S := (fun W => CB (w.heap.size) #[.int .i64 f.M, .slice f.Ac f.cols.length f.cc, .slice f.Al f.lo.length f.cl, .slice f.Ah f.hi.length f.ch, .slice f.Ak f.cost.length f.ck, .slice f.Ab f.b.length f.cb] W ∧ RC f.Al j p W ∧ RC f.Ah j q W)) (by kernel_rfl) (by first | exact HC.out _ HE.out | exact HC.out _ HE.out.drew) (fun hHeld => ?_)
    refine hT 0 56 hHeld ?_
    refine hT 1 57 hHeld ?_
    refine hT 2 58 hHeld ?_
    refine za8 (i := 3) rfl (by kernel_rfl) (by rfl) (fun K hK => ?_)
    clear hHeld
    simp only [q1, q2, q3]
    go_simp
    refine (zdx (by omega) h1n Hv.out Hvl.out (by first | exact HE.out.bel | exact HE.out.drew.bel) (by first | exact HE.out.o.2 | exact HE.out.drew.o.2) false HB.out).mono ?_
    rintro e w1 ⟨rfl, hb⟩
    replace HE := znd (Env.cx HE.out hb)
    clear hb
    (try (go_wp2_with fail))
    refine hK.out _ _ (by first | exact HC.out _ HE.out | exact HC.out _ HE.out.drew) (fun hHeld => ?_)
    clear hK K
    try simp only [p1, p2, p3, p4]
    refine hT 4 60 hHeld ?_
    refine hT 5 61 hHeld ?_
    refine za2 (i := 6) (v := undef) (some 62) rfl rfl (by kernel_rfl) (by kernel_rfl) (by kernel_rfl) (fun _ _ _ h => h) (Or.inr ⟨by rfl, rfl⟩) hHeld ?_
    try simp only [p1, p2, p3, p4]
    refine za2 (i := 7) (v := undef) (some 63) rfl rfl (by kernel_rfl) (by kernel_rfl) (by kernel_rfl) (fun _ _ _ h => h) (Or.inr ⟨by rfl, rfl⟩) hHeld ?_
    try simp only [p1, p2, p3, p4]
    refine za2 (i := 8) (v := undef) (some 64) rfl rfl (by kernel_rfl) (by kernel_rfl) (by kernel_rfl) (fun _ _ _ h => h) (Or.inr ⟨by rfl, rfl⟩) hHeld ?_
    try simp only [p1, p2, p3, p4]
    refine za2 (i := 9) (v := undef) (some 65) rfl rfl (by kernel_rfl) (by kernel_rfl) (by kernel_rfl) (fun _ _ _ h => h) (Or.inr ⟨by rfl, rfl⟩) hHeld ?_
    try simp only [p1, p2, p3, p4]
    refine za2 (i := 10) (v := undef) (some 66) rfl rfl (by kernel_rfl) (by kernel_rfl) (by kernel_rfl) (fun _ _ _ h => h) (Or.inr ⟨by rfl, rfl⟩) hHeld ?_
    try simp only [p1, p2, p3, p4]
    refine za2 (i := 11) (v := undef) (some 67) rfl rfl (by kernel_rfl) (by kernel_rfl) (by kernel_rfl) (fun _ _ _ h => h) (Or.inr ⟨by rfl, rfl⟩) hHeld ?_
    try simp only [p1, p2, p3, p4]
    refine za2 (i := 12) (v := undef) (some 68) rfl rfl (by kernel_rfl) (by kernel_rfl) (by kernel_rfl) (fun _ _ _ h => h) (Or.inr ⟨by rfl, rfl⟩) hHeld ?_
    try simp only [p1, p2, p3, p4]
    refine za2 (i := 13) (v := undef) (some 69) rfl rfl (by kernel_rfl) (by kernel_rfl) (by kernel_rfl) (fun _ _ _ h => h) (Or.inr ⟨by rfl, rfl⟩) hHeld ?_
    try simp only [p1, p2, p3, p4]
    refine za2 (i := 14) (v := undef) (some 70) rfl rfl (by kernel_rfl) (by kernel_rfl) (by kernel_rfl) (fun _ _ _ h => h) (Or.inr ⟨by rfl, rfl⟩) hHeld ?_
    try simp only [p1, p2, p3, p4]
    refine za2 (i := 15) (v := undef) (some 71) rfl rfl (by kernel_rfl) (by kernel_rfl) (by kernel_rfl) (fun _ _ _ h => h) (Or.inr ⟨by rfl, rfl⟩) hHeld ?_
    try simp only [p1, p2, p3, p4]
    refine zf1 (i := 16) (some 72) rfl rfl (by kernel_rfl) (by rfl) hHeld ?_
    try simp only [p1, p2, p3, p4]
    refine za2 (i := 17) (v := undef) (some 73) rfl rfl (by kernel_rfl) (by kernel_rfl) (by kernel_rfl) (fun _ _ _ h => h) (Or.inr ⟨by rfl, rfl⟩) hHeld ?_
    try simp only [p1, p2, p3, p4]
    refine hT 18 74 hHeld ?_
    refine wpAnyH_done (by kernel_rfl) ?_ _
    refine NoPanic.normal ?_
    go_wp2_with fail
    exact bodyPost_ret (v := .int .i64 101) (by simp [results, Tryz.results32, go_sem]) rfl ⟨zfU HR.out, by first | exact HE.out.bel | exact HE.out.drew.bel⟩
   ·by_cases hc : 0 < cmpQ p.2 q.2
    ·have HR := znd (show ¬ FRight f w from fun h => absurd hc (HBad.out h).2)
     go_upto_region 9 with fail
     go_region_held3 (fun W => CB (w.heap.size) #[.int .i64 f.M, .slice f.Ac f.cols.length f.cc, .slice f.Al f.lo.length f.cl, .slice f.Ah f.hi.length f.ch, .slice f.Ak f.cost.length f.ck, .slice f.Ab f.b.length f.cb] W ∧ RC f.Al j p W ∧ RC f.Ah j q W) (first | with_reducible exact c | ((repeat' apply And.intro) <;> go_keep) | exact c)
      (first
       | (go_at_call 63; go_must (refine (zdx (by omega) h1n Hv.out Hvl.out (by first | exact HE.out.bel | exact HE.out.drew.bel) (by first | exact HE.out.o.2 | exact HE.out.drew.o.2) true HB.out).mono ?_; rintro e w1 ⟨rfl, hb⟩; replace HE := znd (Env.cx HE.out hb); replace c := HC.out _ HE.out; clear hb))
       | (go_at_call 53; go_must (refine (zbb _ p.1 q.1 p.2 q.2 n (by omega) h1n (by first | exact HE.out.o.1.lo.ok p Hmp.out | exact HE.out.drew.o.1.lo.ok p Hmp.out) (by first | exact HE.out.o.1.hi.ok q Hmq.out | exact HE.out.drew.o.1.hi.ok q Hmq.out)).mono ?_; rintro e w2 ⟨rfl, hb⟩; replace HE := znd (Env.cx HE.out hb); replace c := HC.out _ HE.out; clear hb)))
     go_wp2_with fail
     exact bodyPost_ret (v := .int .i64 101) (by simp [results, Tryz.results32, go_sem]) rfl ⟨zfU HR.out, HE.out.bel⟩
    ·have HN := znd (HNew.out ⟨HB.out.1 rfl, hc⟩)
     go_upto_region 9 with fail
     go_region_held3 (fun W => CB (w.heap.size) #[.int .i64 f.M, .slice f.Ac f.cols.length f.cc, .slice f.Al f.lo.length f.cl, .slice f.Ah f.hi.length f.ch, .slice f.Ak f.cost.length f.ck, .slice f.Ab f.b.length f.cb] W ∧ RC f.Al j p W ∧ RC f.Ah j q W) (first | with_reducible exact c | ((repeat' apply And.intro) <;> go_keep) | exact c)
      (first
       | (go_at_call 63; go_must (refine (zdx (by omega) h1n Hv.out Hvl.out (by first | exact HE.out.bel | exact HE.out.drew.bel) (by first | exact HE.out.o.2 | exact HE.out.drew.o.2) true HB.out).mono ?_; rintro e w1 ⟨rfl, hb⟩; replace HE := znd (Env.cx HE.out hb); replace c := HC.out _ HE.out; clear hb))
       | (go_at_call 53; go_must (refine (zbb _ p.1 q.1 p.2 q.2 n (by omega) h1n (by first | exact HE.out.o.1.lo.ok p Hmp.out | exact HE.out.drew.o.1.lo.ok p Hmp.out) (by first | exact HE.out.o.1.hi.ok q Hmq.out | exact HE.out.drew.o.1.hi.ok q Hmq.out)).mono ?_; rintro e w2 ⟨rfl, hb⟩; replace HE := znd (Env.cx HE.out hb); replace c := HC.out _ HE.out; clear hb)))
     go_wp2_with fail
     go_roundw
     case rel => exact ⟨j + 1, by go_num, by omega, znd (fun k h hl hh hk => ⟨(HN.out k h hl hh hk).1, by have h9 := (HN.out k h hl hh hk).2; omega⟩), HE⟩
     case measure => (simp [intOf] <;> omega)
  ·obtain rfl : j = f.cols.length := by omega
   have HR := znd (show FRight f w from ⟨hm, E1.out, E2.out, E3.out, E4.out, fun k h => (HP.out k h (by rw [E1.out]; exact h) (by rw [E2.out]; exact h) h).1, fun k hl hh => (HP.out k (by rw [← E1.out]; exact hl) hl hh (by rw [← E1.out]; exact hl)).2⟩)
   go_wp2_with fail
   exact bodyPost_ret (v := .int .i64 0) (by simp [results, Tryz.results32, go_sem]) rfl ⟨zm5 HR.out, HE.out.bel⟩
theorem zcA (w : World) (n : Nat) (hn : n ≤ 1000000000) (h1n : 1 ≤ n) (f : FoV) (h : FoD n f w) (hs : FSmall f) (hT : Tz w) : Calls Tryz.prog 32 #[fA f] w fun e w' => PRes (FRight f w) e ∧ Below w.heap.size w w' := by
 have key : ∀ {Q : Ending → World → Prop}, ¬ FRight f w → (Calls Tryz.prog 32 #[.agg #[.int .i64 f.M, .slice f.Ac f.cols.length f.cc, .slice f.Al f.lo.length f.cl, .slice f.Ah f.hi.length f.ch, .slice f.Ak f.cost.length f.ck, .slice f.Ab f.b.length f.cb]] w fun e w' => e = .returned (.int .i64 101) ∧ Below w.heap.size w w') → Calls Tryz.prog 32 #[.agg #[.int .i64 f.M, .slice f.Ac f.cols.length f.cc, .slice f.Al f.lo.length f.cl, .slice f.Ah f.hi.length f.ch, .slice f.Ak f.cost.length f.ck, .slice f.Ab f.b.length f.cb]] w fun e w' => PRes (FRight f w) e ∧ Below w.heap.size w w' := fun {_} hn hc => hc.mono fun e w' ⟨h1, h2⟩ => by subst h1; exact ⟨zfU hn, h2⟩
 by_cases hm : f.M < 0
 ·exact key (Q := fun _ _ => True) (fun h' => by have := h'.M0; omega) (zkq w n hn h1n f h hs hT hm)
 ·by_cases e1 : f.lo.length = f.cols.length
  ·by_cases e2 : f.hi.length = f.cols.length
   ·by_cases e3 : f.cost.length = f.cols.length
    ·by_cases e4 : (f.b.length : Int) = f.M
     ·exact zjp w n hn h1n f h hs hT (by omega) e1 e2 e3 e4
     ·exact key (Q := fun _ _ => True) (fun h' => e4 h'.b) (zkB w n hn h1n f h hs hT (by omega) e1 e2 e3 e4)
    ·exact key (Q := fun _ _ => True) (fun h' => e3 h'.cost) (zfV w n hn h1n f h hs hT (by omega) e1 e2 e3)
   ·exact key (Q := fun _ _ => True) (fun h' => e2 h'.hi) (zj3 w n hn h1n f h hs hT (by omega) e1 e2)
  ·exact key (Q := fun _ _ => True) (fun h' => e1 h'.lo) (zij w n hn h1n f h hs hT (by omega) e1)

set_option maxRecDepth 100000 in
theorem Blk.old {w : World} {g : Nat} {t : TypeId} {cs : Array Value} (h : Blk w g t cs) : Rests w (· < w.heap.size) (fun V => Blk V g t cs) := ⟨h, fun _ hw => (hw g h.lt h.lt).trans h⟩
theorem RatD.mono9 {r : RV} {q : Rat} {n m : Nat} {w : World} (h : RatD r q n w) (hm : n ≤ m) : RatD r q m w := by
 obtain ⟨x, d, hx, hd, hq⟩ := h.ex
 exact ⟨x, d, hx.mono hm, hd.mono hm, hq⟩
instance : Inhabited VeV := ⟨⟨none, 0, []⟩⟩
def vecL (ys : List (RV × Rat)) : List (Int × Rat) := ((ofT ys).map plq).filter nzP
theorem zfT {ys : List (RV × Rat)} {ps : List TeV} (h : ps.map plq = vecL ys) : Rise ps := zcY h ((zcZ ys).map.filter _)
theorem zgG {ys : List (RV × Rat)} {ps : List TeV} (h : ps.map plq = vecL ys) : ps.length ≤ ys.length := by
 have h1 := congrArg List.length h
 rw [List.length_map] at h1
 have h2 := List.length_filter_le nzP ((ofT ys).map plq)
 rw [List.length_map, zbw] at h2
 unfold vecL at h1
 omega
theorem zfQ {ys : List (RV × Rat)} {ps : List TeV} {n : Nat} (h : ps.map plq = vecL ys) (hy : ∀ p ∈ ys, Sz p.2 n) : ∀ t ∈ ps, Sz t.q n := zfy h fun p hp => by
 obtain ⟨t, ht, rfl⟩ := List.mem_map.1 (List.mem_filter.1 hp).1
 obtain ⟨x, hx, rfl⟩ := List.mem_map.1 ht
 obtain ⟨j, hj, e⟩ := List.mem_iff_getElem.1 hx
 have hj' : j < ys.length := by simpa using hj
 have e2 : x.1 = ys[j] := by rw [← e]; simp
 show Sz x.1.2 n
 rw [e2]
 exact hy _ (List.getElem_mem hj')
theorem FRight.same {n : Nat} {f : FoV} {w W : World} (h : FoD n f w) (hb : Below w.heap.size w W) : FRight f W ↔ FRight f w := by
 constructor
 ·rintro ⟨h1, h2, h3, h4, h5, h6, h7⟩
  exact ⟨h1, h2, h3, h4, h5, fun j hj => (RightP.same (h.cols.ok _ (List.getElem_mem hj)) hb).1 (h6 j hj), h7⟩
 ·rintro ⟨h1, h2, h3, h4, h5, h6, h7⟩
  exact ⟨h1, h2, h3, h4, h5, fun j hj => (RightP.same (h.cols.ok _ (List.getElem_mem hj)) hb).2 (h6 j hj), h7⟩
def AddRes (F : Int → Rat) (N L g : Nat) (w : World) (e : Ending) (w' : World) : Prop :=
 ∃ W1 A c ts, e = .returned (.tuple #[]) ∧ w' = W1.setCell ⟨g, 0, none⟩ (.slice A (List.length ts) c) ∧ Rise ts ∧ (∀ t ∈ ts, nzT t = true ∧ Sz t.q N) ∧ ts.length ≤ L ∧ (∀ a, getQ (ts.map plq) a = F a) ∧ Rests W1 (w.heap.size ≤ ·) (LsR 5 tecells teN A ts) ∧ Below w.heap.size w W1
theorem RetC.open {F : Int → Rat} {N L : Nat} {w : World} {e : Ending} {w' : World} (h : RetC F N L w e w') : ∃ A c ts, e = .returned (.slice A (List.length ts) c) ∧ (Rise ts ∧ (∀ t ∈ ts, nzT t = true ∧ Sz t.q N) ∧ ts.length ≤ L ∧ (∀ a, getQ (ts.map plq) a = F a)) ∧ Rests w' (w.heap.size ≤ ·) (LsR 5 tecells teN A ts) ∧ Below w.heap.size w w' := by
 obtain ⟨us, h1, h2, h3, h4, A, c, ts, rfl, _, hts, hk, hb⟩ := h
 subst hts
 exact ⟨A, c, ts, rfl, ⟨zcY rfl h1, fun t ht => h2 _ (List.mem_map_of_mem ht), by simpa using h3, h4⟩, hk, hb⟩
theorem AddRes.mk {w W1 : World} {old nw : World → Prop} {A : Option Addr} {c N L g : Nat} {ts : List TeV} {F : Int → Rat} (HE : Env w [] old (fun V => LsR 5 tecells teN A ts V ∧ nw V) W1) (H : Rise ts ∧ (∀ t ∈ ts, nzT t = true ∧ Sz t.q N) ∧ ts.length ≤ L ∧ (∀ a, getQ (ts.map plq) a = F a)) : AddRes F N L g w (.returned (.tuple #[])) (W1.setCell ⟨g, 0, none⟩ (.slice A (List.length ts) c)) :=
 ⟨W1, A, c, ts, rfl, rfl, H.1, H.2.1, H.2.2.1, H.2.2.2, (HE.rsn.imp fun _ h => h.1).mono fun _ h => h.1, HE.bel⟩
set_option maxRecDepth 100000 in
theorem zje (w : World) (n m : Nat) (hn : n ≤ 49000000000) (hm : m ≤ 1000000000) (h1n : 1 ≤ n) (h1m : 1 ≤ m) (f : FoV) (gs gx gf : Nat) (As Ax : Option Addr) (cs cx : Nat) (ss : List TeV) (xs : List (RV × Rat)) (hgs : Blk w gs 25 #[.slice As ss.length cs]) (hgx : Blk w gx 30 #[.slice Ax xs.length cx]) (hgf : Blk w gf 32 #[.int .i64 f.M, .slice f.Ac f.cols.length f.cc, .slice f.Al f.lo.length f.cl, .slice f.Ah f.hi.length f.ch, .slice f.Ak f.cost.length f.ck, .slice f.Ab f.b.length f.cb]) (h : FoD m f w) (hx : LsR 4 za0 (roD m) Ax xs w) (hss : LsR 5 tecells (teD n) As ss w) (hrs : Rise ss) (hls : ss.length ≤ 20)
 (j : Nat) (hj : j < f.cols.length) (hjx : j < xs.length) (hrv : Rise f.cols[j].ts) (hvl : f.cols[j].ts.length ≤ 1000) (hT : Tz w) :
 Calls Tryz.prog 59 #[.int .i64 (j : Int), .pointer (some ⟨gs, 0, none⟩), .pointer (some ⟨gx, 0, none⟩), .pointer (some ⟨gf, 0, none⟩)] w (AddRes (fun a => getQ (ss.map plq) a + xs[j].2 * getQ (f.cols[j].ts.map plq) a) (n + (2 * m + 1) + 1) (ss.length + f.cols[j].ts.length) gs w) := by
 have slc := h.cols.sl
 have slx := hx.sl
 have hszc := zaw
 have hszr := zal
 have hadd := zaa
 have cv0 := h.cols.vc j hj
 have cx0 := hx.rc j hjx
 obtain ⟨v, hv⟩ : ∃ v, v = f.cols[j] := ⟨_, rfl⟩
 have Hmv := znd (show v ∈ f.cols by rw [hv]; exact List.getElem_mem hj)
 obtain ⟨p, hp⟩ : ∃ p, p = xs[j] := ⟨_, rfl⟩
 have Hmp := znd (show p ∈ xs by rw [hp]; exact List.getElem_mem hjx)
 rw [← hv] at cv0 hrv hvl ⊢
 rw [← hp] at cx0 ⊢
 have HVE := znd (show ∀ V, FoD m f V → LsR 5 tecells (teD m) v.A v.ts V from fun V h => h.cols.ok v Hmv.out)
 have HXE := znd (show ∀ V, LsR 4 za0 (roD m) Ax xs V → RatD p.1 p.2 m V from fun V h => h.ok p Hmp.out)
 have Hrv := znd hrv
 have Hrs := znd hrs
 have Hls := znd hls
 have Hvl := znd hvl
 have cs0 := Blk.cb hgs
 have cg0 := Blk.cb hgx
 have cf0 := Blk.cb hgf
 have HE := znd (Env.start (hgs.old.and (hgx.old.and (hgf.old.and (h.old.and ((hx.old zbQ).and ((hss.old zah).and hT.old)))))))
 clear hgs hgx hgf h hx hss hT hv hp hrv hrs hvl hls
 go_enter Tryz.func59, Tryz.ntmps59
 go_wp2_with fail
 go_region_with (first
  | (go_at_call 12; go_must (refine (zdp _ n m hn (by omega) h1n h1m As v.A cs v.c ss v.ts p.1 p.2 (by with_reducible first | exact HE.out.o.2.2.2.2.2.1 | exact HE.out.drew.o.2.2.2.2.2.1) (HVE.out _ (by with_reducible first | exact HE.out.o.2.2.2.1 | exact HE.out.drew.o.2.2.2.1)) (HXE.out _ (by with_reducible first | exact HE.out.o.2.2.2.2.1 | exact HE.out.drew.o.2.2.2.2.1)) Hrs.out Hrv.out Hls.out Hvl.out (by with_reducible first | exact HE.out.o.2.2.2.2.2.2 | exact HE.out.drew.o.2.2.2.2.2.2)).mono ?_; rintro e w1 hret; obtain ⟨A, c, ts, rfl, hres, hk, hb⟩ := RetC.open hret; clear hret; replace HE := znd (Env.ret (by with_reducible first | exact HE.out | exact HE.out.drew) hk hb); have Hres := znd hres; have cs1 := Blk.cb HE.out.o.1; clear hk hb hres)))
 all_goals
  go_wp2_with fail
  refine bodyPost_ret (v := .tuple #[]) ?_ rfl ?_
  ·simp [results, Tryz.results59, go_sem]
  ·first
    | with_reducible exact AddRes.mk HE.out Hres.out
    | with_reducible exact AddRes.mk HE.out.drew Hres.out

theorem zaO (p : Int × Rat) (l : List (Int × Rat)) (a : Int) : getQ (p :: l) a = (if p.1 = a then p.2 else 0) + getQ l a := by
 rw [← List.singleton_append, zaB, zaY]
theorem zfs {p : Int × Rat} (h : nzP p = true) : p.2 ≠ 0 := by
 intro e
 unfold nzP at h
 rw [e] at h
 exact absurd h (by decide)
theorem zaW {l : List (Int × Rat)} {a : Int} (h : ∀ p ∈ l, a < p.1) : getQ l a = 0 := zan fun p hp e => by have := h p hp; omega
theorem zgX : ∀ {P Q : List (Int × Rat)}, P.Pairwise (fun p q => p.1 < q.1) → Q.Pairwise (fun p q => p.1 < q.1) → (∀ p ∈ P, nzP p = true) → (∀ p ∈ Q, nzP p = true) → (∀ a, getQ P a = getQ Q a) → P = Q
 | [], [], _, _, _, _, _ => rfl
 | [], q :: Q, _, hq, _, nq, h => by
  exfalso
  have h1 := h q.1
  rw [zaO, if_pos rfl, zaW (List.pairwise_cons.1 hq).1, Rat.add_zero] at h1
  exact zfs (nq q (List.mem_cons_self ..)) h1.symm
 | p :: P, [], hp, _, np, _, h => by
  exfalso
  have h1 := h p.1
  rw [zaO, if_pos rfl, zaW (List.pairwise_cons.1 hp).1, Rat.add_zero] at h1
  exact zfs (np p (List.mem_cons_self ..)) h1
 | p :: P, q :: Q, hp, hq, np, nq, h => by
  have hp' := List.pairwise_cons.1 hp
  have hq' := List.pairwise_cons.1 hq
  have e : p.1 = q.1 := by
   by_cases h1 : p.1 < q.1
   ·have h2 := h p.1
    rw [zaO, if_pos rfl, zaW hp'.1, Rat.add_zero, zaO, if_neg (by omega), zaW fun x hx => by have := hq'.1 x hx; omega, Rat.add_zero] at h2
    exact absurd h2 (zfs (np p (List.mem_cons_self ..)))
   ·by_cases h3 : q.1 < p.1
    ·have h2 := h q.1
     rw [zaO, if_neg (by omega), zaW fun x hx => by have := hp'.1 x hx; omega, zaO, if_pos rfl, zaW hq'.1, Rat.add_zero, Rat.add_zero] at h2
     exact absurd h2.symm (zfs (nq q (List.mem_cons_self ..)))
    ·omega
  have e2 : p.2 = q.2 := by
   have h2 := h p.1
   rw [zaO, if_pos rfl, zaW hp'.1, zaO, if_pos e.symm, zaW fun x hx => by rw [e]; exact hq'.1 x hx, Rat.add_zero, Rat.add_zero] at h2
   exact h2
  have e3 : p = q := Prod.ext e e2
  subst e3
  rw [zgX hp'.2 hq'.2 (fun x hx => np x (List.mem_cons_of_mem _ hx)) (fun x hx => nq x (List.mem_cons_of_mem _ hx)) fun a => by
   have h2 := h a
   rw [zaO, zaO] at h2
   exact Rat.add_left_cancel _ h2]
theorem zbK (ys : List (RV × Rat)) (i : Nat) (hi : i < ys.length) : getQ ((ofT ys).map plq) (i : Int) = ys[i].2 := by
 have h1 : i < (ofT ys).length := by rw [zbw]; exact hi
 have h2 := (zcZ ys).get_at h1
 rw [zem ys i hi] at h2
 exact h2
theorem zce (ys : List (RV × Rat)) (a : Int) (h : a < 0 ∨ (ys.length : Int) ≤ a) : getQ ((ofT ys).map plq) a = 0 := zan fun p hp => by
 obtain ⟨t, ht, rfl⟩ := List.mem_map.1 hp
 obtain ⟨j, hj, rfl⟩ := List.mem_iff_getElem.1 ht
 have hj' : j < ys.length := by rwa [zbw] at hj
 rw [zem ys j hj']
 show (j : Int) ≠ a
 omega
theorem zbY (ys : List (RV × Rat)) (a : Int) : getQ (vecL ys) a = getQ ((ofT ys).map plq) a := by
 unfold vecL; rw [zbB]
theorem zdu : ∀ {l : List TeV} {lo hi : Int}, Rise l → (∀ t ∈ l, lo ≤ t.pl ∧ t.pl < hi) → l.length ≤ (hi - lo).toNat
 | [], _, _, _, _ => Nat.zero_le _
 | t :: l, lo, hi, hr, h => by
  have hr' := List.pairwise_cons.1 hr
  have h1 := zdu (l := l) (lo := t.pl + 1) (hi := hi) hr'.2 fun u hu => ⟨by have := hr'.1 u hu; omega, (h u (List.mem_cons_of_mem _ hu)).2⟩
  have h2 := h t (List.mem_cons_self ..)
  rw [List.length_cons]
  omega
theorem zdI {ts : List TeV} {M a : Int} (h : ∀ t ∈ ts, 0 ≤ t.pl ∧ t.pl < M) (ha : a < 0 ∨ M ≤ a) : getQ (ts.map plq) a = 0 := zan fun p hp => by
 obtain ⟨t, ht, rfl⟩ := List.mem_map.1 hp
 have := h t ht
 show t.pl ≠ a
 omega
theorem zkP {ts : List TeV} {M : Int} (hr : Rise ts) (hz : ∀ t ∈ ts, nzT t = true) (h : ∀ a, (a < 0 ∨ M ≤ a) → getQ (ts.map plq) a = 0) : ∀ t ∈ ts, 0 ≤ t.pl ∧ t.pl < M := fun t ht => by
 obtain ⟨j, hj, rfl⟩ := List.mem_iff_getElem.1 ht
 have h1 := hr.get_at hj
 by_cases h2 : ts[j].pl < 0 ∨ M ≤ ts[j].pl
 ·rw [h _ h2] at h1
  exact absurd h1.symm (zfs (p := plq ts[j]) (hz _ ht))
 ·omega
def sumQ (f : FoV) (xs : List (RV × Rat)) (a : Int) : Nat → Rat
 | 0 => 0
 | k + 1 => sumQ f xs a k + (xs[k]!).2 * getQ ((f.cols[k]!).ts.map plq) a
structure FeasP (f : FoV) (xs : List (RV × Rat)) (w : World) : Prop where
 right : FRight f w
 len : xs.length = f.cols.length
 lo : ∀ j (h : j < xs.length) (h' : j < f.lo.length), ¬ cmpQ xs[j].2 f.lo[j].2 < 0
 hi : ∀ j (h : j < xs.length) (h' : j < f.hi.length), ¬ 0 < cmpQ xs[j].2 f.hi[j].2
 eq : ∀ i (h : i < f.b.length), sumQ f xs (i : Int) f.cols.length = f.b[i].2
structure FI (n : Nat) (f : FoV) (xs : List (RV × Rat)) (j : Nat) (ss : List TeV) : Prop where
 rise : Rise ss
 nz : ∀ t ∈ ss, nzT t = true
 sz : ∀ t ∈ ss, Sz t.q (1 + j * (2 * n + 2))
 rng : ∀ t ∈ ss, 0 ≤ t.pl ∧ t.pl < f.M
 get : ∀ a, getQ (ss.map plq) a = sumQ f xs a j
 lo : ∀ k (h : k < xs.length) (h' : k < f.lo.length), k < j → ¬ cmpQ xs[k].2 f.lo[k].2 < 0
 hi : ∀ k (h : k < xs.length) (h' : k < f.hi.length), k < j → ¬ 0 < cmpQ xs[k].2 f.hi[k].2
theorem FI.start (n : Nat) (f : FoV) (xs : List (RV × Rat)) : FI n f xs 0 [] := ⟨.nil, by simp, by simp, by simp, fun _ => rfl, fun _ _ _ h => absurd h (Nat.not_lt_zero _), fun _ _ _ h => absurd h (Nat.not_lt_zero _)⟩
theorem FI.len {n : Nat} {f : FoV} {xs : List (RV × Rat)} {j : Nat} {ss : List TeV} (h : FI n f xs j ss) (hM : f.M ≤ 5) : ss.length ≤ 5 := by
 have := zdu h.rise h.rng
 omega
theorem FI.next {n : Nat} {f : FoV} {xs : List (RV × Rat)} {j : Nat} {ss us : List TeV} {w : World} (h : FI n f xs j ss) (hR : FRight f w) (hj : j < f.cols.length) (hjx : j < xs.length) (hjl : j < f.lo.length) (hjh : j < f.hi.length)
 (h1 : Rise us) (h2 : ∀ t ∈ us, nzT t = true ∧ Sz t.q ((1 + j * (2 * n + 2)) + (2 * n + 1) + 1)) (h3 : ∀ a, getQ (us.map plq) a = getQ (ss.map plq) a + xs[j].2 * getQ (f.cols[j].ts.map plq) a) (h4 : ¬ cmpQ xs[j].2 f.lo[j].2 < 0) (h5 : ¬ 0 < cmpQ xs[j].2 f.hi[j].2) : FI n f xs (j + 1) us := by
 refine ⟨h1, fun t ht => (h2 t ht).1, fun t ht => (h2 t ht).2.up ?_, zkP h1 (fun t ht => (h2 t ht).1) fun a ha => ?_, fun a => ?_, fun k hk hk' hkj => ?_, fun k hk hk' hkj => ?_⟩
 ·rw [Nat.add_mul]; omega
 ·rw [h3, zdI h.rng ha, zdI (hR.col j hj).rng ha, Rat.mul_zero, Rat.add_zero]
 ·rw [h3, h.get]
  show _ = sumQ f xs a j + (xs[j]!).2 * getQ ((f.cols[j]!).ts.map plq) a
  rw [getElem!_pos xs j hjx, getElem!_pos f.cols j hj]
 ·rcases Nat.lt_succ_iff_lt_or_eq.1 hkj with e | e
  ·exact h.lo k hk hk' e
  ·subst e; exact h4
 ·rcases Nat.lt_succ_iff_lt_or_eq.1 hkj with e | e
  ·exact h.hi k hk hk' e
  ·subst e; exact h5
theorem zgg {f : FoV} {xs : List (RV × Rat)} {w : World} (hR : FRight f w) {a : Int} (ha : a < 0 ∨ f.M ≤ a) : ∀ j, j ≤ f.cols.length → sumQ f xs a j = 0
 | 0, _ => rfl
 | j + 1, h => by
  show sumQ f xs a j + (xs[j]!).2 * getQ ((f.cols[j]!).ts.map plq) a = 0
  rw [zgg hR ha j (by omega), getElem!_pos f.cols j (by omega), zdI (hR.col j (by omega)).rng ha, Rat.mul_zero, Rat.add_zero]
theorem FI.done {n : Nat} {f : FoV} {xs : List (RV × Rat)} {ss us : List TeV} {w : World} (h : FI n f xs f.cols.length ss) (hR : FRight f w) (hl : xs.length = f.cols.length) (hu : us.map plq = vecL f.b) : (ss.map plq).filter nzP = (us.map plq).filter nzP ↔ FeasP f xs w := by
 have hb := hR.b
 have hfs : (ss.map plq).filter nzP = ss.map plq := List.filter_eq_self.2 fun p hp => by
  obtain ⟨t, ht, rfl⟩ := List.mem_map.1 hp
  exact h.nz t ht
 rw [hfs, hu]
 have hfb : (vecL f.b).filter nzP = vecL f.b := by unfold vecL; rw [List.filter_filter]; simp
 rw [hfb]
 constructor
 ·intro e
  refine ⟨hR, hl, fun j hj hj' => h.lo j hj hj' (by omega), fun j hj hj' => h.hi j hj hj' (by omega), fun i hi => ?_⟩
  rw [← h.get, e, zbY, zbK _ _ hi]
 ·intro hF
  refine zgX h.rise.map ((zcZ f.b).map.filter _) (fun p hp => ?_) (fun p hp => (List.mem_filter.1 hp).2) fun a => ?_
  ·obtain ⟨t, ht, rfl⟩ := List.mem_map.1 hp
   exact h.nz t ht
  ·rw [h.get]
   show _ = getQ (vecL f.b) a
   rw [zbY]
   by_cases ha : a < 0 ∨ f.M ≤ a
   ·rw [zgg hR ha _ (Nat.le_refl _), zce _ _ (by omega)]
   ·obtain ⟨i, rfl⟩ : ∃ i : Nat, a = (i : Int) := ⟨a.toNat, by omega⟩
    rw [zbK _ i (by omega)]
    exact hF.eq i (by omega)

theorem zlO {a b : Rat} (h : ¬ cmpQ a b < 0) : cmpQ a b = 0 ∨ cmpQ a b = 1 := by
 unfold cmpQ at h ⊢
 by_cases h1 : a < b
 ·rw [if_pos h1] at h; omega
 ·rw [if_neg h1]
  by_cases h2 : a = b
  ·rw [if_pos h2]; exact .inl rfl
  ·rw [if_neg h2]; exact .inr rfl
theorem zl6 {a b : Rat} (h : cmpQ a b < 0) : cmpQ a b = -1 := by
 unfold cmpQ at h ⊢
 by_cases h1 : a < b
 ·rw [if_pos h1]
 ·rw [if_neg h1] at h
  by_cases h2 : a = b
  ·rw [if_pos h2] at h; omega
  ·rw [if_neg h2] at h; omega
set_option maxRecDepth 100000 in
theorem zm3 (w : World) (n : Nat) (hn : n ≤ 1000000000) (h1n : 1 ≤ n) (f : FoV) (h : FoD n f w) (hs : FSmall f) (Ax : Option Addr) (cx : Nat) (xs : List (RV × Rat)) (hx : LsR 4 za0 (roD n) Ax xs w) (hT : Tz w) (hR : ¬ FRight f w) :
 Calls Tryz.prog 22 #[fA f, .slice Ax xs.length cx] w fun e w' => zaR (FeasP f xs w) e ∧ Below w.heap.size w w' := by
 have Hs := znd hs
 have HR := znd hR
 have Hf := znd h
 have HE := znd (lyFS f Ax xs.length cx ((h.old).and (((hx.old zbQ)).and (hT.old))))
 have c := Env.c2 HE.out
 have dd := Env.d2 HE.out
 clear h hs hR hx hT
 unfold fA
 go_enter Tryz.func22, Tryz.ntmps22
 go_wp2_with fail
 refine (zcA _ n (by omega) h1n f HE.out.o.1 Hs.out HE.out.o.2.2).mono ?_
 rintro e w1 ⟨⟨z, rfl, hz⟩, hb⟩
 have hR1 := FRight.same Hf.out HE.out.bel
 replace HE := znd (Env.call HE.out hb)
 replace c := Env.c2 HE.out
 clear hb
 obtain ⟨rfl, -⟩ : z = 101 ∧ True := by
  rcases hz with ⟨-, h9⟩ | ⟨h9, -⟩
  ·exact absurd (hR1.1 h9) HR.out
  ·exact ⟨h9, trivial⟩
 clear hz hR1
 go_wp2_with fail
 exact bodyPost_ret (v := .bool false) (by simp [results, Tryz.results22, go_sem]) rfl ⟨za7 false ⟨fun h9 => absurd h9 (by decide), fun h9 => absurd h9.right HR.out⟩, HE.out.bel⟩
set_option maxRecDepth 100000 in
theorem zkJ (w : World) (n : Nat) (hn : n ≤ 1000000000) (h1n : 1 ≤ n) (f : FoV) (h : FoD n f w) (hs : FSmall f) (Ax : Option Addr) (cx : Nat) (xs : List (RV × Rat)) (hx : LsR 4 za0 (roD n) Ax xs w) (hT : Tz w) (hR : FRight f w) (hl : xs.length ≠ f.cols.length) :
 Calls Tryz.prog 22 #[fA f, .slice Ax xs.length cx] w fun e w' => zaR (FeasP f xs w) e ∧ Below w.heap.size w w' := by
 have Hs := znd hs
 have HR := znd hR
 have Hf := znd h
 have kl : ((xs.length : Int) != (f.cols.length : Int)) = true := by simp; omega
 have HL := znd hl
 clear hl
 have HE := znd (lyFS f Ax xs.length cx ((h.old).and (((hx.old zbQ)).and (hT.old))))
 have c := Env.c2 HE.out
 have dd := Env.d2 HE.out
 clear h hs hR hx hT
 unfold fA
 go_enter Tryz.func22, Tryz.ntmps22
 go_wp2_with fail
 refine (zcA _ n (by omega) h1n f HE.out.o.1 Hs.out HE.out.o.2.2).mono ?_
 rintro e w1 ⟨⟨z, rfl, hz⟩, hb⟩
 have hR1 := FRight.same Hf.out HE.out.bel
 replace HE := znd (Env.call HE.out hb)
 replace c := Env.c2 HE.out
 clear hb
 obtain ⟨rfl, -⟩ : z = 0 ∧ True := by
  rcases hz with ⟨h9, -⟩ | ⟨-, h9⟩
  ·exact ⟨h9, trivial⟩
  ·exact absurd (hR1.2 HR.out) h9
 clear hz hR1
 go_wp2_with fail
 exact bodyPost_ret (v := .bool false) (by simp [results, Tryz.results22, go_sem]) rfl ⟨za7 false ⟨fun h9 => absurd h9 (by decide), fun h9 => absurd h9.len HL.out⟩, HE.out.bel⟩
set_option maxRecDepth 100000 in
theorem zlN (w : World) (n : Nat) (hn : n ≤ 1000000000) (h1n : 1 ≤ n) (f : FoV) (h : FoD n f w) (hs : FSmall f) (Ax : Option Addr) (cx : Nat) (xs : List (RV × Rat)) (hx : LsR 4 za0 (roD n) Ax xs w) (hT : Tz w) (hR : FRight f w) (hl : xs.length = f.cols.length) :
 Calls Tryz.prog 22 #[fA f, .slice Ax xs.length cx] w fun e w' => zaR (FeasP f xs w) e ∧ Below w.heap.size w w' := by
 have Hs := znd hs
 have HR := znd hR
 have Hf := znd h
 have kl : ((xs.length : Int) != (f.cols.length : Int)) = false := by simp; omega
 have HL := znd hl
 have hc12 := hs.cols
 have slc := h.cols.sl
 have sll := h.lo.sl
 have slh := h.hi.sl
 have slx := hx.sl
 have slb := h.b.sl
 have hszr := zal
 have hszc := zaw
 have hadd := zaa
 have HFB := znd (fun (V : World) (h : FoD n f V) => h.b)
 have Hsb := znd (show ∀ p ∈ f.b, Sz p.2 n from fun p hp => RatD.sz (h.b.ok p hp) h1n)
 clear hl
 have HE := znd (lyFS f Ax xs.length cx ((h.old).and (((hx.old zbQ)).and (hT.old))))
 have c := Env.c2 HE.out
 have dd := Env.d2 HE.out
 clear h hs hR hx hT
 unfold fA
 go_enter Tryz.func22, Tryz.ntmps22
 go_wp2_with fail
 refine (zcA _ n (by omega) h1n f HE.out.o.1 Hs.out HE.out.o.2.2).mono ?_
 rintro e w1 ⟨⟨z, rfl, hz⟩, hb⟩
 have hR1 := FRight.same Hf.out HE.out.bel
 replace HE := znd (Env.call HE.out hb)
 replace c := Env.c2 HE.out
 clear hb
 obtain ⟨rfl, -⟩ : z = 0 ∧ True := by
  rcases hz with ⟨h9, -⟩ | ⟨-, h9⟩
  ·exact ⟨h9, trivial⟩
  ·exact absurd (hR1.2 HR.out) h9
 clear hz hR1
 clear c
 have c := Env.c2 HE.out
 go_upto_region 4 with fail
 obtain ⟨W1, g5, hW1, hg5, HE⟩ := Env.al HE.out 25 #[.slice none 0 0]
 rw [hW1, hg5]
 clear hW1 hg5 c
 have c := Env.c3 HE.out
 go_wp2_with fail
 clear c
 go_loopw [23] (fun jv wr => ∃ (j : Nat) (As : Option Addr) (cs : Nat) (ss : List TeV), jv = .int .i64 (j : Int) ∧ j ≤ f.cols.length ∧ Hid (FI n f xs j ss) ∧ Hid (Env w [⟨g5, 25, #[.slice As ss.length cs]⟩, ⟨w.heap.size + 1, 30, #[.slice Ax xs.length cx]⟩, ⟨w.heap.size, 32, #[.int .i64 f.M, .slice f.Ac f.cols.length f.cc, .slice f.Al f.lo.length f.cl, .slice f.Ah f.hi.length f.ch, .slice f.Ak f.cost.length f.ck, .slice f.Ab f.b.length f.cb]⟩] (fun V => FoD n f V ∧ LsR 4 za0 (roD n) Ax xs V ∧ Tz V) (fun V => LsR 5 tecells teN As ss V) wr)) (fun jv _ => f.cols.length - (intOf jv).toNat)
 case atStart => exact ⟨0, none, 0, [], rfl, Nat.zero_le _, znd (FI.start n f xs), znd (HE.out.imp (fun _ h => h) (fun V _ => LsR.nil_ _))⟩
 case round =>
  clear HE
  obtain ⟨j, As, cs, ss, rfl, hj, HF, HE⟩ := hrel
  by_cases hlt : j < f.cols.length
  ·have hjx : j < xs.length := by rw [HL.out]; exact hlt
   have hjl : j < f.lo.length := by rw [HR.out.lo]; exact hlt
   have hjh : j < f.hi.length := by rw [HR.out.hi]; exact hlt
   have HQ := znd (fun (V : World) (h : FoD n f V) => h.lo.rc j hjl)
   have HH := znd (fun (V : World) (h : FoD n f V) => h.hi.rc j hjh)
   have cx0 := HE.out.o.2.1.rc j hjx
   have HLO := znd (show FeasP f xs w → ¬ cmpQ xs[j].2 f.lo[j].2 < 0 from fun h => h.lo j hjx hjl)
   have HHI := znd (show FeasP f xs w → ¬ 0 < cmpQ xs[j].2 f.hi[j].2 from fun h => h.hi j hjx hjh)
   have HNX := znd (fun (us : List TeV) h1 h2 h3 h4 h5 => FI.next (us := us) HF.out HR.out hlt hjx hjl hjh h1 h2 h3 h4 h5)
   obtain ⟨p, hp⟩ : ∃ p, p = xs[j] := ⟨_, rfl⟩
   obtain ⟨q, hq⟩ : ∃ q, q = f.lo[j] := ⟨_, rfl⟩
   obtain ⟨r, hr⟩ : ∃ r, r = f.hi[j] := ⟨_, rfl⟩
   have Hmp := znd (show p ∈ xs by rw [hp]; exact List.getElem_mem hjx)
   have Hmq := znd (show q ∈ f.lo by rw [hq]; exact List.getElem_mem hjl)
   have Hmr := znd (show r ∈ f.hi by rw [hr]; exact List.getElem_mem hjh)
   rw [← hq] at HQ HLO HNX
   rw [← hr] at HH HHI HNX
   rw [← hp] at cx0 HLO HHI HNX
   have Hp := znd hp
   clear hp hq hr
   have HXE := znd (show ∀ V, LsR 4 za0 (roD n) Ax xs V → RatD p.1 p.2 n V from fun V h => h.ok p Hmp.out)
   have HQE := znd (show ∀ V, FoD n f V → RatD q.1 q.2 n V from fun V h => h.lo.ok q Hmq.out)
   have HRE := znd (show ∀ V, FoD n f V → RatD r.1 r.2 n V from fun V h => h.hi.ok r Hmr.out)
   have c := Env.c3 HE.out
   go_upto_region 8 with fail
   obtain ⟨W2, gv, hW2, hgv, HE⟩ := Env.al HE.out 48 #[.bool p.1.num.neg, .slice p.1.num.A p.1.num.k p.1.num.c, .bool p.1.den.neg, .slice p.1.den.A p.1.den.k p.1.den.c]
   rw [hW2, hgv]
   clear hW2 hgv c cx0
   have HC := znd (fun (V : World) (h : Env w [⟨gv, 48, #[.bool p.1.num.neg, .slice p.1.num.A p.1.num.k p.1.num.c, .bool p.1.den.neg, .slice p.1.den.A p.1.den.k p.1.den.c]⟩, ⟨g5, 25, #[.slice As ss.length cs]⟩, ⟨w.heap.size + 1, 30, #[.slice Ax xs.length cx]⟩, ⟨w.heap.size, 32, #[.int .i64 f.M, .slice f.Ac f.cols.length f.cc, .slice f.Al f.lo.length f.cl, .slice f.Ah f.hi.length f.ch, .slice f.Ak f.cost.length f.ck, .slice f.Ab f.b.length f.cb]⟩] (fun V => FoD n f V ∧ LsR 4 za0 (roD n) Ax xs V ∧ Tz V) (fun V => LsR 5 tecells teN As ss V) V) => And.intro (Env.c4 h).1 (And.intro (Env.c4 h).2.2.2 (And.intro (HQ.out V h.o.1) (HH.out V h.o.1))))
   have c := HC.out _ HE.out
   by_cases hlo : cmpQ p.2 q.2 < 0
   ·have HR9 := znd (show ¬ FeasP f xs w from fun h => HLO.out h hlo)
    have HM1 := znd (zl6 hlo)
    refine wp_region_noPanic ?_
    refine wp_region_held_drew (S := (fun W => CB gv #[.bool p.1.num.neg, .slice p.1.num.A p.1.num.k p.1.num.c, .bool p.1.den.neg, .slice p.1.den.A p.1.den.k p.1.den.c] W ∧ CB (w.heap.size) #[.int .i64 f.M, .slice f.Ac f.cols.length f.cc, .slice f.Al f.lo.length f.cl, .slice f.Ah f.hi.length f.ch, .slice f.Ak f.cost.length f.ck, .slice f.Ab f.b.length f.cb] W ∧ RC f.Al j q W ∧ RC f.Ah j r W)) (by kernel_rfl) (by first | exact HC.out _ HE.out | exact HC.out _ HE.out.drew) (fun hHeld => ?_)
    refine hT 0 28 hHeld ?_
    refine hT 1 29 hHeld ?_
    refine hT 2 30 hHeld ?_
    refine hT 3 31 hHeld ?_
    refine hT 4 32 hHeld ?_
    refine hT 5 33 hHeld ?_
    refine za8 (i := 6) rfl (by kernel_rfl) (by rfl) (fun K hK => ?_)
    clear hHeld
    simp only [q1, q2, q3]
    go_simp
    refine (zbb _ p.1 q.1 p.2 q.2 n (by omega) h1n (HXE.out _ (by with_reducible first | exact HE.out.o.2.1 | exact HE.out.drew.o.2.1)) (HQE.out _ (by with_reducible first | exact HE.out.o.1 | exact HE.out.drew.o.1))).mono ?_
    rintro e w2 ⟨rfl, hb⟩
    rw [HM1.out]
    replace HE := znd (Env.call (by with_reducible first | exact HE.out | exact HE.out.drew) hb)
    clear hb
    (try (go_wp2_with fail))
    refine hK.out _ _ (by first | exact HC.out _ HE.out | exact HC.out _ HE.out.drew) (fun hHeld => ?_)
    clear hK K
    try simp only [p1, p2, p3, p4]
    refine hT 7 35 hHeld ?_
    refine hT 8 36 hHeld ?_
    refine za2 (i := 9) (v := undef) (some 37) rfl rfl (by kernel_rfl) (by kernel_rfl) (by kernel_rfl) (fun _ _ _ h => h) (Or.inr ⟨by rfl, rfl⟩) hHeld ?_
    try simp only [p1, p2, p3, p4]
    refine za2 (i := 10) (v := undef) (some 38) rfl rfl (by kernel_rfl) (by kernel_rfl) (by kernel_rfl) (fun _ _ _ h => h) (Or.inr ⟨by rfl, rfl⟩) hHeld ?_
    try simp only [p1, p2, p3, p4]
    refine za2 (i := 11) (v := undef) (some 39) rfl rfl (by kernel_rfl) (by kernel_rfl) (by kernel_rfl) (fun _ _ _ h => h) (Or.inr ⟨by rfl, rfl⟩) hHeld ?_
    try simp only [p1, p2, p3, p4]
    refine za2 (i := 12) (v := undef) (some 40) rfl rfl (by kernel_rfl) (by kernel_rfl) (by kernel_rfl) (fun _ _ _ h => h) (Or.inr ⟨by rfl, rfl⟩) hHeld ?_
    try simp only [p1, p2, p3, p4]
    refine za2 (i := 13) (v := undef) (some 41) rfl rfl (by kernel_rfl) (by kernel_rfl) (by kernel_rfl) (fun _ _ _ h => h) (Or.inr ⟨by rfl, rfl⟩) hHeld ?_
    try simp only [p1, p2, p3, p4]
    refine za2 (i := 14) (v := undef) (some 42) rfl rfl (by kernel_rfl) (by kernel_rfl) (by kernel_rfl) (fun _ _ _ h => h) (Or.inr ⟨by rfl, rfl⟩) hHeld ?_
    try simp only [p1, p2, p3, p4]
    refine zf1 (i := 15) (some 43) rfl rfl (by kernel_rfl) (by rfl) hHeld ?_
    try simp only [p1, p2, p3, p4]
    refine za2 (i := 16) (v := undef) (some 44) rfl rfl (by kernel_rfl) (by kernel_rfl) (by kernel_rfl) (fun _ _ _ h => h) (Or.inr ⟨by rfl, rfl⟩) hHeld ?_
    try simp only [p1, p2, p3, p4]
    refine hT 17 45 hHeld ?_
    refine wpAnyH_done (by kernel_rfl) ?_ _
    refine NoPanic.normal ?_
    go_wp2_with fail
    first
     | exact bodyPost_ret (v := .bool false) (by simp [results, Tryz.results22, go_sem]) rfl ⟨za7 false ⟨fun h9 => absurd h9 (by decide), fun h9 => absurd h9 HR9.out⟩, HE.out.bel⟩
     | exact bodyPost_ret (v := .bool false) (by simp [results, Tryz.results22, go_sem]) rfl ⟨za7 false ⟨fun h9 => absurd h9 (by decide), fun h9 => absurd h9 HR9.out⟩, HE.out.drew.bel⟩
   ·have HNLo := znd hlo
    have hC0 : ∃ C : Int, cmpQ p.2 q.2 = C ∧ (C = 0 ∨ C = 1) := ⟨_, rfl, zlO hlo⟩
    obtain ⟨C, hC1, hC2⟩ := hC0
    rcases hC2 with rfl | rfl
    all_goals
     have HCC := znd hC1
     clear hC1 hlo
     go_region_held3 (fun W => CB gv #[.bool p.1.num.neg, .slice p.1.num.A p.1.num.k p.1.num.c, .bool p.1.den.neg, .slice p.1.den.A p.1.den.k p.1.den.c] W ∧ CB (w.heap.size) #[.int .i64 f.M, .slice f.Ac f.cols.length f.cc, .slice f.Al f.lo.length f.cl, .slice f.Ah f.hi.length f.ch, .slice f.Ak f.cost.length f.ck, .slice f.Ab f.b.length f.cb] W ∧ RC f.Al j q W ∧ RC f.Ah j r W) (first | with_reducible exact c | with_reducible exact HC.out _ HE.out.drew | ((repeat' apply And.intro) <;> go_keep))
      (first
       | (go_at_call_of 53 (#[.agg #[.bool p.1.num.neg, .slice p.1.num.A p.1.num.k p.1.num.c, .bool p.1.den.neg, .slice p.1.den.A p.1.den.k p.1.den.c], .agg #[.bool q.1.num.neg, .slice q.1.num.A q.1.num.k q.1.num.c, .bool q.1.den.neg, .slice q.1.den.A q.1.den.k q.1.den.c]] : Array Value); go_must (refine (zbb _ p.1 q.1 p.2 q.2 n (by omega) h1n (HXE.out _ (by with_reducible first | exact HE.out.o.2.1 | exact HE.out.drew.o.2.1)) (HQE.out _ (by with_reducible first | exact HE.out.o.1 | exact HE.out.drew.o.1))).mono ?_; rintro e w2 ⟨rfl, hb⟩; rw [HCC.out]; replace HE := znd (Env.call (by with_reducible first | exact HE.out | exact HE.out.drew) hb); replace c := HC.out _ HE.out; clear hb))
       | (go_at_call_of 53 (#[.agg #[.bool p.1.num.neg, .slice p.1.num.A p.1.num.k p.1.num.c, .bool p.1.den.neg, .slice p.1.den.A p.1.den.k p.1.den.c], .agg #[.bool r.1.num.neg, .slice r.1.num.A r.1.num.k r.1.num.c, .bool r.1.den.neg, .slice r.1.den.A r.1.den.k r.1.den.c]] : Array Value); go_must (refine (zbb _ p.1 r.1 p.2 r.2 n (by omega) h1n (HXE.out _ (by with_reducible first | exact HE.out.o.2.1 | exact HE.out.drew.o.2.1)) (HRE.out _ (by with_reducible first | exact HE.out.o.1 | exact HE.out.drew.o.1))).mono ?_; rintro e w2 ⟨rfl, hb⟩; replace HE := znd (Env.call (by with_reducible first | exact HE.out | exact HE.out.drew) hb); replace c := HC.out _ HE.out; clear hb)))
     all_goals
     by_cases hhi : 0 < cmpQ p.2 r.2
     ·have HR9 := znd (show ¬ FeasP f xs w from fun h => by have := HHI.out h; omega)
      go_wp2_with fail
      first
       | exact bodyPost_ret (v := .bool false) (by simp [results, Tryz.results22, go_sem]) rfl ⟨za7 false ⟨fun h9 => absurd h9 (by decide), fun h9 => absurd h9 HR9.out⟩, HE.out.bel⟩
       | exact bodyPost_ret (v := .bool false) (by simp [results, Tryz.results22, go_sem]) rfl ⟨za7 false ⟨fun h9 => absurd h9 (by decide), fun h9 => absurd h9 HR9.out⟩, HE.out.drew.bel⟩
     ·have HNH := znd hhi
      clear c
      replace HE := znd (show (Env w [⟨g5, 25, #[.slice As ss.length cs]⟩, ⟨w.heap.size + 1, 30, #[.slice Ax xs.length cx]⟩, ⟨w.heap.size, 32, #[.int .i64 f.M, .slice f.Ac f.cols.length f.cc, .slice f.Al f.lo.length f.cl, .slice f.Ah f.hi.length f.ch, .slice f.Ak f.cost.length f.ck, .slice f.Ab f.b.length f.cb]⟩] (fun V => FoD n f V ∧ LsR 4 za0 (roD n) Ax xs V ∧ Tz V) (fun V => LsR 5 tecells teN As ss V) _) from (by with_reducible first | exact HE.out.drop | exact HE.out.drew.drop))
      have c := Env.c3 HE.out
      go_wp2_with fail
      have hNJ : 1 + j * (2 * n + 2) ≤ 49000000000 := by have := Nat.mul_le_mul (show j ≤ 12 by omega) (show 2 * n + 2 ≤ 2000000002 by omega); omega
      refine (zje _ (1 + j * (2 * n + 2)) n hNJ hn (by omega) h1n f g5 (w.heap.size + 1) (w.heap.size) As Ax cs cx ss xs (HE.out.bx ⟨g5, 25, #[.slice As ss.length cs]⟩ (by simp)) (HE.out.bx ⟨w.heap.size + 1, 30, #[.slice Ax xs.length cx]⟩ (by simp)) (HE.out.bx ⟨w.heap.size, 32, #[.int .i64 f.M, .slice f.Ac f.cols.length f.cc, .slice f.Al f.lo.length f.cl, .slice f.Ah f.hi.length f.ch, .slice f.Ak f.cost.length f.ck, .slice f.Ab f.b.length f.cb]⟩ (by simp)) HE.out.o.1 HE.out.o.2.1 (HE.out.n.imp fun t ht hn => RatN.rat hn (HF.out.sz t ht)) HF.out.rise (by have := HF.out.len Hs.out.M; omega) j hlt hjx (HR.out.col j hlt).rise (by have := Hs.out.col _ (List.getElem_mem hlt); omega) HE.out.o.2.2).mono ?_
      rintro e w3 ⟨W1, A, c2, us, rfl, rfl, h1, h2, -, h3, hk, hb⟩
      have HF2 := znd (HNX.out us h1 h2 (by rw [Hp.out]; exact h3) (by have := HNLo.out; omega) (by have := HNH.out; omega))
      replace HE := znd (show (Env w [⟨g5, 25, #[.slice A us.length c2]⟩, ⟨w.heap.size + 1, 30, #[.slice Ax xs.length cx]⟩, ⟨w.heap.size, 32, #[.int .i64 f.M, .slice f.Ac f.cols.length f.cc, .slice f.Al f.lo.length f.cl, .slice f.Ah f.hi.length f.ch, .slice f.Ak f.cost.length f.ck, .slice f.Ab f.b.length f.cb]⟩] (fun V => FoD n f V ∧ LsR 4 za0 (roD n) Ax xs V ∧ Tz V) (fun V => LsR 5 tecells teN A us V) _) from (((Env.ret HE.out hk hb).put 0 (.slice A us.length c2)).imp (fun _ h => h) (fun _ h => h.1)))
      clear h1 h2 h3 hk hb c
      go_wp2_with fail
      go_roundw
      case rel => exact ⟨j + 1, A, c2, us, by go_num, by omega, HF2, HE⟩
      case measure => (simp [intOf] <;> omega)
  ·obtain rfl : j = f.cols.length := by omega
   have c := Env.c3 HE.out
   have hnu : ¬ f.cols.length < xs.length := by rw [HL.out]; omega
   have hNJ : n + (1 + f.cols.length * (2 * n + 2)) ≤ 100000000000 := by have := Nat.mul_le_mul (show f.cols.length ≤ 12 by omega) (show 2 * n + 2 ≤ 2000000002 by omega); omega
   go_upto_region 12 with fail
   go_region_held3 (fun W => CB g5 #[.slice As ss.length cs] W ∧ CB (w.heap.size) #[.int .i64 f.M, .slice f.Ac f.cols.length f.cc, .slice f.Al f.lo.length f.cl, .slice f.Ah f.hi.length f.ch, .slice f.Ak f.cost.length f.ck, .slice f.Ab f.b.length f.cb] W) (first | with_reducible exact And.intro c.1 c.2.2 | with_reducible exact And.intro (Env.c3 HE.out.drew).1 (Env.c3 HE.out.drew).2.2 | ((repeat' apply And.intro) <;> go_keep))
    (first
     | (go_at_call 35; go_must (refine (zdY _ n (by omega) h1n f.Ab f.cb f.b (HFB.out _ (by with_reducible first | exact HE.out.o.1 | exact HE.out.drew.o.1)) Hs.out.b (by with_reducible first | exact HE.out.o.2.2 | exact HE.out.drew.o.2.2)).mono ?_; rintro e w2 ⟨Aq, cq, qs, rfl, hcq, hqs, hk, hb⟩; replace HE := znd (Env.ret (by with_reducible first | exact HE.out | exact HE.out.drew) hk hb); replace c := Env.c3 HE.out; have Hqs := znd (show qs.map plq = vecL f.b from hqs); clear hk hb hqs hcq))
     | (go_at_call 60; go_must (refine (zkf _ (n + (1 + f.cols.length * (2 * n + 2))) (by omega) (by omega) As Aq cs cq ss qs ((show ∀ V, LsR 5 tecells teN As ss V → LsR 5 tecells (teD (n + (1 + f.cols.length * (2 * n + 2)))) As ss V from fun V h => h.imp fun t ht hn => RatN.rat hn ((HF.out.sz t ht).up (by omega))) _ (by with_reducible first | exact HE.out.n.2 | exact HE.out.drew.n.2)) ((show ∀ V, LsR 5 tecells teN Aq qs V → LsR 5 tecells (teD (n + (1 + f.cols.length * (2 * n + 2)))) Aq qs V from fun V h => h.imp fun t ht hn => RatN.rat hn ((zfQ Hqs.out Hsb.out t ht).up (by omega))) _ (by with_reducible first | exact HE.out.n.1 | exact HE.out.drew.n.1)) HF.out.rise (zfT Hqs.out) (by have := HF.out.len Hs.out.M; omega) (by have := zgG Hqs.out; have := Hs.out.b; omega) (by with_reducible first | exact HE.out.o.2.2 | exact HE.out.drew.o.2.2)).mono ?_; rintro e w3 ⟨⟨B, rfl, hB⟩, hb⟩; replace HE := znd (Env.call (by with_reducible first | exact HE.out | exact HE.out.drew) hb); replace c := Env.c3 HE.out; have HB := znd (hB.trans (FI.done HF.out HR.out HL.out Hqs.out)); clear hb hB)))
   all_goals
    go_wp2_with fail
    first
     | exact bodyPost_ret (v := .bool B) (by simp [results, Tryz.results22, go_sem]) rfl ⟨za7 B HB.out, HE.out.bel⟩
     | exact bodyPost_ret (v := .bool B) (by simp [results, Tryz.results22, go_sem]) rfl ⟨za7 B HB.out, HE.out.drew.bel⟩
theorem zgN (w : World) (n : Nat) (hn : n ≤ 1000000000) (h1n : 1 ≤ n) (f : FoV) (h : FoD n f w) (hs : FSmall f) (Ax : Option Addr) (cx : Nat) (xs : List (RV × Rat)) (hx : LsR 4 za0 (roD n) Ax xs w) (hT : Tz w) :
 Calls Tryz.prog 22 #[fA f, .slice Ax xs.length cx] w fun e w' => zaR (FeasP f xs w) e ∧ Below w.heap.size w w' := by
 by_cases hR : FRight f w
 ·by_cases hl : xs.length = f.cols.length
  ·exact zlN w n hn h1n f h hs Ax cx xs hx hT hR hl
  ·exact zkJ w n hn h1n f h hs Ax cx xs hx hT hR hl
 ·exact zm3 w n hn h1n f h hs Ax cx xs hx hT hR
end Go.Proofs.YtfdmajmhmligpaaGreatDoor
