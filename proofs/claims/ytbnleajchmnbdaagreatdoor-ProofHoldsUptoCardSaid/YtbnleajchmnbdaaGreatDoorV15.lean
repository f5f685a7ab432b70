/-
 proof.bound. proof.Bound. proof.Refutes.
-/
import Derived.Test.YtbnleajchmnbdaaGreatDoorV12
namespace Go.Proofs.YtbnleajchmnbdaaGreatDoor
set_option maxHeartbeats 2000000
open Go.RowKit

instance : Inhabited VeV := ⟨⟨none, 0, []⟩⟩
def lstQ (c D lo hi : Rat) : Rat := if 0 ≤ (c - D).num.sign then (c - D) * lo else (c - D) * hi
def bndQ (f : FoV) (P : List (Int × Rat)) (s0 : Rat) (cq : Nat → Rat) : Nat → Rat
 | 0 => s0
 | k + 1 => bndQ f P s0 cq k + lstQ (cq k) (dotQ P ((f.cols[k]!).ts.map plq)) (f.lo[k]!).2 (f.hi[k]!).2
def vecL (ys : List (RV × Rat)) : List (Int × Rat) := ((ofT ys).map plq).filter nzP
theorem vecL_of {ys : List (RV × Rat)} {ps : List TeV} (h : ps.map plq = vecL ys) : Rise ps := rise_map h ((ofT_rise ys).map.filter _)
theorem vecL_len {ys : List (RV × Rat)} {ps : List TeV} (h : ps.map plq = vecL ys) : ps.length ≤ ys.length := by
 have h1 := congrArg List.length h
 rw [List.length_map] at h1
 have h2 := List.length_filter_le nzP ((ofT ys).map plq)
 rw [List.length_map, ofT_len] at h2
 unfold vecL at h1
 omega
theorem vecL_sz {ys : List (RV × Rat)} {ps : List TeV} {n : Nat} (h : ps.map plq = vecL ys) (hy : ∀ p ∈ ys, Sz p.2 n) : ∀ t ∈ ps, Sz t.q n := sz_map h fun p hp => by
 obtain ⟨t, ht, rfl⟩ := List.mem_map.1 (List.mem_filter.1 hp).1
 obtain ⟨x, hx, rfl⟩ := List.mem_map.1 ht
 obtain ⟨j, hj, e⟩ := List.mem_iff_getElem.1 hx
 have hj' : j < ys.length := by simpa using hj
 have e2 : x.1 = ys[j] := by rw [← e]; simp
 show Sz x.1.2 n
 rw [e2]
 exact hy _ (List.getElem_mem hj')
theorem lstQ_sz {c D lo hi : Rat} {n N : Nat} (hc : Sz c n) (hD : Sz D N) (hl : Sz lo n) (hh : Sz hi n) : Sz (lstQ c D lo hi) (2 * n + N + 2) := by
 have h1 := Sz.sub hc hD
 unfold lstQ
 split
 ·exact (Sz.mul h1 hl).up (by omega)
 ·exact (Sz.mul h1 hh).up (by omega)
theorem bndQ_sz {f : FoV} {P : List (Int × Rat)} {s0 : Rat} {cq : Nat → Rat} {n N : Nat} (h0 : Sz s0 N) : ∀ j, (∀ i, i < j → Sz (cq i) n ∧ Sz (dotQ P ((f.cols[i]!).ts.map plq)) N ∧ Sz (f.lo[i]!).2 n ∧ Sz (f.hi[i]!).2 n) → Sz (bndQ f P s0 cq j) (N + j * (2 * n + N + 3)) := by
 intro j
 induction j with
 | zero => intro _; exact h0.up (by omega)
 | succ j ih =>
  intro h
  have h1 := ih fun i hi => h i (by omega)
  obtain ⟨a, b, c, d⟩ := h j (by omega)
  have h2 := Sz.add h1 (lstQ_sz a b c d)
  refine h2.up ?_
  rw [Nat.add_mul]; omega
set_option maxRecDepth 100000 in
theorem bound_b (w : World) (n : Nat) (hn : n ≤ 1000) (h1n : 1 ≤ n) (f : FoV) (h : FoD n f w) (hs : FSmall f) (hR : FRight f w) (Ay : Option Addr) (cy : Nat) (ys : List (RV × Rat)) (hy : LsR 4 rtcells (roD n) Ay ys w) (hyl : ys.length ≤ 30) (hyc : ys.length ≤ cy) (g2 : Nat) (hg2 : Blk w g2 25 #[.int .i64 f.M, .slice f.Ac f.cols.length f.cc, .slice f.Al f.lo.length f.cl, .slice f.Ah f.hi.length f.ch, .slice f.Ak f.cost.length f.ck, .slice f.Ab f.b.length f.cb]) (hT : Tz w) :
 Calls Tryz.prog 26 #[fA f, .slice Ay ys.length cy, .func (.func 27) #[] #[.pointer (some ⟨g2, 0, none⟩)]] w (RetR (bndQ f (vecL (ys.take (min ys.length f.b.length))) (dotQ (vecL (ys.take (min ys.length f.b.length))) (vecL f.b)) (fun i => (f.cost[i]!).2) f.cols.length) w) := by
 have Hs := Lib.hid hs
 have HR := Lib.hid hR
 obtain ⟨K, hK⟩ : ∃ K, K = min ys.length f.b.length := ⟨_, rfl⟩
 have hM := hR.b
 have slb := h.b.sl
 have sly := hy.sl
 have hszr := size_rats
 have hszc := size_cols
 have hadd := adr_add
 have hmin : min (ys.length : Int) f.M = (K : Int) := by rw [hK]; omega
 have HM := Lib.hid hM
 have hKy : K ≤ ys.length := by omega
 have hKc : (K : Int) ≤ (cy : Int) := by omega
 have hK20 : K ≤ 20 := by have := hs.b; omega
 have HFB := Lib.hid (fun (V : World) (h : FoD n f V) => h.b)
 have Hsb := Lib.hid (show ∀ p ∈ f.b, Sz p.2 n from fun p hp => RatD.sz (h.b.ok p hp) h1n)
 have Hsy := Lib.hid (show ∀ p ∈ ys.take K, Sz p.2 n from fun p hp => RatD.sz (hy.ok p (List.mem_of_mem_take hp)) h1n)
 clear hM
 obtain ⟨W0, hW0⟩ : ∃ W0, W0 = (((w.alloc (.cells #[.int .i64 f.M, .slice f.Ac f.cols.length f.cc, .slice f.Al f.lo.length f.cl, .slice f.Ah f.hi.length f.ch, .slice f.Ak f.cost.length f.ck, .slice f.Ab f.b.length f.cb] 25)).alloc (.cells #[.func (.func 27) #[] #[.pointer (some ⟨g2, 0, none⟩)]] 66)).alloc (.cells #[.bool false, .slice none 0 0, .bool false, .slice none 0 0] 33)) := ⟨_, rfl⟩
 have HE := Lib.hid (Env.lay3 (Env.start ((h.old).and (((hy.old roD_old)).and ((hT.old).and (hg2.old))))) hW0)
 subst hW0
 have c := Env.c3 HE.out
 have dd := Env.d3 HE.out
 rw [← hK]
 clear h hs hR hy hT hK hg2
 unfold fA
 go_enter Tryz.func26, Tryz.ntmps26
 go_wp2_with fail
 refine (show Calls Tryz.prog 18 #[.slice Ay K cy] _ _ from by have h9 := of_any _ n (by omega) h1n Ay cy (ys.take K) (HE.out.o.2.1.take K) (by simp; omega) HE.out.o.2.2.1; rw [List.length_take, Nat.min_eq_left hKy] at h9; exact h9).mono ?_
 rintro e w1 ⟨Ap, cp, ps, rfl, hcp, hps, hk, hb⟩
 have Hps := Lib.hid (show ps.map plq = vecL (ys.take K) from hps)
 replace HE := Lib.hid (Env.ret HE.out hk hb)
 clear hk hb hps hcp c
 go_upto_region 2 with fail
 obtain ⟨W1, g7, hW1, hg7, HE⟩ := Env.al HE.out 40 #[.slice Ap ps.length cp]
 rw [hW1, hg7]
 clear hW1 hg7
 go_upto_region 3 with fail
 have HC1 := Lib.hid (fun (V : World) (new : World → Prop) (h : Hid (Env w [⟨g7, 40, #[.slice Ap ps.length cp]⟩, ⟨w.heap.size + 1 + 1, 33, #[.bool false, .slice none 0 0, .bool false, .slice none 0 0]⟩, ⟨w.heap.size + 1, 66, #[.func (.func 27) #[] #[.pointer (some ⟨g2, 0, none⟩)]]⟩, ⟨w.heap.size, 25, #[.int .i64 f.M, .slice f.Ac f.cols.length f.cc, .slice f.Al f.lo.length f.cl, .slice f.Ah f.hi.length f.ch, .slice f.Ak f.cost.length f.ck, .slice f.Ab f.b.length f.cb]⟩] (fun V => FoD n f V ∧ LsR 4 rtcells (roD n) Ay ys V ∧ Tz V ∧ Blk V g2 25 #[.int .i64 f.M, .slice f.Ac f.cols.length f.cc, .slice f.Al f.lo.length f.cl, .slice f.Ah f.hi.length f.ch, .slice f.Ak f.cost.length f.ck, .slice f.Ab f.b.length f.cb]) (fun V => new V) V)) => And.intro (Env.c4 h.out).1 (Env.c4 h.out).2.2.2)
 have HC2 := Lib.hid (fun (V : World) (cs : Array Value) (g : Nat) (new : World → Prop) (h : Hid (Env w [⟨g, 33, cs⟩, ⟨g7, 40, #[.slice Ap ps.length cp]⟩, ⟨w.heap.size + 1 + 1, 33, #[.bool false, .slice none 0 0, .bool false, .slice none 0 0]⟩, ⟨w.heap.size + 1, 66, #[.func (.func 27) #[] #[.pointer (some ⟨g2, 0, none⟩)]]⟩, ⟨w.heap.size, 25, #[.int .i64 f.M, .slice f.Ac f.cols.length f.cc, .slice f.Al f.lo.length f.cl, .slice f.Ah f.hi.length f.ch, .slice f.Ak f.cost.length f.ck, .slice f.Ab f.b.length f.cb]⟩] (fun V => FoD n f V ∧ LsR 4 rtcells (roD n) Ay ys V ∧ Tz V ∧ Blk V g2 25 #[.int .i64 f.M, .slice f.Ac f.cols.length f.cc, .slice f.Al f.lo.length f.cl, .slice f.Ah f.hi.length f.ch, .slice f.Ak f.cost.length f.ck, .slice f.Ab f.b.length f.cb]) new V)) => And.intro (Env.c5 h.out).2.1 (Env.c5 h.out).2.2.2.2)
 have HPD := Lib.hid (show ∀ V, LsR 5 tecells teN Ap ps V → LsR 5 tecells (teD n) Ap ps V from fun V h => h.imp fun t ht hn => RatN.rat hn (vecL_sz Hps.out Hsy.out t ht))
 go_cut [9] (fun v wx => ∃ g9 k, v = .pointer (some ⟨g9, 0, none⟩) ∧ Hid (Env w [⟨g9, 33, #[.bool k.num.neg, .slice k.num.A k.num.k k.num.c, .bool k.den.neg, .slice k.den.A k.den.k k.den.c]⟩, ⟨g7, 40, #[.slice Ap ps.length cp]⟩, ⟨w.heap.size + 1 + 1, 33, #[.bool false, .slice none 0 0, .bool false, .slice none 0 0]⟩, ⟨w.heap.size + 1, 66, #[.func (.func 27) #[] #[.pointer (some ⟨g2, 0, none⟩)]]⟩, ⟨w.heap.size, 25, #[.int .i64 f.M, .slice f.Ac f.cols.length f.cc, .slice f.Al f.lo.length f.cl, .slice f.Ah f.hi.length f.ch, .slice f.Ak f.cost.length f.ck, .slice f.Ab f.b.length f.cb]⟩] (fun V => FoD n f V ∧ LsR 4 rtcells (roD n) Ay ys V ∧ Tz V ∧ Blk V g2 25 #[.int .i64 f.M, .slice f.Ac f.cols.length f.cc, .slice f.Al f.lo.length f.cl, .slice f.Ah f.hi.length f.ch, .slice f.Ak f.cost.length f.ck, .slice f.Ab f.b.length f.cb]) (fun V => RatN k (dotQ (vecL (ys.take K)) (vecL f.b)) V ∧ LsR 5 tecells teN Ap ps V) wx))
 case first =>
  have c := HC1.out _ _ HE
  go_region_held3 (fun W => CB g7 #[.slice Ap ps.length cp] W ∧ CB (w.heap.size) #[.int .i64 f.M, .slice f.Ac f.cols.length f.cc, .slice f.Al f.lo.length f.cl, .slice f.Ah f.hi.length f.ch, .slice f.Ak f.cost.length f.ck, .slice f.Ab f.b.length f.cb] W) (first | with_reducible exact c | with_reducible exact HC1.out _ _ (Lib.hid HE.out) | with_reducible exact HC1.out _ _ (Lib.hid HE.out.drew) | with_reducible exact HC2.out _ _ _ _ (Lib.hid (HE.out.nn _ _)) | with_reducible exact HC2.out _ _ _ _ (Lib.hid (HE.out.nn _ _).drew) | with_reducible exact HC2.out _ _ _ _ (Lib.hid (HE.out.nd_ _ _)) | with_reducible exact HC2.out _ _ _ _ (Lib.hid (HE.out.put4 _ _ _ _)) | with_reducible exact HC2.out _ _ _ _ (Lib.hid (HE.out.drew.put4 _ _ _ _)) | ((repeat' apply And.intro) <;> go_keep))
   (first
    | (go_at_call 18; go_must (refine (of_any _ n (by omega) h1n f.Ab f.cb f.b (HFB.out _ (by with_reducible first | exact HE.out.o.1 | exact HE.out.drew.o.1 | exact (HE.out.nn _ _).o.1 | exact (HE.out.nd_ _ _).o.1 | exact (HE.out.nn _ _).drew.o.1)) Hs.out.b (by with_reducible first | exact HE.out.o.2.2.1 | exact HE.out.drew.o.2.2.1 | exact (HE.out.nn _ _).o.2.2.1 | exact (HE.out.nd_ _ _).o.2.2.1 | exact (HE.out.nn _ _).drew.o.2.2.1)).mono ?_; rintro e w2 ⟨Aq, cq, qs, rfl, hcq, hqs, hk, hb⟩; (first | (with_reducible (replace HE := Lib.hid (Env.ret HE.out hk hb))) | (with_reducible (replace HE := Lib.hid (Env.ret HE.out.drew hk hb))) | (with_reducible (replace HE := Lib.hid (Env.ret (HE.out.nn 33 #[.bool false, .slice none 0 0, .bool false, .slice none 0 0]) hk hb))) | (with_reducible (replace HE := Lib.hid (Env.ret (HE.out.nd_ 33 #[.bool false, .slice none 0 0, .bool false, .slice none 0 0]) hk hb))) | (with_reducible (replace HE := Lib.hid (Env.ret (HE.out.nn 33 #[.bool false, .slice none 0 0, .bool false, .slice none 0 0]).drew hk hb)))); (first | (replace c := HC1.out _ _ HE) | (replace c := HC2.out _ _ _ _ HE)); (first | (have cb := Env.c5 HE.out) | (have cb := Env.c4 HE.out)); have Hqs := Lib.hid (show qs.map plq = vecL f.b from hqs); clear hk hb hqs hcq))
    | (go_at_call 17; go_must (refine (dot_rise _ n (by omega) h1n Ap Aq cp cq ps qs (HPD.out _ (by with_reducible first | exact HE.out.n.2.1 | exact HE.out.drew.n.2.1 | exact (HE.out.nn _ _).n.2.1 | exact (HE.out.nd_ _ _).n.2.1 | exact (HE.out.nn _ _).drew.n.2.1)) ((show ∀ V, LsR 5 tecells teN Aq qs V → LsR 5 tecells (teD n) Aq qs V from fun V h => h.imp fun t ht hn => RatN.rat hn (vecL_sz Hqs.out Hsb.out t ht)) _ (by with_reducible first | exact HE.out.n.1 | exact HE.out.drew.n.1 | exact (HE.out.nn _ _).n.1 | exact (HE.out.nd_ _ _).n.1 | exact (HE.out.nn _ _).drew.n.1)) (vecL_of Hps.out) (vecL_of Hqs.out) (by have := vecL_len Hps.out; simp at this; omega) (by have := vecL_len Hqs.out; have := Hs.out.b; omega) (by with_reducible first | exact HE.out.o.2.2.1 | exact HE.out.drew.o.2.2.1 | exact (HE.out.nn _ _).o.2.2.1 | exact (HE.out.nd_ _ _).o.2.2.1 | exact (HE.out.nn _ _).drew.o.2.2.1)).mono ?_; rintro e w3 ⟨kd, rfl, hk, hb⟩; rw [Hps.out, Hqs.out] at hk; (first | (with_reducible (replace HE := Lib.hid (Env.ret HE.out hk hb))) | (with_reducible (replace HE := Lib.hid (Env.ret HE.out.drew hk hb))) | (with_reducible (replace HE := Lib.hid (Env.ret (HE.out.nn 33 #[.bool false, .slice none 0 0, .bool false, .slice none 0 0]) hk hb))) | (with_reducible (replace HE := Lib.hid (Env.ret (HE.out.nd_ 33 #[.bool false, .slice none 0 0, .bool false, .slice none 0 0]) hk hb))) | (with_reducible (replace HE := Lib.hid (Env.ret (HE.out.nn 33 #[.bool false, .slice none 0 0, .bool false, .slice none 0 0]).drew hk hb)))); (first | (replace c := HC1.out _ _ HE) | (replace c := HC2.out _ _ _ _ HE)); (first | (have cb := Env.c5 HE.out) | (have cb := Env.c4 HE.out)); clear hk hb)))
  all_goals
   go_wp2_with fail
   go_meet
   first
    | with_reducible exact ⟨_, kd, rfl, Lib.hid ((HE.out.put4 _ _ _ _).imp (fun _ h => h) (fun _ h => ⟨h.1, h.2.2.1⟩))⟩
    | with_reducible exact ⟨_, kd, rfl, Lib.hid ((HE.out.drew.put4 _ _ _ _).imp (fun _ h => h) (fun _ h => ⟨h.1, h.2.2.1⟩))⟩
    | with_reducible exact ⟨_, kd, rfl, Lib.hid ((HE.out.nn _ _).imp (fun _ h => h) (fun _ h => ⟨h.1, h.2.2.1⟩))⟩
    | with_reducible exact ⟨_, kd, rfl, Lib.hid ((HE.out.nn _ _).drew.imp (fun _ h => h) (fun _ h => ⟨h.1, h.2.2.1⟩))⟩
    | with_reducible exact ⟨_, kd, rfl, Lib.hid ((HE.out.nd_ _ _).imp (fun _ h => h) (fun _ h => ⟨h.1, h.2.2.1⟩))⟩
 case rest =>
  clear HE
  obtain ⟨g9, k, rfl, HE⟩ := hcut
  have c := Env.c5 HE.out
  obtain ⟨N, hN⟩ : ∃ N, N = 1 + 20 * (2 * n + 2) := ⟨_, rfl⟩
  obtain ⟨T, hT⟩ : ∃ T, T = N + 12 * (2 * n + N + 3) := ⟨_, rfl⟩
  have hTb : T ≤ 10000000 := by omega
  have hT1 : 1 ≤ T := by omega
  have HN := Lib.hid hN
  have HTT := Lib.hid hT
  clear hN hT
  have HSA := Lib.hid (show ∀ i, i < f.cols.length → Sz ((fun i => (f.cost[i]!).2) i) n ∧ Sz (dotQ (vecL (ys.take K)) ((f.cols[i]!).ts.map plq)) N ∧ Sz (f.lo[i]!).2 n ∧ Sz (f.hi[i]!).2 n from fun i hi => by
   have hil : i < f.lo.length := by rw [HR.out.lo]; exact hi
   have hih : i < f.hi.length := by rw [HR.out.hi]; exact hi
   have hik : i < f.cost.length := by rw [HR.out.cost]; exact hi
   rw [getElem!_pos f.cols i hi, getElem!_pos f.lo i hil, getElem!_pos f.hi i hih]
   refine ⟨by show Sz (f.cost[i]!).2 n; rw [getElem!_pos f.cost i hik]; exact RatD.sz (HE.out.o.1.cost.ok _ (List.getElem_mem hik)) h1n, ?_, RatD.sz (HE.out.o.1.lo.ok _ (List.getElem_mem hil)) h1n, RatD.sz (HE.out.o.1.hi.ok _ (List.getElem_mem hih)) h1n⟩
   rw [← Hps.out, HN.out]
   refine (dotQ_sz (HR.out.col i hi).rise h1n (fun u hu => RatD.sz ((HE.out.o.1.cols.ok _ (List.getElem_mem hi)).ok u hu) h1n) ps (vecL_sz Hps.out Hsy.out)).up ?_
   have h9 := vecL_len Hps.out
   have h10 := Nat.mul_le_mul_right (2 * n + 2) (show ps.length ≤ 20 by simp at h9; omega)
   omega)
  have HS0 := Lib.hid (show Sz (dotQ (vecL (ys.take K)) (vecL f.b)) N from by
   obtain ⟨qs, hqs⟩ : ∃ qs : List TeV, qs.map plq = vecL f.b := ⟨(ofT f.b).filter nzT, filter_plq _⟩
   rw [← Hps.out, ← hqs, HN.out]
   refine (dotQ_sz (vecL_of hqs) h1n (vecL_sz hqs Hsb.out) ps (vecL_sz Hps.out Hsy.out)).up ?_
   have h9 := vecL_len Hps.out
   have h10 := Nat.mul_le_mul_right (2 * n + 2) (show ps.length ≤ 20 by simp at h9; omega)
   omega)
  go_wp2_with fail
  go_loopw [28] (fun jv wr => ∃ (j : Nat) (k : RV), jv = .int .i64 (j : Int) ∧ j ≤ f.cols.length ∧ Hid (Env w [⟨g9, 33, #[.bool k.num.neg, .slice k.num.A k.num.k k.num.c, .bool k.den.neg, .slice k.den.A k.den.k k.den.c]⟩, ⟨g7, 40, #[.slice Ap ps.length cp]⟩, ⟨w.heap.size + 1 + 1, 33, #[.bool false, .slice none 0 0, .bool false, .slice none 0 0]⟩, ⟨w.heap.size + 1, 66, #[.func (.func 27) #[] #[.pointer (some ⟨g2, 0, none⟩)]]⟩, ⟨w.heap.size, 25, #[.int .i64 f.M, .slice f.Ac f.cols.length f.cc, .slice f.Al f.lo.length f.cl, .slice f.Ah f.hi.length f.ch, .slice f.Ak f.cost.length f.ck, .slice f.Ab f.b.length f.cb]⟩] (fun V => FoD n f V ∧ LsR 4 rtcells (roD n) Ay ys V ∧ Tz V ∧ Blk V g2 25 #[.int .i64 f.M, .slice f.Ac f.cols.length f.cc, .slice f.Al f.lo.length f.cl, .slice f.Ah f.hi.length f.ch, .slice f.Ak f.cost.length f.ck, .slice f.Ab f.b.length f.cb]) (fun V => RatN k (bndQ f (vecL (ys.take K)) (dotQ (vecL (ys.take K)) (vecL f.b)) (fun i => (f.cost[i]!).2) j) V ∧ LsR 5 tecells teN Ap ps V) wr)) (fun jv _ => f.cols.length - (intOf jv).toNat)
  case atStart => exact ⟨0, k, rfl, Nat.zero_le _, HE⟩
  case round =>
   clear HE c
   obtain ⟨j, k, rfl, hj, HE⟩ := hrel
   by_cases hlt : j < f.cols.length
   ·have hc12 := Hs.out.cols
    have hjlo : j < f.lo.length := by rw [HR.out.lo]; exact hlt
    have hjhi : j < f.hi.length := by rw [HR.out.hi]; exact hlt
    have hjk : j < f.cost.length := by rw [HR.out.cost]; exact hlt
    have HRj := Lib.hid (HR.out.col j hlt).rise
    have HLj := Lib.hid (show f.cols[j].ts.length ≤ 1000000 by have := Hs.out.col _ (List.getElem_mem hlt); omega)
    obtain ⟨L, hL⟩ : ∃ L, (if 0 ≤ (f.cost[j].2 - dotQ (ps.map plq) (f.cols[j].ts.map plq)).num.sign then (f.cost[j].2 - dotQ (ps.map plq) (f.cols[j].ts.map plq)) * f.lo[j].2 else (f.cost[j].2 - dotQ (ps.map plq) (f.cols[j].ts.map plq)) * f.hi[j].2) = L := ⟨_, rfl⟩
    have HL := Lib.hid hL
    have HNx := Lib.hid (show (bndQ f (vecL (ys.take K)) (dotQ (vecL (ys.take K)) (vecL f.b)) (fun i => (f.cost[i]!).2) (j + 1)) = (bndQ f (vecL (ys.take K)) (dotQ (vecL (ys.take K)) (vecL f.b)) (fun i => (f.cost[i]!).2) j) + L from by
     rw [← hL]
     show (bndQ f (vecL (ys.take K)) (dotQ (vecL (ys.take K)) (vecL f.b)) (fun i => (f.cost[i]!).2) j) + lstQ ((f.cost[j]!).2) _ _ _ = _
     rw [getElem!_pos f.cols j hlt, getElem!_pos f.lo j hjlo, getElem!_pos f.hi j hjhi, getElem!_pos f.cost j hjk, Hps.out]
     rfl)
    clear hL
    have HSj := Lib.hid (show Sz (bndQ f (vecL (ys.take K)) (dotQ (vecL (ys.take K)) (vecL f.b)) (fun i => (f.cost[i]!).2) j) T from (bndQ_sz HS0.out j (fun i hi => HSA.out i (by omega))).up (by
     have h9 := Nat.mul_le_mul_right (2 * n + N + 3) (show j ≤ 12 by have := Hs.out.cols; omega)
     rw [HTT.out]; omega))
    have HSl := Lib.hid (show Sz L T from by
     obtain ⟨a1, a2, a3, a4⟩ := HSA.out j hlt
     have h9 : Sz (lstQ ((f.cost[j]!).2) _ _ _) _ := lstQ_sz a1 a2 a3 a4
     rw [getElem!_pos f.cols j hlt, getElem!_pos f.lo j hjlo, getElem!_pos f.hi j hjhi, ← Hps.out, getElem!_pos f.cost j hjk] at h9
     rw [← HL.out]
     exact h9.up (by rw [HTT.out]; omega))
    go_upto_region 7 with fail
    have c := Env.c5 HE.out
    go_region_with (first
     | (go_at_call 57; go_must (refine (least_b _ n hn h1n f (by with_reducible first | exact HE.out.o.1 | exact HE.out.drew.o.1) (w.heap.size + 1) g7 (w.heap.size) g2 Ap cp ps (by first | exact HE.out.bx ⟨w.heap.size + 1, 66, #[.func (.func 27) #[] #[.pointer (some ⟨g2, 0, none⟩)]]⟩ (by simp) | exact HE.out.drew.bx ⟨w.heap.size + 1, 66, #[.func (.func 27) #[] #[.pointer (some ⟨g2, 0, none⟩)]]⟩ (by simp)) (by first | exact HE.out.bx ⟨g7, 40, #[.slice Ap ps.length cp]⟩ (by simp) | exact HE.out.drew.bx ⟨g7, 40, #[.slice Ap ps.length cp]⟩ (by simp)) (by first | exact HE.out.bx ⟨w.heap.size, 25, #[.int .i64 f.M, .slice f.Ac f.cols.length f.cc, .slice f.Al f.lo.length f.cl, .slice f.Ah f.hi.length f.ch, .slice f.Ak f.cost.length f.ck, .slice f.Ab f.b.length f.cb]⟩ (by simp) | exact HE.out.drew.bx ⟨w.heap.size, 25, #[.int .i64 f.M, .slice f.Ac f.cols.length f.cc, .slice f.Al f.lo.length f.cl, .slice f.Ah f.hi.length f.ch, .slice f.Ak f.cost.length f.ck, .slice f.Ab f.b.length f.cb]⟩ (by simp)) (by with_reducible first | exact HE.out.o.2.2.2 | exact HE.out.drew.o.2.2.2) (HPD.out _ (by with_reducible first | exact HE.out.n.2 | exact HE.out.drew.n.2)) (vecL_of Hps.out) (by have := vecL_len Hps.out; simp at this; omega) j hlt hjlo hjhi hjk HRj.out HLj.out (by with_reducible first | exact HE.out.o.2.2.1 | exact HE.out.drew.o.2.2.1)).mono ?_; rintro e w4 ⟨kl, rfl, hk, hb⟩; rw [HL.out] at hk; (first | (with_reducible (replace HE := Lib.hid (Env.ret HE.out hk hb))) | (with_reducible (replace HE := Lib.hid (Env.ret HE.out.drew hk hb)))); replace c := Env.c5 HE.out; clear hk hb))
     | (go_at_call 47; go_must (refine (radd_any _ k kl (bndQ f (vecL (ys.take K)) (dotQ (vecL (ys.take K)) (vecL f.b)) (fun i => (f.cost[i]!).2) j) L T (by omega) (by omega) (RatN.rat (by with_reducible first | exact HE.out.n.2.1 | exact HE.out.drew.n.2.1) HSj.out) (RatN.rat (by with_reducible first | exact HE.out.n.1 | exact HE.out.drew.n.1) HSl.out) (by with_reducible first | exact HE.out.o.2.2.1 | exact HE.out.drew.o.2.2.1)).mono ?_; rintro e w5 ⟨k2, rfl, hk, hb⟩; (first | (with_reducible (replace HE := Lib.hid (Env.ret HE.out hk hb))) | (with_reducible (replace HE := Lib.hid (Env.ret HE.out.drew hk hb)))); replace c := Env.c5 HE.out; clear hk hb)))
    all_goals
     go_wp2_with fail
     go_roundw
     case rel =>
      refine ⟨j + 1, k2, by go_num, by omega, ?_⟩
      rw [HNx.out]
      first
       | with_reducible exact Lib.hid ((HE.out.put4 _ _ _ _).imp (fun _ h => h) (fun _ h => ⟨h.1, h.2.2.2⟩))
       | with_reducible exact Lib.hid ((HE.out.drew.put4 _ _ _ _).imp (fun _ h => h) (fun _ h => ⟨h.1, h.2.2.2⟩))
     case measure => (simp [intOf] <;> omega)
   ·obtain rfl : j = f.cols.length := by omega
    have c := Env.c5 HE.out
    go_wp2_with fail
    exact bodyPost_ret (v := .agg #[.bool k.num.neg, .slice k.num.A k.num.k k.num.c, .bool k.den.neg, .slice k.den.A k.den.k k.den.c]) (by simp [results, Tryz.results26, go_sem, Env.c5 (HE.out.put4_2 (.bool k.num.neg) (.slice k.num.A k.num.k k.num.c) (.bool k.den.neg) (.slice k.den.A k.den.k k.den.c))]) rfl ((HE.out.put4_2 _ _ _ _).retR' rfl fun _ h => h.1)
set_option maxRecDepth 100000 in
theorem bound_r (w : World) (n : Nat) (hn : n ≤ 1000) (h1n : 1 ≤ n) (f : FoV) (h : FoD n f w) (hs : FSmall f) (hR : FRight f w) (Ay : Option Addr) (cy : Nat) (ys : List (RV × Rat)) (hy : LsR 4 rtcells (roD n) Ay ys w) (hyl : ys.length ≤ 30) (hyc : ys.length ≤ cy) (hT : Tz w) :
 Calls Tryz.prog 26 #[fA f, .slice Ay ys.length cy, .func (.func 31) #[] #[]] w (RetR (bndQ f (vecL (ys.take (min ys.length f.b.length))) (dotQ (vecL (ys.take (min ys.length f.b.length))) (vecL f.b)) (fun _ => (0 : Rat)) f.cols.length) w) := by
 have Hs := Lib.hid hs
 have HR := Lib.hid hR
 obtain ⟨K, hK⟩ : ∃ K, K = min ys.length f.b.length := ⟨_, rfl⟩
 have hM := hR.b
 have slb := h.b.sl
 have sly := hy.sl
 have hszr := size_rats
 have hszc := size_cols
 have hadd := adr_add
 have hmin : min (ys.length : Int) f.M = (K : Int) := by rw [hK]; omega
 have HM := Lib.hid hM
 have hKy : K ≤ ys.length := by omega
 have hKc : (K : Int) ≤ (cy : Int) := by omega
 have hK20 : K ≤ 20 := by have := hs.b; omega
 have HFB := Lib.hid (fun (V : World) (h : FoD n f V) => h.b)
 have Hsb := Lib.hid (show ∀ p ∈ f.b, Sz p.2 n from fun p hp => RatD.sz (h.b.ok p hp) h1n)
 have Hsy := Lib.hid (show ∀ p ∈ ys.take K, Sz p.2 n from fun p hp => RatD.sz (hy.ok p (List.mem_of_mem_take hp)) h1n)
 clear hM
 obtain ⟨W0, hW0⟩ : ∃ W0, W0 = (((w.alloc (.cells #[.int .i64 f.M, .slice f.Ac f.cols.length f.cc, .slice f.Al f.lo.length f.cl, .slice f.Ah f.hi.length f.ch, .slice f.Ak f.cost.length f.ck, .slice f.Ab f.b.length f.cb] 25)).alloc (.cells #[.func (.func 31) #[] #[]] 66)).alloc (.cells #[.bool false, .slice none 0 0, .bool false, .slice none 0 0] 33)) := ⟨_, rfl⟩
 have HE := Lib.hid (Env.lay3 (Env.start ((h.old).and (((hy.old roD_old)).and (hT.old)))) hW0)
 subst hW0
 have c := Env.c3 HE.out
 have dd := Env.d3 HE.out
 rw [← hK]
 clear h hs hR hy hT hK
 unfold fA
 go_enter Tryz.func26, Tryz.ntmps26
 go_wp2_with fail
 refine (show Calls Tryz.prog 18 #[.slice Ay K cy] _ _ from by have h9 := of_any _ n (by omega) h1n Ay cy (ys.take K) (HE.out.o.2.1.take K) (by simp; omega) HE.out.o.2.2; rw [List.length_take, Nat.min_eq_left hKy] at h9; exact h9).mono ?_
 rintro e w1 ⟨Ap, cp, ps, rfl, hcp, hps, hk, hb⟩
 have Hps := Lib.hid (show ps.map plq = vecL (ys.take K) from hps)
 replace HE := Lib.hid (Env.ret HE.out hk hb)
 clear hk hb hps hcp c
 go_upto_region 2 with fail
 obtain ⟨W1, g7, hW1, hg7, HE⟩ := Env.al HE.out 40 #[.slice Ap ps.length cp]
 rw [hW1, hg7]
 clear hW1 hg7
 go_upto_region 3 with fail
 have HC1 := Lib.hid (fun (V : World) (new : World → Prop) (h : Hid (Env w [⟨g7, 40, #[.slice Ap ps.length cp]⟩, ⟨w.heap.size + 1 + 1, 33, #[.bool false, .slice none 0 0, .bool false, .slice none 0 0]⟩, ⟨w.heap.size + 1, 66, #[.func (.func 31) #[] #[]]⟩, ⟨w.heap.size, 25, #[.int .i64 f.M, .slice f.Ac f.cols.length f.cc, .slice f.Al f.lo.length f.cl, .slice f.Ah f.hi.length f.ch, .slice f.Ak f.cost.length f.ck, .slice f.Ab f.b.length f.cb]⟩] (fun V => FoD n f V ∧ LsR 4 rtcells (roD n) Ay ys V ∧ Tz V) (fun V => new V) V)) => And.intro (Env.c4 h.out).1 (Env.c4 h.out).2.2.2)
 have HC2 := Lib.hid (fun (V : World) (cs : Array Value) (g : Nat) (new : World → Prop) (h : Hid (Env w [⟨g, 33, cs⟩, ⟨g7, 40, #[.slice Ap ps.length cp]⟩, ⟨w.heap.size + 1 + 1, 33, #[.bool false, .slice none 0 0, .bool false, .slice none 0 0]⟩, ⟨w.heap.size + 1, 66, #[.func (.func 31) #[] #[]]⟩, ⟨w.heap.size, 25, #[.int .i64 f.M, .slice f.Ac f.cols.length f.cc, .slice f.Al f.lo.length f.cl, .slice f.Ah f.hi.length f.ch, .slice f.Ak f.cost.length f.ck, .slice f.Ab f.b.length f.cb]⟩] (fun V => FoD n f V ∧ LsR 4 rtcells (roD n) Ay ys V ∧ Tz V) new V)) => And.intro (Env.c5 h.out).2.1 (Env.c5 h.out).2.2.2.2)
 have HPD := Lib.hid (show ∀ V, LsR 5 tecells teN Ap ps V → LsR 5 tecells (teD n) Ap ps V from fun V h => h.imp fun t ht hn => RatN.rat hn (vecL_sz Hps.out Hsy.out t ht))
 go_cut [9] (fun v wx => ∃ g9 k, v = .pointer (some ⟨g9, 0, none⟩) ∧ Hid (Env w [⟨g9, 33, #[.bool k.num.neg, .slice k.num.A k.num.k k.num.c, .bool k.den.neg, .slice k.den.A k.den.k k.den.c]⟩, ⟨g7, 40, #[.slice Ap ps.length cp]⟩, ⟨w.heap.size + 1 + 1, 33, #[.bool false, .slice none 0 0, .bool false, .slice none 0 0]⟩, ⟨w.heap.size + 1, 66, #[.func (.func 31) #[] #[]]⟩, ⟨w.heap.size, 25, #[.int .i64 f.M, .slice f.Ac f.cols.length f.cc, .slice f.Al f.lo.length f.cl, .slice f.Ah f.hi.length f.ch, .slice f.Ak f.cost.length f.ck, .slice f.Ab f.b.length f.cb]⟩] (fun V => FoD n f V ∧ LsR 4 rtcells (roD n) Ay ys V ∧ Tz V) (fun V => RatN k (dotQ (vecL (ys.take K)) (vecL f.b)) V ∧ LsR 5 tecells teN Ap ps V) wx))
 case first =>
  have c := HC1.out _ _ HE
  go_region_held3 (fun W => CB g7 #[.slice Ap ps.length cp] W ∧ CB (w.heap.size) #[.int .i64 f.M, .slice f.Ac f.cols.length f.cc, .slice f.Al f.lo.length f.cl, .slice f.Ah f.hi.length f.ch, .slice f.Ak f.cost.length f.ck, .slice f.Ab f.b.length f.cb] W) (first | with_reducible exact c | with_reducible exact HC1.out _ _ (Lib.hid HE.out) | with_reducible exact HC1.out _ _ (Lib.hid HE.out.drew) | with_reducible exact HC2.out _ _ _ _ (Lib.hid (HE.out.nn _ _)) | with_reducible exact HC2.out _ _ _ _ (Lib.hid (HE.out.nn _ _).drew) | with_reducible exact HC2.out _ _ _ _ (Lib.hid (HE.out.nd_ _ _)) | with_reducible exact HC2.out _ _ _ _ (Lib.hid (HE.out.put4 _ _ _ _)) | with_reducible exact HC2.out _ _ _ _ (Lib.hid (HE.out.drew.put4 _ _ _ _)) | ((repeat' apply And.intro) <;> go_keep))
   (first
    | (go_at_call 18; go_must (refine (of_any _ n (by omega) h1n f.Ab f.cb f.b (HFB.out _ (by with_reducible first | exact HE.out.o.1 | exact HE.out.drew.o.1 | exact (HE.out.nn _ _).o.1 | exact (HE.out.nd_ _ _).o.1 | exact (HE.out.nn _ _).drew.o.1)) Hs.out.b (by with_reducible first | exact HE.out.o.2.2 | exact HE.out.drew.o.2.2 | exact (HE.out.nn _ _).o.2.2 | exact (HE.out.nd_ _ _).o.2.2 | exact (HE.out.nn _ _).drew.o.2.2)).mono ?_; rintro e w2 ⟨Aq, cq, qs, rfl, hcq, hqs, hk, hb⟩; (first | (with_reducible (replace HE := Lib.hid (Env.ret HE.out hk hb))) | (with_reducible (replace HE := Lib.hid (Env.ret HE.out.drew hk hb))) | (with_reducible (replace HE := Lib.hid (Env.ret (HE.out.nn 33 #[.bool false, .slice none 0 0, .bool false, .slice none 0 0]) hk hb))) | (with_reducible (replace HE := Lib.hid (Env.ret (HE.out.nd_ 33 #[.bool false, .slice none 0 0, .bool false, .slice none 0 0]) hk hb))) | (with_reducible (replace HE := Lib.hid (Env.ret (HE.out.nn 33 #[.bool false, .slice none 0 0, .bool false, .slice none 0 0]).drew hk hb)))); (first | (replace c := HC1.out _ _ HE) | (replace c := HC2.out _ _ _ _ HE)); (first | (have cb := Env.c5 HE.out) | (have cb := Env.c4 HE.out)); have Hqs := Lib.hid (show qs.map plq = vecL f.b from hqs); clear hk hb hqs hcq))
    | (go_at_call 17; go_must (refine (dot_rise _ n (by omega) h1n Ap Aq cp cq ps qs (HPD.out _ (by with_reducible first | exact HE.out.n.2.1 | exact HE.out.drew.n.2.1 | exact (HE.out.nn _ _).n.2.1 | exact (HE.out.nd_ _ _).n.2.1 | exact (HE.out.nn _ _).drew.n.2.1)) ((show ∀ V, LsR 5 tecells teN Aq qs V → LsR 5 tecells (teD n) Aq qs V from fun V h => h.imp fun t ht hn => RatN.rat hn (vecL_sz Hqs.out Hsb.out t ht)) _ (by with_reducible first | exact HE.out.n.1 | exact HE.out.drew.n.1 | exact (HE.out.nn _ _).n.1 | exact (HE.out.nd_ _ _).n.1 | exact (HE.out.nn _ _).drew.n.1)) (vecL_of Hps.out) (vecL_of Hqs.out) (by have := vecL_len Hps.out; simp at this; omega) (by have := vecL_len Hqs.out; have := Hs.out.b; omega) (by with_reducible first | exact HE.out.o.2.2 | exact HE.out.drew.o.2.2 | exact (HE.out.nn _ _).o.2.2 | exact (HE.out.nd_ _ _).o.2.2 | exact (HE.out.nn _ _).drew.o.2.2)).mono ?_; rintro e w3 ⟨kd, rfl, hk, hb⟩; rw [Hps.out, Hqs.out] at hk; (first | (with_reducible (replace HE := Lib.hid (Env.ret HE.out hk hb))) | (with_reducible (replace HE := Lib.hid (Env.ret HE.out.drew hk hb))) | (with_reducible (replace HE := Lib.hid (Env.ret (HE.out.nn 33 #[.bool false, .slice none 0 0, .bool false, .slice none 0 0]) hk hb))) | (with_reducible (replace HE := Lib.hid (Env.ret (HE.out.nd_ 33 #[.bool false, .slice none 0 0, .bool false, .slice none 0 0]) hk hb))) | (with_reducible (replace HE := Lib.hid (Env.ret (HE.out.nn 33 #[.bool false, .slice none 0 0, .bool false, .slice none 0 0]).drew hk hb)))); (first | (replace c := HC1.out _ _ HE) | (replace c := HC2.out _ _ _ _ HE)); (first | (have cb := Env.c5 HE.out) | (have cb := Env.c4 HE.out)); clear hk hb)))
  all_goals
   go_wp2_with fail
   go_meet
   first
    | with_reducible exact ⟨_, kd, rfl, Lib.hid ((HE.out.put4 _ _ _ _).imp (fun _ h => h) (fun _ h => ⟨h.1, h.2.2.1⟩))⟩
    | with_reducible exact ⟨_, kd, rfl, Lib.hid ((HE.out.drew.put4 _ _ _ _).imp (fun _ h => h) (fun _ h => ⟨h.1, h.2.2.1⟩))⟩
    | with_reducible exact ⟨_, kd, rfl, Lib.hid ((HE.out.nn _ _).imp (fun _ h => h) (fun _ h => ⟨h.1, h.2.2.1⟩))⟩
    | with_reducible exact ⟨_, kd, rfl, Lib.hid ((HE.out.nn _ _).drew.imp (fun _ h => h) (fun _ h => ⟨h.1, h.2.2.1⟩))⟩
    | with_reducible exact ⟨_, kd, rfl, Lib.hid ((HE.out.nd_ _ _).imp (fun _ h => h) (fun _ h => ⟨h.1, h.2.2.1⟩))⟩
 case rest =>
  clear HE
  obtain ⟨g9, k, rfl, HE⟩ := hcut
  have c := Env.c5 HE.out
  obtain ⟨N, hN⟩ : ∃ N, N = 1 + 20 * (2 * n + 2) := ⟨_, rfl⟩
  obtain ⟨T, hT⟩ : ∃ T, T = N + 12 * (2 * n + N + 3) := ⟨_, rfl⟩
  have hTb : T ≤ 10000000 := by omega
  have hT1 : 1 ≤ T := by omega
  have HN := Lib.hid hN
  have HTT := Lib.hid hT
  clear hN hT
  have HSA := Lib.hid (show ∀ i, i < f.cols.length → Sz ((fun _ => (0 : Rat)) i) n ∧ Sz (dotQ (vecL (ys.take K)) ((f.cols[i]!).ts.map plq)) N ∧ Sz (f.lo[i]!).2 n ∧ Sz (f.hi[i]!).2 n from fun i hi => by
   have hil : i < f.lo.length := by rw [HR.out.lo]; exact hi
   have hih : i < f.hi.length := by rw [HR.out.hi]; exact hi
   have hik : i < f.cost.length := by rw [HR.out.cost]; exact hi
   rw [getElem!_pos f.cols i hi, getElem!_pos f.lo i hil, getElem!_pos f.hi i hih]
   refine ⟨sz_zero.up h1n, ?_, RatD.sz (HE.out.o.1.lo.ok _ (List.getElem_mem hil)) h1n, RatD.sz (HE.out.o.1.hi.ok _ (List.getElem_mem hih)) h1n⟩
   rw [← Hps.out, HN.out]
   refine (dotQ_sz (HR.out.col i hi).rise h1n (fun u hu => RatD.sz ((HE.out.o.1.cols.ok _ (List.getElem_mem hi)).ok u hu) h1n) ps (vecL_sz Hps.out Hsy.out)).up ?_
   have h9 := vecL_len Hps.out
   have h10 := Nat.mul_le_mul_right (2 * n + 2) (show ps.length ≤ 20 by simp at h9; omega)
   omega)
  have HS0 := Lib.hid (show Sz (dotQ (vecL (ys.take K)) (vecL f.b)) N from by
   obtain ⟨qs, hqs⟩ : ∃ qs : List TeV, qs.map plq = vecL f.b := ⟨(ofT f.b).filter nzT, filter_plq _⟩
   rw [← Hps.out, ← hqs, HN.out]
   refine (dotQ_sz (vecL_of hqs) h1n (vecL_sz hqs Hsb.out) ps (vecL_sz Hps.out Hsy.out)).up ?_
   have h9 := vecL_len Hps.out
   have h10 := Nat.mul_le_mul_right (2 * n + 2) (show ps.length ≤ 20 by simp at h9; omega)
   omega)
  go_wp2_with fail
  go_loopw [28] (fun jv wr => ∃ (j : Nat) (k : RV), jv = .int .i64 (j : Int) ∧ j ≤ f.cols.length ∧ Hid (Env w [⟨g9, 33, #[.bool k.num.neg, .slice k.num.A k.num.k k.num.c, .bool k.den.neg, .slice k.den.A k.den.k k.den.c]⟩, ⟨g7, 40, #[.slice Ap ps.length cp]⟩, ⟨w.heap.size + 1 + 1, 33, #[.bool false, .slice none 0 0, .bool false, .slice none 0 0]⟩, ⟨w.heap.size + 1, 66, #[.func (.func 31) #[] #[]]⟩, ⟨w.heap.size, 25, #[.int .i64 f.M, .slice f.Ac f.cols.length f.cc, .slice f.Al f.lo.length f.cl, .slice f.Ah f.hi.length f.ch, .slice f.Ak f.cost.length f.ck, .slice f.Ab f.b.length f.cb]⟩] (fun V => FoD n f V ∧ LsR 4 rtcells (roD n) Ay ys V ∧ Tz V) (fun V => RatN k (bndQ f (vecL (ys.take K)) (dotQ (vecL (ys.take K)) (vecL f.b)) (fun _ => (0 : Rat)) j) V ∧ LsR 5 tecells teN Ap ps V) wr)) (fun jv _ => f.cols.length - (intOf jv).toNat)
  case atStart => exact ⟨0, k, rfl, Nat.zero_le _, HE⟩
  case round =>
   clear HE c
   obtain ⟨j, k, rfl, hj, HE⟩ := hrel
   by_cases hlt : j < f.cols.length
   ·have hc12 := Hs.out.cols
    have hjlo : j < f.lo.length := by rw [HR.out.lo]; exact hlt
    have hjhi : j < f.hi.length := by rw [HR.out.hi]; exact hlt
    have HRj := Lib.hid (HR.out.col j hlt).rise
    have HLj := Lib.hid (show f.cols[j].ts.length ≤ 1000000 by have := Hs.out.col _ (List.getElem_mem hlt); omega)
    obtain ⟨L, hL⟩ : ∃ L, (if 0 ≤ ((0 : Rat) - dotQ (ps.map plq) (f.cols[j].ts.map plq)).num.sign then ((0 : Rat) - dotQ (ps.map plq) (f.cols[j].ts.map plq)) * f.lo[j].2 else ((0 : Rat) - dotQ (ps.map plq) (f.cols[j].ts.map plq)) * f.hi[j].2) = L := ⟨_, rfl⟩
    have HL := Lib.hid hL
    have HNx := Lib.hid (show (bndQ f (vecL (ys.take K)) (dotQ (vecL (ys.take K)) (vecL f.b)) (fun _ => (0 : Rat)) (j + 1)) = (bndQ f (vecL (ys.take K)) (dotQ (vecL (ys.take K)) (vecL f.b)) (fun _ => (0 : Rat)) j) + L from by
     rw [← hL]
     show (bndQ f (vecL (ys.take K)) (dotQ (vecL (ys.take K)) (vecL f.b)) (fun _ => (0 : Rat)) j) + lstQ 0 _ _ _ = _
     rw [getElem!_pos f.cols j hlt, getElem!_pos f.lo j hjlo, getElem!_pos f.hi j hjhi, Hps.out]
     rfl)
    clear hL
    have HSj := Lib.hid (show Sz (bndQ f (vecL (ys.take K)) (dotQ (vecL (ys.take K)) (vecL f.b)) (fun _ => (0 : Rat)) j) T from (bndQ_sz HS0.out j (fun i hi => HSA.out i (by omega))).up (by
     have h9 := Nat.mul_le_mul_right (2 * n + N + 3) (show j ≤ 12 by have := Hs.out.cols; omega)
     rw [HTT.out]; omega))
    have HSl := Lib.hid (show Sz L T from by
     obtain ⟨a1, a2, a3, a4⟩ := HSA.out j hlt
     have h9 : Sz (lstQ 0 _ _ _) _ := lstQ_sz a1 a2 a3 a4
     rw [getElem!_pos f.cols j hlt, getElem!_pos f.lo j hjlo, getElem!_pos f.hi j hjhi, ← Hps.out] at h9
     rw [← HL.out]
     exact h9.up (by rw [HTT.out]; omega))
    go_upto_region 7 with fail
    have c := Env.c5 HE.out
    go_region_with (first
     | (go_at_call 57; go_must (refine (least_r _ n hn h1n f (by with_reducible first | exact HE.out.o.1 | exact HE.out.drew.o.1) (w.heap.size + 1) g7 (w.heap.size) Ap cp ps (by first | exact HE.out.bx ⟨w.heap.size + 1, 66, #[.func (.func 31) #[] #[]]⟩ (by simp) | exact HE.out.drew.bx ⟨w.heap.size + 1, 66, #[.func (.func 31) #[] #[]]⟩ (by simp)) (by first | exact HE.out.bx ⟨g7, 40, #[.slice Ap ps.length cp]⟩ (by simp) | exact HE.out.drew.bx ⟨g7, 40, #[.slice Ap ps.length cp]⟩ (by simp)) (by first | exact HE.out.bx ⟨w.heap.size, 25, #[.int .i64 f.M, .slice f.Ac f.cols.length f.cc, .slice f.Al f.lo.length f.cl, .slice f.Ah f.hi.length f.ch, .slice f.Ak f.cost.length f.ck, .slice f.Ab f.b.length f.cb]⟩ (by simp) | exact HE.out.drew.bx ⟨w.heap.size, 25, #[.int .i64 f.M, .slice f.Ac f.cols.length f.cc, .slice f.Al f.lo.length f.cl, .slice f.Ah f.hi.length f.ch, .slice f.Ak f.cost.length f.ck, .slice f.Ab f.b.length f.cb]⟩ (by simp)) (HPD.out _ (by with_reducible first | exact HE.out.n.2 | exact HE.out.drew.n.2)) (vecL_of Hps.out) (by have := vecL_len Hps.out; simp at this; omega) j hlt hjlo hjhi HRj.out HLj.out (by with_reducible first | exact HE.out.o.2.2 | exact HE.out.drew.o.2.2)).mono ?_; rintro e w4 ⟨kl, rfl, hk, hb⟩; rw [HL.out] at hk; (first | (with_reducible (replace HE := Lib.hid (Env.ret HE.out hk hb))) | (with_reducible (replace HE := Lib.hid (Env.ret HE.out.drew hk hb)))); replace c := Env.c5 HE.out; clear hk hb))
     | (go_at_call 47; go_must (refine (radd_any _ k kl (bndQ f (vecL (ys.take K)) (dotQ (vecL (ys.take K)) (vecL f.b)) (fun _ => (0 : Rat)) j) L T (by omega) (by omega) (RatN.rat (by with_reducible first | exact HE.out.n.2.1 | exact HE.out.drew.n.2.1) HSj.out) (RatN.rat (by with_reducible first | exact HE.out.n.1 | exact HE.out.drew.n.1) HSl.out) (by with_reducible first | exact HE.out.o.2.2 | exact HE.out.drew.o.2.2)).mono ?_; rintro e w5 ⟨k2, rfl, hk, hb⟩; (first | (with_reducible (replace HE := Lib.hid (Env.ret HE.out hk hb))) | (with_reducible (replace HE := Lib.hid (Env.ret HE.out.drew hk hb)))); replace c := Env.c5 HE.out; clear hk hb)))
    all_goals
     go_wp2_with fail
     go_roundw
     case rel =>
      refine ⟨j + 1, k2, by go_num, by omega, ?_⟩
      rw [HNx.out]
      first
       | with_reducible exact Lib.hid ((HE.out.put4 _ _ _ _).imp (fun _ h => h) (fun _ h => ⟨h.1, h.2.2.2⟩))
       | with_reducible exact Lib.hid ((HE.out.drew.put4 _ _ _ _).imp (fun _ h => h) (fun _ h => ⟨h.1, h.2.2.2⟩))
     case measure => (simp [intOf] <;> omega)
   ·obtain rfl : j = f.cols.length := by omega
    have c := Env.c5 HE.out
    go_wp2_with fail
    exact bodyPost_ret (v := .agg #[.bool k.num.neg, .slice k.num.A k.num.k k.num.c, .bool k.den.neg, .slice k.den.A k.den.k k.den.c]) (by simp [results, Tryz.results26, go_sem, Env.c5 (HE.out.put4_2 (.bool k.num.neg) (.slice k.num.A k.num.k k.num.c) (.bool k.den.neg) (.slice k.den.A k.den.k k.den.c))]) rfl ((HE.out.put4_2 _ _ _ _).retR' rfl fun _ h => h.1)

theorem FRight.same {n : Nat} {f : FoV} {w W : World} (h : FoD n f w) (hb : Below w.heap.size w W) : FRight f W ↔ FRight f w := by
 constructor
 ·rintro ⟨h1, h2, h3, h4, h5, h6, h7⟩
  exact ⟨h1, h2, h3, h4, h5, fun j hj => (RightP.same (h.cols.ok _ (List.getElem_mem hj)) hb).1 (h6 j hj), h7⟩
 ·rintro ⟨h1, h2, h3, h4, h5, h6, h7⟩
  exact ⟨h1, h2, h3, h4, h5, fun j hj => (RightP.same (h.cols.ok _ (List.getElem_mem hj)) hb).2 (h6 j hj), h7⟩
set_option maxRecDepth 100000 in
theorem Bound_yes (w : World) (n : Nat) (hn : n ≤ 1000) (h1n : 1 ≤ n) (f : FoV) (h : FoD n f w) (hs : FSmall f) (Ay : Option Addr) (cy : Nat) (ys : List (RV × Rat)) (hy : LsR 4 rtcells (roD n) Ay ys w) (hyl : ys.length ≤ 30) (hyc : ys.length ≤ cy) (hT : Tz w) (hR : FRight f w) :
 Calls Tryz.prog 8 #[fA f, .slice Ay ys.length cy] w (RetR (bndQ f (vecL (ys.take (min ys.length f.b.length))) (dotQ (vecL (ys.take (min ys.length f.b.length))) (vecL f.b)) (fun i => (f.cost[i]!).2) f.cols.length) w) := by
 have Hs := Lib.hid hs
 have HR := Lib.hid hR
 have Hf := Lib.hid h
 obtain ⟨Q, hQ⟩ : ∃ Q, (bndQ f (vecL (ys.take (min ys.length f.b.length))) (dotQ (vecL (ys.take (min ys.length f.b.length))) (vecL f.b)) (fun i => (f.cost[i]!).2) f.cols.length) = Q := ⟨_, rfl⟩
 have HQ := Lib.hid hQ
 rw [hQ]
 have HE := Lib.hid (lyFZ f ((h.old).and (((hy.old roD_old)).and (hT.old))))
 have c := Env.c2 HE.out
 have dd := Env.d2 HE.out
 clear h hs hR hy hT hQ
 unfold fA
 go_enter Tryz.func8, Tryz.ntmps8
 go_wp2_with fail
 refine (pright_any _ n (by omega) h1n f HE.out.o.1 Hs.out HE.out.o.2.2).mono ?_
 rintro e w1 ⟨⟨z, rfl, hz⟩, hb⟩
 have hR1 := FRight.same Hf.out HE.out.bel
 replace HE := Lib.hid (Env.call HE.out hb)
 replace c := Env.c2 HE.out
 clear hb
 obtain ⟨rfl, -⟩ : z = 0 ∧ True := by
  rcases hz with ⟨h9, -⟩ | ⟨-, h9⟩
  ·exact ⟨h9, trivial⟩
  ·exact absurd (hR1.2 HR.out) h9
 clear hz hR1
 go_wp2_with fail
 refine (bound_b _ n hn h1n f HE.out.o.1 Hs.out ((FRight.same Hf.out HE.out.bel).2 HR.out) Ay cy ys HE.out.o.2.1 hyl hyc (w.heap.size) (HE.out.bx ⟨w.heap.size, 25, #[.int .i64 f.M, .slice f.Ac f.cols.length f.cc, .slice f.Al f.lo.length f.cl, .slice f.Ah f.hi.length f.ch, .slice f.Ak f.cost.length f.ck, .slice f.Ab f.b.length f.cb]⟩ (by simp)) HE.out.o.2.2).mono ?_
 rintro e w2 ⟨k, rfl, hk, hb⟩
 rw [HQ.out] at hk
 replace HE := Lib.hid (Env.ret HE.out hk hb)
 replace c := Env.c2 HE.out
 clear hk hb
 go_wp2_with fail
 exact bodyPost_ret (v := .agg #[.bool k.num.neg, .slice k.num.A k.num.k k.num.c, .bool k.den.neg, .slice k.den.A k.den.k k.den.c]) (by simp [results, Tryz.results8, go_sem, Env.c2 (HE.out.put4 (.bool k.num.neg) (.slice k.num.A k.num.k k.num.c) (.bool k.den.neg) (.slice k.den.A k.den.k k.den.c))]) rfl ((HE.out.put4 _ _ _ _).retR' rfl fun _ h => h.1)
def bndT (n : Nat) : Nat := (1 + 20 * (2 * n + 2)) + 12 * (2 * n + (1 + 20 * (2 * n + 2)) + 3)
theorem bndT_le {n : Nat} (hn : n ≤ 1000) : bndT n ≤ 10000000 := by unfold bndT; omega
theorem bndT_one (n : Nat) : 1 ≤ bndT n := by unfold bndT; omega
theorem bnd_sz {n : Nat} {f : FoV} {w : World} {Ay : Option Addr} {ys : List (RV × Rat)} {cq : Nat → Rat} (h1n : 1 ≤ n) (h : FoD n f w) (hs : FSmall f) (hR : FRight f w) (hy : LsR 4 rtcells (roD n) Ay ys w) {K : Nat} (hK : K ≤ 20) (hc : ∀ i, i < f.cols.length → Sz (cq i) n) :
 Sz (bndQ f (vecL (ys.take K)) (dotQ (vecL (ys.take K)) (vecL f.b)) cq f.cols.length) (bndT n) := by
 obtain ⟨ps, hps⟩ : ∃ ps : List TeV, ps.map plq = vecL (ys.take K) := ⟨(ofT (ys.take K)).filter nzT, filter_plq _⟩
 obtain ⟨qs, hqs⟩ : ∃ qs : List TeV, qs.map plq = vecL f.b := ⟨(ofT f.b).filter nzT, filter_plq _⟩
 have hsy : ∀ p ∈ ys.take K, Sz p.2 n := fun p hp => RatD.sz (hy.ok p (List.mem_of_mem_take hp)) h1n
 have hsb : ∀ p ∈ f.b, Sz p.2 n := fun p hp => RatD.sz (h.b.ok p hp) h1n
 have hlp : ps.length * (2 * n + 2) ≤ 20 * (2 * n + 2) := Nat.mul_le_mul_right _ (by have := vecL_len hps; simp at this; omega)
 have h0 : Sz (dotQ (vecL (ys.take K)) (vecL f.b)) (1 + 20 * (2 * n + 2)) := by
  rw [← hps, ← hqs]
  exact (dotQ_sz (vecL_of hqs) h1n (vecL_sz hqs hsb) ps (vecL_sz hps hsy)).up (by omega)
 refine (bndQ_sz (n := n) h0 f.cols.length fun i hi => ?_).up ?_
 ·have hil : i < f.lo.length := by rw [hR.lo]; exact hi
  have hih : i < f.hi.length := by rw [hR.hi]; exact hi
  rw [getElem!_pos f.cols i hi, getElem!_pos f.lo i hil, getElem!_pos f.hi i hih]
  refine ⟨hc i hi, ?_, RatD.sz (h.lo.ok _ (List.getElem_mem hil)) h1n, RatD.sz (h.hi.ok _ (List.getElem_mem hih)) h1n⟩
  rw [← hps]
  exact (dotQ_sz (hR.col i hi).rise h1n (fun u hu => RatD.sz ((h.cols.ok _ (List.getElem_mem hi)).ok u hu) h1n) ps (vecL_sz hps hsy)).up (by omega)
 ·unfold bndT
  have := Nat.mul_le_mul_right (2 * n + (1 + 20 * (2 * n + 2)) + 3) hs.cols
  omega
set_option maxRecDepth 100000 in
theorem refutes_yes (w : World) (n : Nat) (hn : n ≤ 1000) (h1n : 1 ≤ n) (f : FoV) (h : FoD n f w) (hs : FSmall f) (Ay : Option Addr) (cy : Nat) (ys : List (RV × Rat)) (hy : LsR 4 rtcells (roD n) Ay ys w) (hyl : ys.length ≤ 30) (hyc : ys.length ≤ cy) (hT : Tz w) (hR : FRight f w) :
 Calls Tryz.prog 10 #[fA f, .slice Ay ys.length cy] w fun e w' => BoolRes (FRight f w ∧ 0 < (bndQ f (vecL (ys.take (min ys.length f.b.length))) (dotQ (vecL (ys.take (min ys.length f.b.length))) (vecL f.b)) (fun _ => (0 : Rat)) f.cols.length).num.sign) e ∧ Below w.heap.size w w' := by
 have hsz := bnd_sz h1n h hs hR hy (K := min ys.length f.b.length) (by have := hs.b; omega) (cq := fun _ => (0 : Rat)) (fun _ _ => sz_zero.up h1n)
 have Hs := Lib.hid hs
 have HR := Lib.hid hR
 have Hf := Lib.hid h
 obtain ⟨Q, hQ⟩ : ∃ Q, (bndQ f (vecL (ys.take (min ys.length f.b.length))) (dotQ (vecL (ys.take (min ys.length f.b.length))) (vecL f.b)) (fun _ => (0 : Rat)) f.cols.length) = Q := ⟨_, rfl⟩
 have HQ := Lib.hid hQ
 rw [hQ] at hsz
 rw [hQ]
 have Hsz := Lib.hid hsz
 obtain ⟨B, hB⟩ : ∃ B : Bool, decide (0 < Q.num.sign) = B := ⟨_, rfl⟩
 have HB := Lib.hid hB
 have HE := Lib.hid (lyF f ((h.old).and (((hy.old roD_old)).and (hT.old))))
 have c := Env.c1 HE.out
 clear h hs hR hy hT hQ hsz hB
 unfold fA
 go_enter Tryz.func10, Tryz.ntmps10
 go_wp2_with fail
 refine (pright_any _ n (by omega) h1n f HE.out.o.1 Hs.out HE.out.o.2.2).mono ?_
 rintro e w1 ⟨⟨z, rfl, hz⟩, hb⟩
 have hR1 := FRight.same Hf.out HE.out.bel
 replace HE := Lib.hid (Env.call HE.out hb)
 replace c := Env.c1 HE.out
 clear hb
 obtain ⟨rfl, -⟩ : z = 0 ∧ True := by
  rcases hz with ⟨h9, -⟩ | ⟨-, h9⟩
  ·exact ⟨h9, trivial⟩
  ·exact absurd (hR1.2 HR.out) h9
 clear hz hR1
 go_wp2_with fail
 refine (bound_r _ n hn h1n f HE.out.o.1 Hs.out ((FRight.same Hf.out HE.out.bel).2 HR.out) Ay cy ys HE.out.o.2.1 hyl hyc HE.out.o.2.2).mono ?_
 rintro e w2 ⟨k, rfl, hk, hb⟩
 rw [HQ.out] at hk
 replace HE := Lib.hid (Env.ret HE.out hk hb)
 replace c := Env.c1 HE.out
 clear hk hb
 go_wp2_with fail
 refine (rsign_any _ k Q (bndT n) (by have := bndT_le hn; omega) (RatN.rat HE.out.n.1 Hsz.out)).mono ?_
 rintro e w3 ⟨rfl, hb⟩
 replace HE := Lib.hid (Env.call HE.out hb)
 replace c := Env.c1 HE.out
 clear hb
 go_wp2_with fail
 exact bodyPost_ret (v := .bool B) (by simp [results, Tryz.results10, go_sem, ← HB.out]) rfl ⟨boolRes_mk B ⟨fun h9 => ⟨HR.out, by have h8 := HB.out; rw [h9] at h8; exact of_decide_eq_true h8⟩, fun h9 => by rw [← HB.out]; exact decide_eq_true h9.2⟩, HE.out.bel⟩
set_option maxRecDepth 100000 in
theorem refutes_no (w : World) (n : Nat) (hn : n ≤ 1000) (h1n : 1 ≤ n) (f : FoV) (h : FoD n f w) (hs : FSmall f) (Ay : Option Addr) (cy : Nat) (ys : List (RV × Rat)) (hy : LsR 4 rtcells (roD n) Ay ys w) (_hyl : ys.length ≤ 30) (_hyc : ys.length ≤ cy) (hT : Tz w) (hR : ¬ FRight f w) :
 Calls Tryz.prog 10 #[fA f, .slice Ay ys.length cy] w fun e w' => BoolRes (FRight f w ∧ 0 < (bndQ f (vecL (ys.take (min ys.length f.b.length))) (dotQ (vecL (ys.take (min ys.length f.b.length))) (vecL f.b)) (fun _ => (0 : Rat)) f.cols.length).num.sign) e ∧ Below w.heap.size w w' := by
 have Hs := Lib.hid hs
 have HR := Lib.hid hR
 have Hf := Lib.hid h
 have HE := Lib.hid (lyF f ((h.old).and (((hy.old roD_old)).and (hT.old))))
 have c := Env.c1 HE.out
 clear h hs hR hy hT
 unfold fA
 go_enter Tryz.func10, Tryz.ntmps10
 go_wp2_with fail
 refine (pright_any _ n (by omega) h1n f HE.out.o.1 Hs.out HE.out.o.2.2).mono ?_
 rintro e w1 ⟨⟨z, rfl, hz⟩, hb⟩
 have hR1 := FRight.same Hf.out HE.out.bel
 replace HE := Lib.hid (Env.call HE.out hb)
 replace c := Env.c1 HE.out
 clear hb
 obtain ⟨rfl, -⟩ : z = 101 ∧ True := by
  rcases hz with ⟨-, h9⟩ | ⟨h9, -⟩
  ·exact absurd (hR1.1 h9) HR.out
  ·exact ⟨h9, trivial⟩
 clear hz hR1
 go_wp2_with fail
 exact bodyPost_ret (v := .bool false) (by simp [results, Tryz.results10, go_sem]) rfl ⟨boolRes_mk false ⟨fun h9 => absurd h9 (by decide), fun h9 => absurd h9.1 HR.out⟩, HE.out.bel⟩
theorem refutes_any (w : World) (n : Nat) (hn : n ≤ 1000) (h1n : 1 ≤ n) (f : FoV) (h : FoD n f w) (hs : FSmall f) (Ay : Option Addr) (cy : Nat) (ys : List (RV × Rat)) (hy : LsR 4 rtcells (roD n) Ay ys w) (hyl : ys.length ≤ 30) (hyc : ys.length ≤ cy) (hT : Tz w) :
 Calls Tryz.prog 10 #[fA f, .slice Ay ys.length cy] w fun e w' => BoolRes (FRight f w ∧ 0 < (bndQ f (vecL (ys.take (min ys.length f.b.length))) (dotQ (vecL (ys.take (min ys.length f.b.length))) (vecL f.b)) (fun _ => (0 : Rat)) f.cols.length).num.sign) e ∧ Below w.heap.size w w' := by
 by_cases hR : FRight f w
 ·exact refutes_yes w n hn h1n f h hs Ay cy ys hy hyl hyc hT hR
 ·exact refutes_no w n hn h1n f h hs Ay cy ys hy hyl hyc hT hR
end Go.Proofs.YtbnleajchmnbdaaGreatDoor
