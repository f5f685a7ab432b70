/-
 A drawn region whose last operation waits for all others: what all read need not hold behind it. tripwireref16.Reduced. tripwireref17.bound.
-/
import Derived.Test.YtbnleajchmnbdaaGreatDoorKG
import Derived.Test.YtbnleajchmnbdaaGreatDoorV15
namespace Go.Proofs.YtbnleajchmnbdaaGreatDoor
set_option maxHeartbeats 8000000
open Go.RowKit

section
variable {P : Program} {ops : Array Oper} {Q : Exit → Act → World → Prop} {md : Region.Mode} {S : World → Prop} {s : Nat}

def wpAnyG (P : Program) (md : Region.Mode) (ops : Array Oper) (Q : Exit → Act → World → Prop) (S : World → Prop) (s : Nat) : Nat → Array Bool → Act → World → Prop
 | 0, listed, a, w => Region.ready md ops listed = [] ∧ Q .normal a w
 | fuel + 1, listed, a, w =>
  (Region.ready md ops listed = [] → Q .normal a w) ∧
  ∀ i ∈ Region.ready md ops listed, wpOp P ops Q i (fun a' w' => (i = s ∨ S w') ∧ wpAnyG P md ops Q S s fuel (listed.setIfInBounds i true) a' w') a w
theorem wpAny_of_G : ∀ (fuel : Nat) (listed : Array Bool) (a : Act) (w : World), wpAnyG P md ops Q S s fuel listed a w → wpAny P md ops Q fuel listed a w
 | 0, _, _, _, h => h
 | fuel + 1, _, _, _, h => ⟨h.1, fun i hi => wpOp_mono (fun a' w' h' => wpAny_of_G fuel _ a' w' h'.2) (h.2 i hi)⟩
def waitsFor (md : Region.Mode) (ops : Array Oper) (s i : Nat) : Bool :=
 match ops[s]? with
 | none => true
 | some o => o.after.any fun e => Region.binds md e && e.on == i
theorem wpAnyG_first {i : Nat} {oi : Oper} {v : Value} (hi : ops[i]? = some oi) (hsel : ∀ (j : Nat) (o : Oper) cs b, ops[j]? = some o → o.op ≠ .select cs b)
 (hQ : ∀ c a w, Q (.panic c) (a.put oi.dst v) w → Q (.panic c) a w) (his : waitsFor md ops s i = true) :
 ∀ (fuel : Nat) (listed : Array Bool) (a : Act) (w : World),
  (∀ j oj, ops[j]? = some oj → j ≠ i → listed.getD j true = false → (∀ e ∈ oj.after, Region.binds md e = true → e.on ≠ i) → oi.apart ops oj = true) →
  i ∈ Region.ready md ops listed → YieldsIf P ops S oi v a → S w →
  wpAnyG P md ops Q S s fuel (listed.setIfInBounds i true) (a.put oi.dst v) w → wpAnyG P md ops Q S s (fuel + 1) listed a w := by
 intro fuel
 induction fuel with
 | zero =>
  intro listed a w _ hr hy hS H
  refine ⟨fun h => (by rw [h] at hr; cases hr), fun j hj => ?_⟩
  by_cases hji : j = i
  ·subst hji; exact hy.wpOp hi hS ⟨.inr hS, H⟩
  ·have := ready_mono hj hji
   rw [H.1] at this
   cases this
 | succ fuel ih =>
  intro listed a w hfree hr hy hS H
  refine ⟨fun h => (by rw [h] at hr; cases hr), fun j hj => ?_⟩
  by_cases hji : j = i
  ·subst hji; exact hy.wpOp hi hS ⟨.inr hS, H⟩
  ·have h1 := H.2 j (ready_mono hj hji)
   obtain ⟨hjun, oj, hoj, hall⟩ := mem_ready.1 hj
   have hnot : ∀ e ∈ oj.after, Region.binds md e = true → e.on ≠ i := fun e he hb heq => by
    have h1 := hall e he hb
    have h0 := (mem_ready.1 hr).1
    rw [heq] at h1
    rcases Nat.lt_or_ge i listed.size with h' | h'
    ·simp [h'] at h0 h1; rw [h0] at h1; cases h1
    ·simp [Array.getElem?_eq_none h'] at h1
   have hjs : j ≠ s := fun e => by
    subst e
    unfold waitsFor at his
    rw [hoj] at his
    obtain ⟨e, he, hb⟩ := Array.any_eq_true'.1 his
    simp only [Bool.and_eq_true, beq_iff_eq] at hb
    exact hnot e he hb.1 hb.2
   have h2 := wpOp_putIf hoj (hfree j oj hoj hji hjun hnot) (fun cs b => hsel i oi cs b hi) (fun cs b => hsel j oj cs b hoj) hQ hy h1
   have hfree' : ∀ k ok, ops[k]? = some ok → k ≠ i → (listed.setIfInBounds j true).getD k true = false →
    (∀ e ∈ ok.after, Region.binds md e = true → e.on ≠ i) → oi.apart ops ok = true := fun k ok hk hki hun hno => by
    refine hfree k ok hk hki ?_ hno
    by_cases hjk : j = k
    ·subst hjk; exact hjun
    ·rw [_root_.Go.getD_set_ne true hjk] at hun; exact hun
   refine wpOp_mono (fun a' w' h3 => ?_) h2
   have hS' : S w' := h3.2.1.resolve_left hjs
   refine ⟨h3.2.1, ih (listed.setIfInBounds j true) a' w' hfree' (ready_mono hr (Ne.symm hji)) h3.1 hS' ?_⟩
   rw [Array.setIfInBounds_comm _ _ hji]
   exact h3.2.2
def gOk (md : Region.Mode) (ops : Array Oper) (listed : Array Bool) (i s : Nat) : Bool :=
 Region.noSelect ops && Region.free md ops listed i && (Region.ready md ops listed).contains i && waitsFor md ops s i
theorem gT (i : Nat) {oi : Oper} {v : Value} {fuel : Nat} {listed : Array Bool} {a : Act} {w : World} (d : Option Nat) (hi : ops[i]? = some oi) (hd : oi.dst = d) (hok : gOk md ops listed i s = true)
 (hQ : ∀ c a w, Q (.panic c) (a.put d v) w → Q (.panic c) a w) (hS : S w) (hy : Region.wanted oi (yielded ops a.tmps) = true ∧ ∀ w, S w → (execOp a.eval oi).run P w = .ok (.value v) w)
 (h : wpAnyG P md ops Q S s fuel (listed.setIfInBounds i true) (a.put d v) w) : wpAnyG P md ops Q S s (fuel + 1) listed a w := by
 subst hd
 unfold gOk at hok
 obtain ⟨h1, h4⟩ := Bool.and_eq_true_iff.1 hok
 obtain ⟨h1, h3⟩ := Bool.and_eq_true_iff.1 h1
 obtain ⟨h1, h2⟩ := Bool.and_eq_true_iff.1 h1
 exact wpAnyG_first hi (Region.noSelect_spec h1) hQ h4 fuel listed a w (Region.free_spec hi h2) (by simpa using h3) (.inl hy) hS h
theorem gTa (i d : Nat) {oi : Oper} {v : Value} {fuel : Nat} {listed l2 : Array Bool} {a a2 : Act} {w : World} (hS : S w)
 (h : wpAnyG P md ops Q S s fuel l2 a2 w) (hi : ops[i]? = some oi := by rfl) (hd : oi.dst = some d := by rfl) (hok : gOk md ops listed i s = true := by kernel_rfl) (hw : Region.wanted oi (yielded ops a.tmps) = true := by rfl)
 (hy : ∀ w, S w → (execOp a.eval oi).run P w = .ok (.value v) w := by (intro w hSw; (try dsimp only at hSw); (first | (go_simp; done) | (go_simp; with_reducible rfl))))
 (hl : listed.setIfInBounds i true = l2 := by ((try simp only [p2, p3, p4]); exact rfl)) (ha : a.put (some d) v = a2 := by ((try simp only [p1, p2, p3, p4]); exact rfl))
 (hQ : ∀ c a w, Q (.panic c) (a.put (some d) v) w → Q (.panic c) a w := by exact fun _ _ _ h => h) : wpAnyG P md ops Q S s (fuel + 1) listed a w := by
 subst hl ha
 exact gT i (some d) hi hd hok hQ hS ⟨hw, hy⟩ h
theorem gC (i : Nat) {o : Oper} {fuel : Nat} {listed : Array Bool} {a : Act} {w : World} (hi : ops[i]? = some o) (hr : Region.ready md ops listed = [i]) (hw : Region.wanted o (yielded ops a.tmps) = true)
 (h : ∀ K : Act → World → Prop, Shut (∀ a w, S w → (S w → wpAnyG P md ops Q S s fuel (listed.setIfInBounds i true) a w) → K a w) → Oper.wp P o a w K Q) : wpAnyG P md ops Q S s (fuel + 1) listed a w := by
 refine ⟨fun h0 => (by rw [hr] at h0; cases h0), fun j hj => ?_⟩
 rw [hr] at hj
 obtain rfl := List.mem_singleton.1 hj
 exact wpOp_step hi (fun K' hK => by
  rw [if_pos hw]
  exact h K' (fun a w hS hn => hK a w ⟨.inr hS, hn hS⟩))
theorem gL {o : Oper} {fuel : Nat} {listed : Array Bool} {a : Act} {w : World} (hi : ops[s]? = some o) (hr : Region.ready md ops listed = [s]) (hr2 : Region.ready md ops (listed.setIfInBounds s true) = []) (hw : Region.wanted o (yielded ops a.tmps) = true)
 (h : ∀ K : Act → World → Prop, Shut (∀ a w, Q .normal a w → K a w) → Oper.wp P o a w K Q) : wpAnyG P md ops Q S s (fuel + 1) listed a w := by
 refine ⟨fun h0 => (by rw [hr] at h0; cases h0), fun j hj => ?_⟩
 rw [hr] at hj
 obtain rfl := List.mem_singleton.1 hj
 exact wpOp_step hi (fun K' hK => by
  rw [if_pos hw]
  exact h K' (fun a w hn => hK a w ⟨.inl rfl, by
   cases fuel with
   | zero => exact ⟨hr2, hn⟩
   | succ fuel => exact ⟨fun _ => hn, by rw [hr2]; simp⟩⟩))
theorem wp_region_G {id : Nat} {a : Act} {w : World} (s : Nat) (S : World → Prop) (hm : P.follows .mixedOrders = true) (hS : S w.drew)
 (h : S w.drew → wpAnyG P .any ops Q S s ops.size (Array.replicate ops.size false) a w.drew) : (Code.region id ops true).wp P Q a w :=
 wp_region_any hm (wpAny_of_G _ _ _ _ (h hS))
end

theorem rtcells_one (p : RV × Rat) : ∀ u ∈ (rtcells p).toList, u.oneCell' = true := by
 intro u hu
 simp only [rtcells, List.mem_cons, List.not_mem_nil, or_false] at hu
 rcases hu with rfl | rfl | rfl | rfl <;> rfl
theorem GL.appR {w W W' : World} {ls : List Ow} {bs : List Bo} {old new old' new' : World → Prop} {t : TypeId} (ht : Tryz.prog.underlying t = some (.slice 33)) {A : Option Addr} {c : Nat} {os : List (RV × Rat)} (h : GL w (⟨33, 4, .slice A os.length c, os.map rtcells⟩ :: ls) old new W) (he : Env W bs old' new' W') (x : RV × Rat) (hl : os.length ≤ 1000000) :
 ∃ A' c' w', (Builtin.append_ #[t, t] t #[.slice A os.length c, .slice (some ⟨W'.heap.size, 0, none⟩) 1 1]).run Tryz.prog (W'.alloc (.cells (rtcells x) 33)) = .ok (.slice A' (os ++ [x]).length c') w' ∧ GL w (⟨33, 4, .slice A' (os ++ [x]).length c', (os ++ [x]).map rtcells⟩ :: ls) old (fun V => new' V ∧ new V) w' := by
 obtain ⟨v', w', hrun, hG⟩ := GL.app (P := Tryz.prog) ht info_rat rfl (by decide) h he (rtcells x) rfl (rtcells_one x) (by simp; omega) (by simp [maxLen]; omega)
 obtain ⟨A', c', hv, -⟩ := (hG.own _ (List.mem_cons_self ..)).form
 have hv' : v' = .slice A' (os ++ [x]).length c' := by rw [show v' = _ from hv]; simp
 subst hv'
 refine ⟨A', c', w', hrun, ?_⟩
 have e : (os ++ [x]).map rtcells = os.map rtcells ++ [rtcells x] := by simp
 rw [e]; exact hG
def RetRs (qs : List Rat) (w : World) (e : Ending) (w' : World) : Prop :=
 ∃ A c ds, e = .returned (.slice A (List.length ds) c) ∧ ds.length ≤ c ∧ ds.map Prod.snd = qs ∧ Rests w' (w.heap.size ≤ ·) (LsR 4 rtcells roN A ds) ∧ Below w.heap.size w w'
def redS (yq : Nat → Rat) (T : List (Int × Rat)) (c : Rat) : Nat → Rat
 | 0 => c
 | i + 1 => redS yq T c i - yq i * getQ T (i : Int)
theorem redS_sz {yq : Nat → Rat} {T : List (Int × Rat)} {c : Rat} {n K : Nat} (hc : Sz c n) (hy : ∀ i, i < K → Sz (yq i) n) (hT : ∀ a, Sz (getQ T a) n) : ∀ i, i ≤ K → Sz (redS yq T c i) (n + i * (2 * n + 2))
 | 0, _ => hc.up (by omega)
 | i + 1, h => by
  refine (Sz.sub (redS_sz hc hy hT i (by omega)) (Sz.mul (hy i (by omega)) (hT i))).up ?_
  rw [Nat.add_mul]; omega
def redL (f : FoV) (cs ys : List (RV × Rat)) (K j : Nat) : Rat := redS (fun i => (ys[i]!).2) ((f.cols[j]!).ts.map plq) (cs[j]!).2 K
set_option maxRecDepth 100000 in
theorem reduced_any (w : World) (n N : Nat) (hN : N ≤ 3000) (h1n : 1 ≤ n) (hbd : n + 20 * (2 * n + 2) ≤ N) (f : FoV) (h : FoD n f w) (hs : FSmall f) (hR : FRight f w) (Ac Ay : Option Addr) (cc cy : Nat) (cs ys : List (RV × Rat)) (hc : LsR 4 rtcells (roD n) Ac cs w) (hcl : cs.length = f.cols.length) (hy : LsR 4 rtcells (roD n) Ay ys w) (hyl : ys.length ≤ 30) :
 Calls Tryz.prog 60 #[fA f, .slice Ac cs.length cc, .slice Ay ys.length cy] w (RetRs ((List.range f.cols.length).map (redL f cs ys (min ys.length f.b.length))) w) := by
 have Hs := Lib.hid hs
 have Hr := Lib.hid hR
 have hc12 := hs.cols
 have hb20 := hs.b
 have HbM := Lib.hid hR.b
 have Hcl := Lib.hid hcl
 have hnN : n ≤ N := by omega
 have slc := h.cols.sl
 have slk := hc.sl
 have sly := hy.sl
 have hszr := size_rats
 have hszc := size_cols
 have hadd := adr_add
 obtain ⟨K, hK⟩ : ∃ K, K = min ys.length f.b.length := ⟨_, rfl⟩
 rw [← hK]
 have hKy : K ≤ ys.length := by omega
 have hKb : K ≤ f.b.length := by omega
 have HKd := Lib.hid (show ys.length ≤ K ∨ f.b.length ≤ K by omega)
 clear hK
 have Hsy := Lib.hid (show ∀ i, i < K → Sz (ys[i]!).2 n from fun i hi => by
  have hi' : i < ys.length := by omega
  rw [getElem!_pos ys i hi']
  exact RatD.sz (hy.ok _ (List.getElem_mem hi')) h1n)
 have Hsc := Lib.hid (show ∀ j, j < f.cols.length → Sz (cs[j]!).2 n from fun j hj => by
  have hj' : j < cs.length := by rw [hcl]; exact hj
  rw [getElem!_pos cs j hj']
  exact RatD.sz (hc.ok _ (List.getElem_mem hj')) h1n)
 have HsT := Lib.hid (show ∀ j (hj : j < f.cols.length) a, Sz (getQ (f.cols[j].ts.map plq) a) n from fun j hj a => getQ_sz (hR.col j hj).rise h1n (fun u hu => RatD.sz ((h.cols.ok _ (List.getElem_mem hj)).ok u hu) h1n) a)
 have HE := Lib.hid (lyF f ((h.old).and (((hc.old roD_old)).and ((hy.old roD_old)))))
 have c := Env.c1 HE.out
 clear h hs hR hc hy hcl
 unfold fA
 go_enter Tryz.func60, Tryz.ntmps60
 go_wp2_with fail
 have HG := Lib.hid (((GL.start HE.out).new_ 33 4).imp (φ := fun V => Blk V (w.heap.size) 25 #[.int .i64 f.M, .slice f.Ac f.cols.length f.cc, .slice f.Al f.lo.length f.cl, .slice f.Ah f.hi.length f.ch, .slice f.Ak f.cost.length f.ck, .slice f.Ab f.b.length f.cb] ∧ FoD n f V ∧ LsR 4 rtcells (roD n) Ac cs V ∧ LsR 4 rtcells (roD n) Ay ys V) (ψ := fun _ => True) (fun _ h => ⟨h.1 ⟨w.heap.size, 25, #[.int .i64 f.M, .slice f.Ac f.cols.length f.cc, .slice f.Al f.lo.length f.cl, .slice f.Ah f.hi.length f.ch, .slice f.Ak f.cost.length f.ck, .slice f.Ab f.b.length f.cb]⟩ (by simp), h.2⟩) (fun _ h => h))
 clear HE c
 go_loopw [7, 8] (fun dv jv wr => ∃ (Ad : Option Addr) (cd j : Nat) (ds : List (RV × Rat)), dv = .slice Ad ds.length cd ∧ jv = .int .i64 (j : Int) ∧ j ≤ f.cols.length ∧ Hid (ds.map Prod.snd = (List.range j).map (redL f cs ys K)) ∧ Hid (GL w [⟨33, 4, .slice Ad ds.length cd, ds.map rtcells⟩] (fun V => Blk V (w.heap.size) 25 #[.int .i64 f.M, .slice f.Ac f.cols.length f.cc, .slice f.Al f.lo.length f.cl, .slice f.Ah f.hi.length f.ch, .slice f.Ak f.cost.length f.ck, .slice f.Ab f.b.length f.cb] ∧ FoD n f V ∧ LsR 4 rtcells (roD n) Ac cs V ∧ LsR 4 rtcells (roD n) Ay ys V) (fun V => ∀ p ∈ ds, roN p V) wr)) (fun _ jv _ => f.cols.length - (intOf jv).toNat)
 case atStart => exact ⟨none, 0, 0, [], rfl, rfl, Nat.zero_le _, Lib.hid rfl, Lib.hid (HG.out.imp (fun _ h => h) (fun _ _ => by simp))⟩
 case round =>
  clear HG
  obtain ⟨Ad, cd, j, ds, rfl, rfl, hj, HM, HG⟩ := hrel
  have Hdl := Lib.hid (show ds.length = j by have := congrArg List.length HM.out; simpa using this)
  obtain ⟨W1, rfl⟩ : ∃ W1, W1 = wr := ⟨_, rfl⟩
  have cf := Blk.cb HG.out.o.1
  by_cases hlt : j < f.cols.length
  ·have hjc : j < cs.length := by rw [Hcl.out]; exact hlt
   have hlt' : (j : Int) < (f.cols.length : Int) := by omega
   have hjc' : (j : Int) < (cs.length : Int) := by omega
   have HE := Lib.hid HG.out.env
   have HV := Lib.hid (fun (V : World) (h : FoD n f V) => h.cols.vc j hlt)
   have cx := HE.out.o.1.2.2.1.rc j hjc
   have Hq0 := Lib.hid (show redL f cs ys K j = redS (fun i => (ys[i]!).2) (f.cols[j].ts.map plq) cs[j].2 K from by unfold redL; rw [getElem!_pos f.cols j hlt, getElem!_pos cs j hjc])
   have Hsz := Lib.hid (show ∀ i, i ≤ K → Sz (redS (fun i => (ys[i]!).2) (f.cols[j].ts.map plq) cs[j].2 i) N from fun i hi => (redS_sz (by have := Hsc.out j hlt; rwa [getElem!_pos cs j hjc] at this) Hsy.out (HsT.out j hlt) i hi).up (by have := Nat.mul_le_mul_right (2 * n + 2) (show i ≤ 20 by omega); omega))
   have Hsv := Lib.hid (HsT.out j hlt)
   obtain ⟨v, hv⟩ : ∃ v, v = f.cols[j] := ⟨_, rfl⟩
   obtain ⟨x, hx⟩ : ∃ x, x = cs[j] := ⟨_, rfl⟩
   have Hmv := Lib.hid (show v ∈ f.cols by rw [hv]; exact List.getElem_mem hlt)
   have Hmx := Lib.hid (show x ∈ cs by rw [hx]; exact List.getElem_mem hjc)
   rw [← hv] at HV Hq0 Hsz Hsv
   rw [← hx] at cx Hq0 Hsz
   clear hv hx
   have HVE := Lib.hid (show ∀ V, (fun V => Blk V (w.heap.size) 25 #[.int .i64 f.M, .slice f.Ac f.cols.length f.cc, .slice f.Al f.lo.length f.cl, .slice f.Ah f.hi.length f.ch, .slice f.Ak f.cost.length f.ck, .slice f.Ab f.b.length f.cb] ∧ FoD n f V ∧ LsR 4 rtcells (roD n) Ac cs V ∧ LsR 4 rtcells (roD n) Ay ys V) V ∧ (∀ p ∈ ds, roN p V) → LsR 5 tecells (teD n) v.A v.ts V from fun V h => h.1.2.1.cols.ok v Hmv.out)
   have Hvl := Lib.hid (show v.ts.length ≤ 20 from Hs.out.col v Hmv.out)
   have Hvb := Lib.hid (show 1 + v.ts.length * (n + 1) ≤ N by have := Nat.mul_le_mul_right (n + 1) Hvl.out; omega)
   go_wp2_with fail
   refine (refnorm4_any _ x.1 x.2 n (by omega) h1n (HE.out.o.1.2.2.1.ok x Hmx.out)).mono ?_
   rintro e w1 ⟨k0, rfl, hk, hb⟩
   replace HE := Lib.hid (Env.ret HE.out hk hb)
   clear hk hb cx cf
   go_upto_region 6 with fail
   obtain ⟨W2, gv, hW2, hgv, HE⟩ := Env.al HE.out 33 #[.bool k0.num.neg, .slice k0.num.A k0.num.k k0.num.c, .bool k0.den.neg, .slice k0.den.A k0.den.k k0.den.c]
   rw [hW2, hgv]
   clear hW2 hgv
   go_wp2_with fail
   go_loopw [10] (fun iv wr => ∃ (i : Nat) (k : RV), iv = .int .i64 (i : Int) ∧ i ≤ K ∧ Hid (Env W1 [⟨gv, 33, #[.bool k.num.neg, .slice k.num.A k.num.k k.num.c, .bool k.den.neg, .slice k.den.A k.den.k k.den.c]⟩] (fun V => (fun V => Blk V (w.heap.size) 25 #[.int .i64 f.M, .slice f.Ac f.cols.length f.cc, .slice f.Al f.lo.length f.cl, .slice f.Ah f.hi.length f.ch, .slice f.Ak f.cost.length f.ck, .slice f.Ab f.b.length f.cb] ∧ FoD n f V ∧ LsR 4 rtcells (roD n) Ac cs V ∧ LsR 4 rtcells (roD n) Ay ys V) V ∧ ∀ p ∈ ds, roN p V) (fun V => RatN k (redS (fun i => (ys[i]!).2) (v.ts.map plq) x.2 i) V) wr)) (fun iv _ => K - (intOf iv).toNat)
   case atStart => exact ⟨0, k0, rfl, Nat.zero_le _, Lib.hid (HE.out.imp (fun _ h => h) (fun _ h => h.1))⟩
   case round =>
    clear HE
    obtain ⟨i, k, rfl, hi, HE⟩ := hrel
    have cf := Blk.cb HE.out.o.1.1
    have cv := Env.c1 HE.out
    by_cases hik : i < K
    ·have hiy : i < ys.length := by omega
     have hi1 : (i : Int) < f.M := by have := HbM.out; omega
     have hi2 : (i : Int) < (ys.length : Int) := by omega
     have Hsq := Lib.hid (Hsz.out i (by omega))
     have HNx := Lib.hid (show redS (fun i => (ys[i]!).2) (v.ts.map plq) x.2 (i + 1) = redS (fun i => (ys[i]!).2) (v.ts.map plq) x.2 i - ys[i].2 * (getQ (v.ts.map plq) (i : Int)) from by rw [← getElem!_pos ys i hiy]; rfl)
     have HPC := Lib.hid (fun (V : World) (h : LsR 4 rtcells (roD n) Ay ys V) => h.rc i hiy)
     obtain ⟨p, hp⟩ : ∃ p, p = ys[i] := ⟨_, rfl⟩
     have Hmp := Lib.hid (show p ∈ ys by rw [hp]; exact List.getElem_mem hiy)
     rw [← hp] at HNx HPC
     clear hp
     obtain ⟨q, hq⟩ : ∃ q, q = redS (fun i => (ys[i]!).2) (v.ts.map plq) x.2 i := ⟨_, rfl⟩
     rw [← hq] at HNx Hsq HE
     clear hq
     have HPE := Lib.hid (show ∀ V, (fun V => Blk V (w.heap.size) 25 #[.int .i64 f.M, .slice f.Ac f.cols.length f.cc, .slice f.Al f.lo.length f.cl, .slice f.Ah f.hi.length f.ch, .slice f.Ak f.cost.length f.ck, .slice f.Ab f.b.length f.cb] ∧ FoD n f V ∧ LsR 4 rtcells (roD n) Ac cs V ∧ LsR 4 rtcells (roD n) Ay ys V) V ∧ (∀ p ∈ ds, roN p V) → RatD p.1 p.2 n V from fun V h => h.1.2.2.2.ok p Hmp.out)
     have HC := Lib.hid (fun (V : World) {nw : World → Prop} (h : Env W1 [⟨gv, 33, #[.bool k.num.neg, .slice k.num.A k.num.k k.num.c, .bool k.den.neg, .slice k.den.A k.den.k k.den.c]⟩] (fun V => (fun V => Blk V (w.heap.size) 25 #[.int .i64 f.M, .slice f.Ac f.cols.length f.cc, .slice f.Al f.lo.length f.cl, .slice f.Ah f.hi.length f.ch, .slice f.Ak f.cost.length f.ck, .slice f.Ab f.b.length f.cb] ∧ FoD n f V ∧ LsR 4 rtcells (roD n) Ac cs V ∧ LsR 4 rtcells (roD n) Ay ys V) V ∧ ∀ p ∈ ds, roN p V) nw V) => And.intro (Blk.cb h.o.1.1) (And.intro (HV.out V h.o.1.2.1) (And.intro (HPC.out V h.o.1.2.2.2) (Env.c1 h))))
     have Hsg := Lib.hid (Hsv.out (i : Int))
     have Hsm := Lib.hid (show Sz (p.2 * (getQ (v.ts.map plq) (i : Int))) N from (Sz.mul (RatD.sz (HPE.out _ HE.out.o) h1n) Hsg.out).up (by omega))
     go_upto_region 9 with fail
     clear cv cf
     refine wp_region_noPanic ?_
     refine wp_region_G 14 (fun W => CB (w.heap.size) #[.int .i64 f.M, .slice f.Ac f.cols.length f.cc, .slice f.Al f.lo.length f.cl, .slice f.Ah f.hi.length f.ch, .slice f.Ak f.cost.length f.ck, .slice f.Ab f.b.length f.cb] W ∧ W.cell? (adr f.Ac j) = some (.slice v.A v.ts.length v.c) ∧ RC Ay i p W ∧ CB gv #[.bool k.num.neg, .slice k.num.A k.num.k k.num.c, .bool k.den.neg, .slice k.den.A k.den.k k.den.c] W) (by kernel_rfl) (by with_reducible first | exact HC.out _ HE.out | exact HC.out _ HE.out.drew) (fun hHeld => ?_)
     replace HE := Lib.hid HE.out.drew
     refine gTa 0 35 hHeld ?_
     refine gTa 1 36 hHeld ?_
     refine gTa 2 37 hHeld ?_
     refine gTa 3 38 hHeld ?_
     refine gTa 4 39 hHeld ?_
     refine gTa 5 40 hHeld ?_
     refine gTa 6 41 hHeld ?_
     refine gTa 7 42 hHeld ?_
     refine gTa 8 43 hHeld ?_
     refine gTa 9 44 hHeld ?_
     refine gTa 10 45 hHeld ?_
     refine gC 11 rfl (by kernel_rfl) (by rfl) (fun K hK => ?_)
     clear hHeld
     simp only [q1, q2, q3]
     go_simp
     refine (get5_any _ n N hN h1n v.A v.c v.ts (HVE.out _ HE.out.o) (by have := Hvl.out; omega) hnN Hvb.out (i : Int)).mono ?_
     rintro e w3 ⟨kg, rfl, hk, hb⟩
     replace HE := Lib.hid (Env.ret HE.out hk hb)
     clear hk hb
     (try (go_wp2_with fail))
     refine hK.out _ _ (by with_reducible first | exact HC.out _ HE.out | exact HC.out _ HE.out.drew) (fun hHeld => ?_)
     clear hK K
     try simp only [p1, p2, p3, p4]
     refine gC 12 rfl (by kernel_rfl) (by rfl) (fun K hK => ?_)
     clear hHeld
     simp only [q1, q2, q3]
     go_simp
     refine (refmul4_any _ p.1 kg p.2 (getQ (v.ts.map plq) (i : Int)) n (by omega) h1n (HPE.out _ HE.out.o) (RatN.rat HE.out.n.1 Hsg.out)).mono ?_
     rintro e w3 ⟨km, rfl, hk, hb⟩
     replace HE := Lib.hid (Env.ret HE.out hk hb)
     clear hk hb
     (try (go_wp2_with fail))
     refine hK.out _ _ (by with_reducible first | exact HC.out _ HE.out | exact HC.out _ HE.out.drew) (fun hHeld => ?_)
     clear hK K
     try simp only [p1, p2, p3, p4]
     refine gC 13 rfl (by kernel_rfl) (by rfl) (fun K hK => ?_)
     clear hHeld
     simp only [q1, q2, q3]
     go_simp
     refine (refsub4_any _ k km q (p.2 * (getQ (v.ts.map plq) (i : Int))) N hN (by omega) (RatN.rat HE.out.n.2.2 Hsq.out) (RatN.rat HE.out.n.1 Hsm.out)).mono ?_
     rintro e w3 ⟨k2, rfl, hk, hb⟩
     replace HE := Lib.hid (Env.ret HE.out hk hb)
     clear hk hb
     (try (go_wp2_with fail))
     refine hK.out _ _ (by with_reducible first | exact HC.out _ HE.out | exact HC.out _ HE.out.drew) (fun hHeld => ?_)
     clear hK K
     try simp only [p1, p2, p3, p4]
     have c := Env.c1 HE.out
     refine gL rfl (by kernel_rfl) (by kernel_rfl) (by rfl) (fun K hK => ?_)
     clear hHeld
     simp only [q1, q2, q3]
     go_simp
     (try (go_wp2_with fail))
     refine hK.out _ _ ?_
     clear hK K
     try simp only [p1, p2, p3, p4]
     refine NoPanic.normal ?_
     clear c
     go_wp2_with fail
     go_roundw
     case rel => exact ⟨i + 1, k2, by go_num, by omega, Lib.hid (by rw [HNx.out]; exact (HE.out.put4 _ _ _ _).imp (fun _ h => h) (fun _ h => h.1))⟩
     case measure => (simp [intOf] <;> omega)
    ·obtain rfl : i = K := by omega
     obtain ⟨Ap, cp, w8, hrun, hG⟩ := GL.appR under_rats HG.out HE.out (k, redS (fun i => (ys[i]!).2) (v.ts.map plq) x.2 i) (by have := Hdl.out; omega)
     have Hrun := Lib.hid hrun
     have HG2 := Lib.hid hG
     clear hrun hG HG HE
     by_cases him : (i : Int) < f.M
     focus
      have hi2 : ¬ (i : Int) < (ys.length : Int) := by have := HbM.out; have := HKd.out; omega
     rotate_left
     focus
      skip
     rotate_left
     all_goals
      go_wp2_with (at_builtin; refine wpList_append_eq rfl (.tmp 49) (.tmp 51) 23 _ _ _ rfl rfl rfl Hrun.out ?_)
      clear Hrun
      go_wp2_with fail
      go_roundw
      case rel => exact ⟨Ap, cp, j + 1, ds ++ [(k, redS (fun i => (ys[i]!).2) (v.ts.map plq) x.2 i)], by simp, by go_num, by omega, Lib.hid (by rw [List.map_append, HM.out, List.range_succ, List.map_append]; show _ ++ [_] = _ ++ [redL f cs ys _ j]; rw [Hq0.out]), Lib.hid (HG2.out.imp (fun _ h => h) (fun V h p hp => by
       rcases List.mem_append.1 hp with hp | hp
       ·exact h.2 p hp
       ·rw [List.mem_singleton.1 hp]; exact h.1))⟩
      case measure => (simp [intOf] <;> omega)
  ·obtain rfl : j = f.cols.length := by omega
   have hnu : ¬ (f.cols.length : Int) < (f.cols.length : Int) := by omega
   go_wp2_with fail
   go_ret
   obtain ⟨A', c', hv, hc, hr⟩ := HG.out.tell (fun V h => h)
   obtain ⟨rfl, -, rfl⟩ : Ad = A' ∧ ds.length = ds.length ∧ cd = c' := by simpa using hv
   exact ⟨Ad, cd, ds, rfl, hc, HM.out, hr, HG.out.bel⟩

def sumYB (ys : List (RV × Rat)) (f : FoV) : Nat → Rat
 | 0 => 0
 | i + 1 => sumYB ys f i + (ys[i]!).2 * (f.b[i]!).2
def endR (f : FoV) (d : Rat) (j : Nat) : Rat := if d.num.sign < 0 then (f.hi[j]!).2 else (f.lo[j]!).2
def bndR (f : FoV) (dq : Nat → Rat) (s0 : Rat) : Nat → Rat
 | 0 => s0
 | j + 1 => bndR f dq s0 j + dq j * endR f (dq j) j
theorem sumYB_sz {ys : List (RV × Rat)} {f : FoV} {n K : Nat} (hy : ∀ i, i < K → Sz (ys[i]!).2 n) (hb : ∀ i, i < K → Sz (f.b[i]!).2 n) : ∀ i, i ≤ K → Sz (sumYB ys f i) (1 + i * (2 * n + 2))
 | 0, _ => sz_zero.up (by omega)
 | i + 1, h => by
  refine (Sz.add (sumYB_sz hy hb i (by omega)) (Sz.mul (hy i (by omega)) (hb i (by omega)))).up ?_
  rw [Nat.add_mul]; omega
theorem bndR_sz {f : FoV} {dq : Nat → Rat} {s0 : Rat} {n S D J : Nat} (h0 : Sz s0 S) (hd : ∀ j, j < J → Sz (dq j) D) (he : ∀ j, j < J → Sz (f.lo[j]!).2 n ∧ Sz (f.hi[j]!).2 n) : ∀ j, j ≤ J → Sz (bndR f dq s0 j) (S + j * (D + n + 2))
 | 0, _ => h0.up (by omega)
 | j + 1, h => by
  have h1 : Sz (endR f (dq j) j) n := by
   unfold endR
   split
   ·exact (he j (by omega)).2
   ·exact (he j (by omega)).1
  refine (Sz.add (bndR_sz h0 hd he j (by omega)) (Sz.mul (hd j (by omega)) h1)).up ?_
  rw [Nat.add_mul]; omega
set_option maxRecDepth 100000 in
theorem rbound_any (w : World) (n N : Nat) (hN : N ≤ 3000) (h1n : 1 ≤ n) (hbd : n + 20 * (2 * n + 2) ≤ N) (hbe : 1 + 20 * (2 * n + 2) + 12 * (n + 20 * (2 * n + 2) + n + 2) ≤ N) (f : FoV) (h : FoD n f w) (hs : FSmall f) (hR : FRight f w) (Ac Ay : Option Addr) (cc cy : Nat) (cs ys : List (RV × Rat)) (hc : LsR 4 rtcells (roD n) Ac cs w) (hcl : cs.length = f.cols.length) (hy : LsR 4 rtcells (roD n) Ay ys w) (hyl : ys.length ≤ 30) :
 Calls Tryz.prog 29 #[fA f, .slice Ac cs.length cc, .slice Ay ys.length cy] w (RetR (bndR f (redL f cs ys (min ys.length f.b.length)) (sumYB ys f (min ys.length f.b.length)) f.cols.length) w) := by
 have Hs := Lib.hid hs
 have Hr := Lib.hid hR
 have hc12 := hs.cols
 have hb20 := hs.b
 have HbM := Lib.hid hR.b
 have hnN : n ≤ N := by omega
 have slb := h.b.sl
 have sll := h.lo.sl
 have slh := h.hi.sl
 have sly := hy.sl
 have hszr := size_rats
 have hadd := adr_add
 obtain ⟨K, hK⟩ : ∃ K, K = min ys.length f.b.length := ⟨_, rfl⟩
 rw [← hK]
 have HKe := Lib.hid hK
 have hKy : K ≤ ys.length := by omega
 have hKb : K ≤ f.b.length := by omega
 have HKd := Lib.hid (show ys.length ≤ K ∨ f.b.length ≤ K by omega)
 clear hK
 have Hsy := Lib.hid (show ∀ i, i < K → Sz (ys[i]!).2 n from fun i hi => by
  have hi' : i < ys.length := by omega
  rw [getElem!_pos ys i hi']
  exact RatD.sz (hy.ok _ (List.getElem_mem hi')) h1n)
 have Hsb := Lib.hid (show ∀ i, i < K → Sz (f.b[i]!).2 n from fun i hi => by
  have hi' : i < f.b.length := by omega
  rw [getElem!_pos f.b i hi']
  exact RatD.sz (h.b.ok _ (List.getElem_mem hi')) h1n)
 have Hsc := Lib.hid (show ∀ j, j < f.cols.length → Sz (cs[j]!).2 n from fun j hj => by
  have hj' : j < cs.length := by rw [hcl]; exact hj
  rw [getElem!_pos cs j hj']
  exact RatD.sz (hc.ok _ (List.getElem_mem hj')) h1n)
 have Hse := Lib.hid (show ∀ j, j < f.cols.length → Sz (f.lo[j]!).2 n ∧ Sz (f.hi[j]!).2 n from fun j hj => by
  have h1 : j < f.lo.length := by rw [hR.lo]; exact hj
  have h2 : j < f.hi.length := by rw [hR.hi]; exact hj
  rw [getElem!_pos f.lo j h1, getElem!_pos f.hi j h2]
  exact ⟨RatD.sz (h.lo.ok _ (List.getElem_mem h1)) h1n, RatD.sz (h.hi.ok _ (List.getElem_mem h2)) h1n⟩)
 have HsT := Lib.hid (show ∀ j (hj : j < f.cols.length) a, Sz (getQ (f.cols[j].ts.map plq) a) n from fun j hj a => getQ_sz (hR.col j hj).rise h1n (fun u hu => RatD.sz ((h.cols.ok _ (List.getElem_mem hj)).ok u hu) h1n) a)
 have HsD := Lib.hid (show ∀ j, j < f.cols.length → Sz (redL f cs ys K j) (n + 20 * (2 * n + 2)) from fun j hj => (redS_sz (Hsc.out j hj) Hsy.out (fun a => by rw [getElem!_pos f.cols j hj]; exact HsT.out j hj a) K (Nat.le_refl _)).up (by have := Nat.mul_le_mul_right (2 * n + 2) (show K ≤ 20 by omega); omega))
 have HsS := Lib.hid (show ∀ i, i ≤ K → Sz (sumYB ys f i) (1 + 20 * (2 * n + 2)) from fun i hi => (sumYB_sz Hsy.out Hsb.out i hi).up (by have := Nat.mul_le_mul_right (2 * n + 2) (show i ≤ 20 by omega); omega))
 have HsB := Lib.hid (show ∀ j, j ≤ f.cols.length → Sz (bndR f (redL f cs ys K) (sumYB ys f K) j) N from fun j hj => (bndR_sz (HsS.out K (Nat.le_refl _)) HsD.out Hse.out j hj).up (by have := Nat.mul_le_mul_right (n + 20 * (2 * n + 2) + n + 2) (show j ≤ 12 by omega); omega))
 have Hf := Lib.hid h
 have Hcl := Lib.hid hcl
 have HE := Lib.hid (lyFZZ f ((h.old).and (((hc.old roD_old)).and ((hy.old roD_old)))))
 have c := Env.c3 HE.out
 have dd := Env.d3 HE.out
 clear h hs hR hc hy hcl
 unfold fA
 go_enter Tryz.func29, Tryz.ntmps29
 go_wp2_with fail
 clear c
 go_loopw [8] (fun iv wr => ∃ (i : Nat) (k : RV), iv = .int .i64 (i : Int) ∧ i ≤ K ∧ Hid (Env w [⟨w.heap.size + 1 + 1, 33, #[.bool k.num.neg, .slice k.num.A k.num.k k.num.c, .bool k.den.neg, .slice k.den.A k.den.k k.den.c]⟩, ⟨w.heap.size + 1, 33, #[.bool false, .slice none 0 0, .bool false, .slice none 0 0]⟩, ⟨w.heap.size, 25, #[.int .i64 f.M, .slice f.Ac f.cols.length f.cc, .slice f.Al f.lo.length f.cl, .slice f.Ah f.hi.length f.ch, .slice f.Ak f.cost.length f.ck, .slice f.Ab f.b.length f.cb]⟩] (fun V => FoD n f V ∧ LsR 4 rtcells (roD n) Ac cs V ∧ LsR 4 rtcells (roD n) Ay ys V) (fun V => RatN k (sumYB ys f i) V) wr)) (fun iv _ => K - (intOf iv).toNat)
 case atStart => exact ⟨0, zeroR, rfl, Nat.zero_le _, Lib.hid (HE.out.imp (fun _ h => h) (fun V _ => zeroRN V))⟩
 case round =>
  clear HE
  obtain ⟨i, k, rfl, hi, HE⟩ := hrel
  have c := Env.c3 HE.out
  by_cases hik : i < K
  ·have hiy : i < ys.length := by omega
   have hib : i < f.b.length := by omega
   have hi1 : (i : Int) < f.M := by have := HbM.out; omega
   have hi2 : (i : Int) < (ys.length : Int) := by omega
   have hi3 : (i : Int) < (f.b.length : Int) := by omega
   have Hsq := Lib.hid ((HsS.out i (by omega)).up (show _ ≤ N by omega))
   have HNx := Lib.hid (show sumYB ys f (i + 1) = sumYB ys f i + ys[i].2 * f.b[i].2 from by rw [← getElem!_pos ys i hiy, ← getElem!_pos f.b i hib]; rfl)
   have HPC := Lib.hid (fun (V : World) (h : LsR 4 rtcells (roD n) Ay ys V) => h.rc i hiy)
   have HRC := Lib.hid (fun (V : World) (h : FoD n f V) => h.b.rc i hib)
   obtain ⟨p, hp⟩ : ∃ p, p = ys[i] := ⟨_, rfl⟩
   obtain ⟨r, hr⟩ : ∃ p, p = f.b[i] := ⟨_, rfl⟩
   have Hmp := Lib.hid (show p ∈ ys by rw [hp]; exact List.getElem_mem hiy)
   have Hmr := Lib.hid (show r ∈ f.b by rw [hr]; exact List.getElem_mem hib)
   rw [← hp] at HNx HPC
   rw [← hr] at HNx HRC
   clear hp hr
   obtain ⟨q, hq⟩ : ∃ q, q = sumYB ys f i := ⟨_, rfl⟩
   rw [← hq] at HNx Hsq HE
   clear hq
   have HPE := Lib.hid (show ∀ V, (fun V => FoD n f V ∧ LsR 4 rtcells (roD n) Ac cs V ∧ LsR 4 rtcells (roD n) Ay ys V) V → RatD p.1 p.2 n V from fun V h => h.2.2.ok p Hmp.out)
   have HRE := Lib.hid (show ∀ V, (fun V => FoD n f V ∧ LsR 4 rtcells (roD n) Ac cs V ∧ LsR 4 rtcells (roD n) Ay ys V) V → RatD r.1 r.2 n V from fun V h => h.1.b.ok r Hmr.out)
   have Hsm := Lib.hid (show Sz (p.2 * r.2) N from (Sz.mul (RatD.sz (HPE.out _ HE.out.o) h1n) (RatD.sz (HRE.out _ HE.out.o) h1n)).up (by omega))
   have HC := Lib.hid (fun (V : World) {nw : World → Prop} (h : Env w [⟨w.heap.size + 1 + 1, 33, #[.bool k.num.neg, .slice k.num.A k.num.k k.num.c, .bool k.den.neg, .slice k.den.A k.den.k k.den.c]⟩, ⟨w.heap.size + 1, 33, #[.bool false, .slice none 0 0, .bool false, .slice none 0 0]⟩, ⟨w.heap.size, 25, #[.int .i64 f.M, .slice f.Ac f.cols.length f.cc, .slice f.Al f.lo.length f.cl, .slice f.Ah f.hi.length f.ch, .slice f.Ak f.cost.length f.ck, .slice f.Ab f.b.length f.cb]⟩] (fun V => FoD n f V ∧ LsR 4 rtcells (roD n) Ac cs V ∧ LsR 4 rtcells (roD n) Ay ys V) nw V) => And.intro (Env.c3 h).2.2 (And.intro (HPC.out V h.o.2.2) (And.intro (HRC.out V h.o.1) (Env.c3 h).1)))
   go_upto_region 5 with fail
   clear c
   refine wp_region_noPanic ?_
   refine wp_region_G 12 (fun W => CB (w.heap.size) #[.int .i64 f.M, .slice f.Ac f.cols.length f.cc, .slice f.Al f.lo.length f.cl, .slice f.Ah f.hi.length f.ch, .slice f.Ak f.cost.length f.ck, .slice f.Ab f.b.length f.cb] W ∧ RC Ay i p W ∧ RC f.Ab i r W ∧ CB (w.heap.size + 1 + 1) #[.bool k.num.neg, .slice k.num.A k.num.k k.num.c, .bool k.den.neg, .slice k.den.A k.den.k k.den.c] W) (by kernel_rfl) (by with_reducible first | exact HC.out _ HE.out | exact HC.out _ HE.out.drew) (fun hHeld => ?_)
   replace HE := Lib.hid HE.out.drew
   refine gTa 0 25 hHeld ?_
   refine gTa 1 26 hHeld ?_
   refine gTa 2 27 hHeld ?_
   refine gTa 3 28 hHeld ?_
   refine gTa 4 29 hHeld ?_
   refine gTa 5 30 hHeld ?_
   refine gTa 6 31 hHeld ?_
   refine gTa 7 32 hHeld ?_
   refine gTa 8 33 hHeld ?_
   refine gTa 9 34 hHeld ?_
   refine gC 10 rfl (by kernel_rfl) (by rfl) (fun K hK => ?_)
   clear hHeld
   simp only [q1, q2, q3]
   go_simp
   refine (refmul4_any _ p.1 r.1 p.2 r.2 n (by omega) h1n (HPE.out _ HE.out.o) (HRE.out _ HE.out.o)).mono ?_
   rintro e w3 ⟨km, rfl, hk, hb⟩
   replace HE := Lib.hid (Env.ret HE.out hk hb)
   clear hk hb
   (try (go_wp2_with fail))
   refine hK.out _ _ (by with_reducible first | exact HC.out _ HE.out | exact HC.out _ HE.out.drew) (fun hHeld => ?_)
   clear hK K
   try simp only [p1, p2, p3, p4]
   refine gC 11 rfl (by kernel_rfl) (by rfl) (fun K hK => ?_)
   clear hHeld
   simp only [q1, q2, q3]
   go_simp
   refine (refadd4_any _ k km q (p.2 * r.2) N hN (by omega) (RatN.rat HE.out.n.2 Hsq.out) (RatN.rat HE.out.n.1 Hsm.out)).mono ?_
   rintro e w3 ⟨k2, rfl, hk, hb⟩
   replace HE := Lib.hid (Env.ret HE.out hk hb)
   clear hk hb
   (try (go_wp2_with fail))
   refine hK.out _ _ (by with_reducible first | exact HC.out _ HE.out | exact HC.out _ HE.out.drew) (fun hHeld => ?_)
   clear hK K
   try simp only [p1, p2, p3, p4]
   have c := Env.c3 HE.out
   refine gL rfl (by kernel_rfl) (by kernel_rfl) (by rfl) (fun K hK => ?_)
   clear hHeld
   simp only [q1, q2, q3]
   go_simp
   (try (go_wp2_with fail))
   refine hK.out _ _ ?_
   clear hK K
   try simp only [p1, p2, p3, p4]
   refine NoPanic.normal ?_
   clear c
   go_wp2_with fail
   go_roundw
   case rel => exact ⟨i + 1, k2, by go_num, by omega, Lib.hid (by rw [HNx.out]; exact (HE.out.put4 _ _ _ _).imp (fun _ h => h) (fun _ h => h.1))⟩
   case measure => (simp [intOf] <;> omega)
  ·obtain rfl : i = K := by omega
   have HRw := Lib.hid ((FRight.same Hf.out HE.out.bel).2 Hr.out)
   by_cases him : (i : Int) < f.M
   focus
    have hi2 : ¬ (i : Int) < (ys.length : Int) := by have := HbM.out; have := HKd.out; omega
   rotate_left
   focus
    skip
   rotate_left
   all_goals
    go_wp2_with fail
    refine (reduced_any _ n N hN h1n hbd f HE.out.o.1 Hs.out HRw.out Ac Ay cc cy cs ys HE.out.o.2.1 Hcl.out HE.out.o.2.2 hyl).mono ?_
    rintro e w4 ⟨Ad, cd, ds, rfl, hcd, hds, hk, hb⟩
    rw [← HKe.out] at hds
    replace HE := Lib.hid (Env.ret HE.out hk hb)
    have Hds := Lib.hid hds
    clear hk hb hds c
    have Hdl := Lib.hid (show ds.length = f.cols.length by have := congrArg List.length Hds.out; simpa using this)
    have sld : Sl Ad ds.length := HE.out.n.1.sl
    have c := Env.c3 HE.out
    go_wp2_with fail
    clear c
    go_loopw [10] (fun jv wr => ∃ (j : Nat) (k : RV), jv = .int .i64 (j : Int) ∧ j ≤ ds.length ∧ Hid (Env w [⟨w.heap.size + 1 + 1, 33, #[.bool k.num.neg, .slice k.num.A k.num.k k.num.c, .bool k.den.neg, .slice k.den.A k.den.k k.den.c]⟩, ⟨w.heap.size + 1, 33, #[.bool false, .slice none 0 0, .bool false, .slice none 0 0]⟩, ⟨w.heap.size, 25, #[.int .i64 f.M, .slice f.Ac f.cols.length f.cc, .slice f.Al f.lo.length f.cl, .slice f.Ah f.hi.length f.ch, .slice f.Ak f.cost.length f.ck, .slice f.Ab f.b.length f.cb]⟩] (fun V => FoD n f V ∧ LsR 4 rtcells (roD n) Ac cs V ∧ LsR 4 rtcells (roD n) Ay ys V) (fun V => RatN k (bndR f (redL f cs ys i) (sumYB ys f i) j) V ∧ LsR 4 rtcells roN Ad ds V) wr)) (fun jv _ => ds.length - (intOf jv).toNat)
    case atStart => exact ⟨0, k, rfl, Nat.zero_le _, Lib.hid (HE.out.imp (fun _ h => h) (fun V h => ⟨h.2, h.1⟩))⟩
    case round =>
     clear HE
     obtain ⟨j, k, rfl, hj, HE⟩ := hrel
     have c := Env.c3 HE.out
     by_cases hlt : j < ds.length
     ·have hlc : j < f.cols.length := by rw [← Hdl.out]; exact hlt
      have hjl : j < f.lo.length := by rw [Hr.out.lo]; exact hlc
      have hjh : j < f.hi.length := by rw [Hr.out.hi]; exact hlc
      have hj1 : (j : Int) < (ds.length : Int) := by omega
      have hj2 : (j : Int) < (f.lo.length : Int) := by omega
      have hj3 : (j : Int) < (f.hi.length : Int) := by omega
      have Hsq := Lib.hid (HsB.out j (by omega))
      have hdq : ds[j].2 = redL f cs ys i j := by
       have h1 := congrArg (fun l => l[j]?) Hds.out
       simp only [List.getElem?_map, List.getElem?_eq_getElem hlt, Option.map_some, List.getElem?_range hlc] at h1
       injection h1
      have HNx := Lib.hid (show bndR f (redL f cs ys i) (sumYB ys f i) (j + 1) = bndR f (redL f cs ys i) (sumYB ys f i) j + ds[j].2 * (if ds[j].2.num.sign < 0 then f.hi[j].2 else f.lo[j].2) from by rw [hdq, ← getElem!_pos f.hi j hjh, ← getElem!_pos f.lo j hjl]; rfl)
      have Hsd := Lib.hid (show Sz ds[j].2 (n + 20 * (2 * n + 2)) by rw [hdq]; exact HsD.out j hlc)
      have HDC := Lib.hid (fun (V : World) (h : LsR 4 rtcells roN Ad ds V) => h.rc j hlt)
      have HLC := Lib.hid (fun (V : World) (h : FoD n f V) => h.lo.rc j hjl)
      have HHC := Lib.hid (fun (V : World) (h : FoD n f V) => h.hi.rc j hjh)
      obtain ⟨d, hd⟩ : ∃ p, p = ds[j] := ⟨_, rfl⟩
      obtain ⟨x, hx⟩ : ∃ p, p = f.lo[j] := ⟨_, rfl⟩
      obtain ⟨y, hy⟩ : ∃ p, p = f.hi[j] := ⟨_, rfl⟩
      have Hmd := Lib.hid (show d ∈ ds by rw [hd]; exact List.getElem_mem hlt)
      have Hmx := Lib.hid (show x ∈ f.lo by rw [hx]; exact List.getElem_mem hjl)
      have Hmy := Lib.hid (show y ∈ f.hi by rw [hy]; exact List.getElem_mem hjh)
      rw [← hd] at HNx HDC Hsd
      rw [← hx] at HNx HLC
      rw [← hy] at HNx HHC
      clear hd hx hy hdq
      obtain ⟨q, hq⟩ : ∃ q, q = bndR f (redL f cs ys i) (sumYB ys f i) j := ⟨_, rfl⟩
      rw [← hq] at HNx Hsq HE
      clear hq
      have HDN := Lib.hid (show ∀ V, LsR 4 rtcells roN Ad ds V → RatD d.1 d.2 N V from fun V h => RatN.rat (h.ok d Hmd.out) (Hsd.out.up (by omega)))
      have HXE := Lib.hid (show ∀ V, (fun V => FoD n f V ∧ LsR 4 rtcells (roD n) Ac cs V ∧ LsR 4 rtcells (roD n) Ay ys V) V → RatD x.1 x.2 n V from fun V h => h.1.lo.ok x Hmx.out)
      have HYE := Lib.hid (show ∀ V, (fun V => FoD n f V ∧ LsR 4 rtcells (roD n) Ac cs V ∧ LsR 4 rtcells (roD n) Ay ys V) V → RatD y.1 y.2 n V from fun V h => h.1.hi.ok y Hmy.out)
      have cl := HLC.out _ HE.out.o.1
      go_upto_region 11 with fail
      obtain ⟨W2, ge, hW2, hge, HE⟩ := Env.al HE.out 33 #[.bool x.1.num.neg, .slice x.1.num.A x.1.num.k x.1.num.c, .bool x.1.den.neg, .slice x.1.den.A x.1.den.k x.1.den.c]
      rw [hW2, hge]
      clear hW2 hge c cl
      have c := Env.c4 HE.out
      have cd2 := HDC.out _ HE.out.n.2
      go_wp2_with fail
      refine (refsign4_any _ d.1 d.2 N (by omega) (by omega) (HDN.out _ HE.out.n.2)).mono ?_
      rintro e w5 ⟨rfl, hb⟩
      replace HE := Lib.hid (Env.call HE.out hb)
      replace c := Env.c4 HE.out
      clear hb cd2
      obtain ⟨C, hC⟩ : ∃ C, d.2.num.sign = C := ⟨_, rfl⟩
      have HCg := Lib.hid hC
      rw [hC]
      clear hC
      by_cases hsg : C < 0
      focus
       obtain ⟨ch0, ch1, ch2, ch3⟩ := HHC.out _ HE.out.o.1
       have HNy := Lib.hid (show bndR f (redL f cs ys i) (sumYB ys f i) (j + 1) = q + d.2 * y.2 by rw [HNx.out, HCg.out, if_pos hsg])
       go_upto_region 13 with fail
       obtain ⟨W6, hW6, HE⟩ := Env.st4_0 HE.out (.bool y.1.num.neg) (.slice y.1.num.A y.1.num.k y.1.num.c) (.bool y.1.den.neg) (.slice y.1.den.A y.1.den.k y.1.den.c)
       rw [hW6]
       clear hW6 ch0 ch1 ch2 ch3 c hsg
       have HUE := Lib.hid (show ∀ V, (fun V => FoD n f V ∧ LsR 4 rtcells (roD n) Ac cs V ∧ LsR 4 rtcells (roD n) Ay ys V) V → RatD y.1 y.2 N V from fun V h => (HYE.out V h).mono9 hnN)
       have Hsm := Lib.hid (show Sz (d.2 * y.2) N from (Sz.mul Hsd.out (RatD.sz (HYE.out _ HE.out.o) h1n)).up (by omega))
       have HC := Lib.hid (fun (V : World) (h : Env w [⟨ge, 33, #[.bool y.1.num.neg, .slice y.1.num.A y.1.num.k y.1.num.c, .bool y.1.den.neg, .slice y.1.den.A y.1.den.k y.1.den.c]⟩, ⟨w.heap.size + 1 + 1, 33, #[.bool k.num.neg, .slice k.num.A k.num.k k.num.c, .bool k.den.neg, .slice k.den.A k.den.k k.den.c]⟩, ⟨w.heap.size + 1, 33, #[.bool false, .slice none 0 0, .bool false, .slice none 0 0]⟩, ⟨w.heap.size, 25, #[.int .i64 f.M, .slice f.Ac f.cols.length f.cc, .slice f.Al f.lo.length f.cl, .slice f.Ah f.hi.length f.ch, .slice f.Ak f.cost.length f.ck, .slice f.Ab f.b.length f.cb]⟩] (fun V => FoD n f V ∧ LsR 4 rtcells (roD n) Ac cs V ∧ LsR 4 rtcells (roD n) Ay ys V) (fun V => RatN k q V ∧ LsR 4 rtcells roN Ad ds V) V) => And.intro (HDC.out V h.n.2) (And.intro (Env.c4 h).1 (Env.c4 h).2.1))
       have HC2 := Lib.hid (fun (V : World) {m : World → Prop} (h : Env w [⟨ge, 33, #[.bool y.1.num.neg, .slice y.1.num.A y.1.num.k y.1.num.c, .bool y.1.den.neg, .slice y.1.den.A y.1.den.k y.1.den.c]⟩, ⟨w.heap.size + 1 + 1, 33, #[.bool k.num.neg, .slice k.num.A k.num.k k.num.c, .bool k.den.neg, .slice k.den.A k.den.k k.den.c]⟩, ⟨w.heap.size + 1, 33, #[.bool false, .slice none 0 0, .bool false, .slice none 0 0]⟩, ⟨w.heap.size, 25, #[.int .i64 f.M, .slice f.Ac f.cols.length f.cc, .slice f.Al f.lo.length f.cl, .slice f.Ah f.hi.length f.ch, .slice f.Ak f.cost.length f.ck, .slice f.Ab f.b.length f.cb]⟩] (fun V => FoD n f V ∧ LsR 4 rtcells (roD n) Ac cs V ∧ LsR 4 rtcells (roD n) Ay ys V) (fun V => m V ∧ RatN k q V ∧ LsR 4 rtcells roN Ad ds V) V) => And.intro (HDC.out V h.n.2.2) (And.intro (Env.c4 h).1 (Env.c4 h).2.1))
       have HC3 := Lib.hid (fun (V : World) {m m2 : World → Prop} (h : Env w [⟨ge, 33, #[.bool y.1.num.neg, .slice y.1.num.A y.1.num.k y.1.num.c, .bool y.1.den.neg, .slice y.1.den.A y.1.den.k y.1.den.c]⟩, ⟨w.heap.size + 1 + 1, 33, #[.bool k.num.neg, .slice k.num.A k.num.k k.num.c, .bool k.den.neg, .slice k.den.A k.den.k k.den.c]⟩, ⟨w.heap.size + 1, 33, #[.bool false, .slice none 0 0, .bool false, .slice none 0 0]⟩, ⟨w.heap.size, 25, #[.int .i64 f.M, .slice f.Ac f.cols.length f.cc, .slice f.Al f.lo.length f.cl, .slice f.Ah f.hi.length f.ch, .slice f.Ak f.cost.length f.ck, .slice f.Ab f.b.length f.cb]⟩] (fun V => FoD n f V ∧ LsR 4 rtcells (roD n) Ac cs V ∧ LsR 4 rtcells (roD n) Ay ys V) (fun V => m2 V ∧ m V ∧ RatN k q V ∧ LsR 4 rtcells roN Ad ds V) V) => And.intro (HDC.out V h.n.2.2.2) (And.intro (Env.c4 h).1 (Env.c4 h).2.1))
       refine wp_region_noPanic ?_
       refine wp_region_G 8 (fun W => RC Ad j d W ∧ CB ge #[.bool y.1.num.neg, .slice y.1.num.A y.1.num.k y.1.num.c, .bool y.1.den.neg, .slice y.1.den.A y.1.den.k y.1.den.c] W ∧ CB (w.heap.size + 1 + 1) #[.bool k.num.neg, .slice k.num.A k.num.k k.num.c, .bool k.den.neg, .slice k.den.A k.den.k k.den.c] W) (by kernel_rfl) (by with_reducible first | exact HC.out _ HE.out | exact HC.out _ HE.out.drew | exact HC2.out _ HE.out | exact HC3.out _ HE.out) (fun hHeld => ?_)
       replace HE := Lib.hid HE.out.drew
       refine gTa 0 63 hHeld ?_
       refine gTa 1 64 hHeld ?_
       refine gTa 2 65 hHeld ?_
       refine gTa 3 66 hHeld ?_
       refine gTa 4 67 hHeld ?_
       refine gTa 5 68 hHeld ?_
       refine gC 6 rfl (by kernel_rfl) (by rfl) (fun K hK => ?_)
       clear hHeld
       simp only [q1, q2, q3]
       go_simp
       refine (refmul4_any _ d.1 y.1 d.2 y.2 N hN (by omega) (HDN.out _ HE.out.n.2) (HUE.out _ HE.out.o)).mono ?_
       rintro e w3 ⟨km, rfl, hk, hb⟩
       replace HE := Lib.hid (Env.ret HE.out hk hb)
       clear hk hb
       (try (go_wp2_with fail))
       refine hK.out _ _ (by with_reducible first | exact HC.out _ HE.out | exact HC.out _ HE.out.drew | exact HC2.out _ HE.out | exact HC3.out _ HE.out) (fun hHeld => ?_)
       clear hK K
       try simp only [p1, p2, p3, p4]
       refine gC 7 rfl (by kernel_rfl) (by rfl) (fun K hK => ?_)
       clear hHeld
       simp only [q1, q2, q3]
       go_simp
       refine (refadd4_any _ k km q (d.2 * y.2) N hN (by omega) (RatN.rat HE.out.n.2.1 Hsq.out) (RatN.rat HE.out.n.1 Hsm.out)).mono ?_
      rotate_left
      focus
       have HNy := Lib.hid (show bndR f (redL f cs ys i) (sumYB ys f i) (j + 1) = q + d.2 * x.2 by rw [HNx.out, HCg.out, if_neg hsg])
       go_upto_region 13 with fail
       clear c hsg
       have HUE := Lib.hid (show ∀ V, (fun V => FoD n f V ∧ LsR 4 rtcells (roD n) Ac cs V ∧ LsR 4 rtcells (roD n) Ay ys V) V → RatD x.1 x.2 N V from fun V h => (HXE.out V h).mono9 hnN)
       have Hsm := Lib.hid (show Sz (d.2 * x.2) N from (Sz.mul Hsd.out (RatD.sz (HXE.out _ HE.out.o) h1n)).up (by omega))
       have HC := Lib.hid (fun (V : World) (h : Env w [⟨ge, 33, #[.bool x.1.num.neg, .slice x.1.num.A x.1.num.k x.1.num.c, .bool x.1.den.neg, .slice x.1.den.A x.1.den.k x.1.den.c]⟩, ⟨w.heap.size + 1 + 1, 33, #[.bool k.num.neg, .slice k.num.A k.num.k k.num.c, .bool k.den.neg, .slice k.den.A k.den.k k.den.c]⟩, ⟨w.heap.size + 1, 33, #[.bool false, .slice none 0 0, .bool false, .slice none 0 0]⟩, ⟨w.heap.size, 25, #[.int .i64 f.M, .slice f.Ac f.cols.length f.cc, .slice f.Al f.lo.length f.cl, .slice f.Ah f.hi.length f.ch, .slice f.Ak f.cost.length f.ck, .slice f.Ab f.b.length f.cb]⟩] (fun V => FoD n f V ∧ LsR 4 rtcells (roD n) Ac cs V ∧ LsR 4 rtcells (roD n) Ay ys V) (fun V => RatN k q V ∧ LsR 4 rtcells roN Ad ds V) V) => And.intro (HDC.out V h.n.2) (And.intro (Env.c4 h).1 (Env.c4 h).2.1))
       have HC2 := Lib.hid (fun (V : World) {m : World → Prop} (h : Env w [⟨ge, 33, #[.bool x.1.num.neg, .slice x.1.num.A x.1.num.k x.1.num.c, .bool x.1.den.neg, .slice x.1.den.A x.1.den.k x.1.den.c]⟩, ⟨w.heap.size + 1 + 1, 33, #[.bool k.num.neg, .slice k.num.A k.num.k k.num.c, .bool k.den.neg, .slice k.den.A k.den.k k.den.c]⟩, ⟨w.heap.size + 1, 33, #[.bool false, .slice none 0 0, .bool false, .slice none 0 0]⟩, ⟨w.heap.size, 25, #[.int .i64 f.M, .slice f.Ac f.cols.length f.cc, .slice f.Al f.lo.length f.cl, .slice f.Ah f.hi.length f.ch, .slice f.Ak f.cost.length f.ck, .slice f.Ab f.b.length f.cb]⟩] (fun V => FoD n f V ∧ LsR 4 rtcells (roD n) Ac cs V ∧ LsR 4 rtcells (roD n) Ay ys V) (fun V => m V ∧ RatN k q V ∧ LsR 4 rtcells roN Ad ds V) V) => And.intro (HDC.out V h.n.2.2) (And.intro (Env.c4 h).1 (Env.c4 h).2.1))
       have HC3 := Lib.hid (fun (V : World) {m m2 : World → Prop} (h : Env w [⟨ge, 33, #[.bool x.1.num.neg, .slice x.1.num.A x.1.num.k x.1.num.c, .bool x.1.den.neg, .slice x.1.den.A x.1.den.k x.1.den.c]⟩, ⟨w.heap.size + 1 + 1, 33, #[.bool k.num.neg, .slice k.num.A k.num.k k.num.c, .bool k.den.neg, .slice k.den.A k.den.k k.den.c]⟩, ⟨w.heap.size + 1, 33, #[.bool false, .slice none 0 0, .bool false, .slice none 0 0]⟩, ⟨w.heap.size, 25, #[.int .i64 f.M, .slice f.Ac f.cols.length f.cc, .slice f.Al f.lo.length f.cl, .slice f.Ah f.hi.length f.ch, .slice f.Ak f.cost.length f.ck, .slice f.Ab f.b.length f.cb]⟩] (fun V => FoD n f V ∧ LsR 4 rtcells (roD n) Ac cs V ∧ LsR 4 rtcells (roD n) Ay ys V) (fun V => m2 V ∧ m V ∧ RatN k q V ∧ LsR 4 rtcells roN Ad ds V) V) => And.intro (HDC.out V h.n.2.2.2) (And.intro (Env.c4 h).1 (Env.c4 h).2.1))
       refine wp_region_noPanic ?_
       refine wp_region_G 8 (fun W => RC Ad j d W ∧ CB ge #[.bool x.1.num.neg, .slice x.1.num.A x.1.num.k x.1.num.c, .bool x.1.den.neg, .slice x.1.den.A x.1.den.k x.1.den.c] W ∧ CB (w.heap.size + 1 + 1) #[.bool k.num.neg, .slice k.num.A k.num.k k.num.c, .bool k.den.neg, .slice k.den.A k.den.k k.den.c] W) (by kernel_rfl) (by with_reducible first | exact HC.out _ HE.out | exact HC.out _ HE.out.drew | exact HC2.out _ HE.out | exact HC3.out _ HE.out) (fun hHeld => ?_)
       replace HE := Lib.hid HE.out.drew
       refine gTa 0 63 hHeld ?_
       refine gTa 1 64 hHeld ?_
       refine gTa 2 65 hHeld ?_
       refine gTa 3 66 hHeld ?_
       refine gTa 4 67 hHeld ?_
       refine gTa 5 68 hHeld ?_
       refine gC 6 rfl (by kernel_rfl) (by rfl) (fun K hK => ?_)
       clear hHeld
       simp only [q1, q2, q3]
       go_simp
       refine (refmul4_any _ d.1 x.1 d.2 x.2 N hN (by omega) (HDN.out _ HE.out.n.2) (HUE.out _ HE.out.o)).mono ?_
       rintro e w3 ⟨km, rfl, hk, hb⟩
       replace HE := Lib.hid (Env.ret HE.out hk hb)
       clear hk hb
       (try (go_wp2_with fail))
       refine hK.out _ _ (by with_reducible first | exact HC.out _ HE.out | exact HC.out _ HE.out.drew | exact HC2.out _ HE.out | exact HC3.out _ HE.out) (fun hHeld => ?_)
       clear hK K
       try simp only [p1, p2, p3, p4]
       refine gC 7 rfl (by kernel_rfl) (by rfl) (fun K hK => ?_)
       clear hHeld
       simp only [q1, q2, q3]
       go_simp
       refine (refadd4_any _ k km q (d.2 * x.2) N hN (by omega) (RatN.rat HE.out.n.2.1 Hsq.out) (RatN.rat HE.out.n.1 Hsm.out)).mono ?_
      rotate_left
      all_goals
       rintro e w3 ⟨k2, rfl, hk, hb⟩
       replace HE := Lib.hid (Env.ret HE.out hk hb)
       clear hk hb
       (try (go_wp2_with fail))
       refine hK.out _ _ (by with_reducible first | exact HC.out _ HE.out | exact HC.out _ HE.out.drew | exact HC2.out _ HE.out | exact HC3.out _ HE.out) (fun hHeld => ?_)
       clear hK K
       try simp only [p1, p2, p3, p4]
       have c := Env.c4 HE.out
       refine gL rfl (by kernel_rfl) (by kernel_rfl) (by rfl) (fun K hK => ?_)
       clear hHeld
       simp only [q1, q2, q3]
       go_simp
       (try (go_wp2_with fail))
       refine hK.out _ _ ?_
       clear hK K
       try simp only [p1, p2, p3, p4]
       refine NoPanic.normal ?_
       clear c
       go_wp2_with fail
       go_roundw
       case rel => exact ⟨j + 1, k2, by go_num, by omega, Lib.hid (by rw [HNy.out]; exact ((HE.out.put4_1 _ _ _ _).drop).imp (fun _ h => h) (fun _ h => ⟨h.1, h.2.2.2⟩))⟩
       case measure => (simp [intOf] <;> omega)
     ·obtain rfl : j = ds.length := by omega
      have hnu : ¬ (ds.length : Int) < (ds.length : Int) := by omega
      have HF := Lib.hid (show bndR f (redL f cs ys i) (sumYB ys f i) ds.length = bndR f (redL f cs ys i) (sumYB ys f i) f.cols.length by rw [Hdl.out])
      go_wp2_with fail
      rw [← HF.out]
      exact bodyPost_ret (v := .agg #[.bool k.num.neg, .slice k.num.A k.num.k k.num.c, .bool k.den.neg, .slice k.den.A k.den.k k.den.c]) (by simp [results, Tryz.results29, go_sem, Env.c3 (HE.out.put4_1 (.bool k.num.neg) (.slice k.num.A k.num.k k.num.c) (.bool k.den.neg) (.slice k.den.A k.den.k k.den.c))]) rfl ((HE.out.put4_1 _ _ _ _).retR' rfl fun _ h => h.1)
end Go.Proofs.YtbnleajchmnbdaaGreatDoor
