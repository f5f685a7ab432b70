/-
 Plain facts on digits of 8 bits. tripwireref01: trim, Small. tripwireref01: Large. tripwireref01: Add. tripwireref01: Mul. tripwireref02.Make; tripwireref03.Text. tripwireref01: Shr by one. tripwireref01: Shl. tripwireref01: Gcd. tripwireref02: Norm, Neg. tripwireref02: Mul, Gcd. tripwireref02: Mul. tripwireref04: Parts, Norm, Add, Mul, Quo, Neg, Sign, Cmp. tripwireref04: Norm, Neg, Sign, Add, Mul, Quo, Cmp. Plain laws of fractions: the order by the sign of a difference; ends; the whole numbers next to a fraction. ratio: Ceil. The plain law of places: a rising list of all places. tripwireref05.Get. tripwireref05.Places. tripwireref05.put, Norm. ref05.sameWords. Many operations of a drawn region at once: those that are not wanted, moves, picks. tripwireref05.Right. tripwireref04.Same, tripwireref16.Right. A drawn region whose last operation waits for all others: what all read need not hold behind it. tripwireref16.Reduced. tripwireref17.bound. Programs in memory: variables, rows. program.Right$1, program.all over variables. Lists of the call's own at any place among others, and boxes among them.
-/
import Derived.Test.YtplhmeiciiajcaaGreatDoorMath
import Derived.Test.YtplhmeiciiajcaaGreatDoorOwn
import Derived.Test.YtplhmeiciiajcaaGreatDoorDiv
import Derived.Test.YtplhmeiciiajcaaGreatDoorText
import Derived.Test.YtplhmeiciiajcaaGreatDoorLimE
import Derived.Test.YtplhmeiciiajcaaGreatDoorVal
import Derived.Test.YtplhmeiciiajcaaGreatDoorGcdM
import Derived.Test.YtplhmeiciiajcaaGreatDoorWE
import Derived.Test.YtplhmeiciiajcaaGreatDoorEM
import Derived.Test.YtplhmeiciiajcaaGreatDoorQC
import Derived.Test.YtplhmeiciiajcaaGreatDoorV18
import Derived.Test.YtplhmeiciiajcaaGreatDoorSL
import Derived.Test.YtplhmeiciiajcaaGreatDoorLowB
import Derived.Deep.LoopGhost
import Derived.Deep.DeepCutAuto
import Derived.Deep.DeepMust
namespace Go.Proofs.YtplhmeiciiajcaaGreatDoor

open Go.RowKit

def sgn (neg : Bool) (v : Nat) : Bool := if v = 0 then false else neg
theorem Own.apps {P : Program} {W : World} {B : Nat} {t e : TypeId} {k : IntKind} {bytes : Nat} {pv z : Value} {l ds : List Nat} (ht : P.underlying t = some (.slice e)) (hinfo : (P.info? e).map (fun i => (i.zero, i.size, i.bytes)) = some (some z, 1, bytes)) (hz : z.cells.size = 1)
 (hown : Own W B e k pv l) {b o c : Nat} (hd : Rd W k (some ⟨b, o, none⟩) ds) (hlen : (l.length + ds.length) * bytes ≤ 140737488355328) (hl : l.length + ds.length ≤ maxLen) (hB : B ≤ W.heap.size) :
 ∃ v' w', (Builtin.append_ #[t, t] t #[pv, .slice (some ⟨b, o, none⟩) ds.length c]).run P W = .ok v' w' ∧ Own w' B e k v' (l ++ ds) ∧ Below B W w' := by
 obtain ⟨i0, hi0, hz0, hz1, hz2⟩ := info_parts hinfo
 obtain ⟨v', w', hrun, h2, h3, -⟩ := run_append_own (P := P) W B t t e i0 z 1 bytes ht hi0 hz0 hz1 hz2 hz (by decide) pv l.length (vals k l) hown
  ⟨b, o, none⟩ ds.length c (vals k ds) (by simp [vals]) (fun j u hu => by
   have hj : j < ds.length := by have := (List.getElem?_eq_some_iff.1 hu).1; simpa [vals] using this
   have := hd.cell j hj
   rw [adr_some] at this
   rw [add_one_cell, this, ← hu]
   simp [vals, nth, List.getD, hj]) (fun u hu => by
   obtain ⟨x, _, rfl⟩ := List.mem_map.1 hu
   rfl) hl hlen hB
 have hlt := hown.lt
 refine ⟨v', w', hrun, ?_, ?_⟩
 ·simpa [Own, vals] using h2
 ·exact (Below.refl _ _).grown h3 hB (fun b hb => (hlt b hb).1)
section
variable {w : World} {g : Nat} {a b u0 u1 : Value} {t : TypeId}
def put2 (w : World) (g : Nat) (a b : Value) : World := (w.setCell ⟨g, 0, none⟩ a).setCell ⟨g, 1, none⟩ b
end

def ptN (r : RV) (x y : Int) : Int := if r.den.k = 0 then x else if y = 0 then 0 else if y < 0 then -x else x
def ptD (r : RV) (y : Int) : Int := if r.den.k = 0 then 1 else if y = 0 then 1 else if y < 0 then -y else y
theorem pt_eq (r : RV) (x y : Int) : Rat.divInt (ptN r x y) (ptD r y) = if r.den.k = 0 then Rat.divInt x 1 else Rat.divInt x y := by
 unfold ptN ptD
 split
 ·rfl
 ·split
  ·rename_i h; rw [h]; simp [Rat.divInt_zero]
  ·split
   ·exact Rat.neg_divInt_neg x y
   ·rfl
theorem RatD.parts {r : RV} {q : Rat} {n : Nat} {w : World} (h : RatD r q n w) : ∃ x y, IntD r.num x n w ∧ IntD r.den y n w ∧ Rat.divInt (ptN r x y) (ptD r y) = q := by
 obtain ⟨x, y, hx, hy, hq⟩ := h.ex
 exact ⟨x, y, hx, hy, by rw [pt_eq, hq]⟩
section
variable {w W W' : World} {g : Nat} {p e : IV} {x d : Int} {n : Nat}
end
theorem z1 {X W' : World} (hb : Below (X.alloc (.cells #[.bool false, .slice none 0 0] 28)).heap.size (X.alloc (.cells #[.bool false, .slice none 0 0] 28)) W') : Blk W' X.heap.size 28 #[.bool false, .slice none 0 0] := (Blk.new X _ _).below hb (by simp)
theorem z2 {X W' : World} (hb : Below ((X.alloc (.cells #[.bool false, .slice none 0 0] 28)).alloc (.cells #[.bool false, .slice none 0 0] 28)).heap.size ((X.alloc (.cells #[.bool false, .slice none 0 0] 28)).alloc (.cells #[.bool false, .slice none 0 0] 28)) W') : Blk W' X.heap.size 28 #[.bool false, .slice none 0 0] ∧ Blk W' (X.heap.size + 1) 28 #[.bool false, .slice none 0 0] :=
 ⟨((Blk.new X _ _).alloc _).below hb (by simp; omega), by have := (Blk.new (X.alloc (.cells #[.bool false, .slice none 0 0] 28)) 28 #[.bool false, .slice none 0 0]).below hb (by simp); simpa using this⟩
theorem size_ints (w : World) : (sizeOf (Tryz.prog.elem 51)).run Tryz.prog w = .ok 1 w := by kernel_rfl
theorem under_ints : Tryz.prog.underlying 51 = some (.slice 3) := by kernel_rfl
def ic (p : Int) : Array Value := #[.int .i64 p]
theorem El.ic {w : World} {A : Option Addr} {P : List Int} (h : El w 1 A (P.map ic)) (i : Nat) (hi : i < P.length) : w.cell? (adr A i) = some (.int .i64 P[i]) := by
 have hc := h.cell i (by simpa using hi) 0 (by decide)
 rw [Nat.mul_one, Nat.add_zero, List.getElem_map] at hc
 exact hc
theorem GL.after {w W W' : World} {ls : List Ow} {bs : List Bo} {old new old' new' : World → Prop} (h : GL w ls old new W) (he : Env W bs old' new' W') : GL w ls old new W' :=
 (h.keep (ψ := fun _ => True) (Rests.pure trivial _ _) he.bel).imp (fun _ h => h) (fun _ h => h.2)
theorem vs2 {n g : Nat} {A : Option Addr} {c : Nat} {ts : List TeV} {W : World} {t : TypeId} (h : Blk W g t #[.slice none 0 0, .slice A ts.length c]) (ht : LsR 5 tecells (teD n) A ts W) : LsR 1 vecells (veD n) (some ⟨g, 0, none⟩) [⟨none, 0, []⟩, ⟨A, c, ts⟩] W := by
 refine ⟨⟨Sl.some_ _ _ _, fun i hi => ?_, fun i hi j hj => ?_⟩, fun p hp => ?_⟩
 ·match i, hi with
  | 0, _ => rfl
  | 1, _ => rfl
 ·obtain rfl : j = 0 := by omega
  rw [adr_some]
  match i, hi with
  | 0, _ => exact h.cell 0
  | 1, _ => exact h.cell 1
 ·simp only [List.mem_cons, List.not_mem_nil, or_false] at hp
  rcases hp with rfl | rfl
  ·exact LsR.nil_ none
  ·exact ht
theorem IntD.uniq {i : IV} {x y : Int} {n m : Nat} {w : World} (h : IntD i x n w) (h' : IntD i y m w) : x = y := by
 obtain ⟨l, hk, hrd, -, hv⟩ := h.ex
 obtain ⟨l', hk', hrd', -, hv'⟩ := h'.ex
 have e : l = l' := nth_all _ _ (by omega) fun t ht => by
  have c1 := hrd.cell t ht
  have c2 := hrd'.cell t (by omega)
  rw [c1] at c2
  have c3 : ((nth l t : Nat) : Int) = ((nth l' t : Nat) : Int) := by simpa using c2
  omega
 rw [← hv, ← hv', e]
theorem RatD.uniq {r : RV} {p q : Rat} {n m : Nat} {w : World} (h : RatD r p n w) (h' : RatD r q m w) : p = q := by
 obtain ⟨x, d, hx, hd, e⟩ := h.ex
 obtain ⟨x', d', hx', hd', e'⟩ := h'.ex
 rw [e, e', hx.uniq hx', hd.uniq hd']
theorem RatN.someD {r : RV} {q : Rat} {w : World} (h : RatN r q w) : ∃ n, RatD r q n w :=
 ⟨q.num.natAbs + q.den, h.rat ⟨Nat.lt_of_lt_of_le (Nat.lt_pow_self (by decide)) (Nat.pow_le_pow_right (by decide) (Nat.le_add_right _ _)), Nat.lt_of_lt_of_le (Nat.lt_pow_self (by decide)) (Nat.pow_le_pow_right (by decide) (Nat.le_add_left _ _))⟩⟩
theorem RatN.uniq {r : RV} {p q : Rat} {n : Nat} {w : World} (h : RatD r p n w) (h' : RatN r q w) : p = q := by
 obtain ⟨m, hm⟩ := h'.someD
 exact h.uniq hm
section
variable {P : Program} {ops : Array Oper} {Q : Exit → Act → World → Prop} {md : Region.Mode} {S : World → Prop} {s : Nat}

def wpAnyG (P : Program) (md : Region.Mode) (ops : Array Oper) (Q : Exit → Act → World → Prop) (S : World → Prop) (s : Nat) : Nat → Array Bool → Act → World → Prop
 | 0, listed, a, w => Region.ready md ops listed = [] ∧ Q .normal a w
 | fuel + 1, listed, a, w =>
  (Region.ready md ops listed = [] → Q .normal a w) ∧
  ∀ i ∈ Region.ready md ops listed, wpOp P ops Q i (fun a' w' => (i = s ∨ S w') ∧ wpAnyG P md ops Q S s fuel (listed.setIfInBounds i true) a' w') a w
theorem wpAny_of_G : ∀ (fuel : Nat) (listed : Array Bool) (a : Act) (w : World), wpAnyG P md ops Q S s fuel listed a w → wpAny P md ops Q fuel listed a w
 | 0, _, _, _, h => h
 | fuel + 1, _, _, _, h => ⟨h.1, fun i hi => wpOp_mono (fun a' w' h' => wpAny_of_G fuel _ a' w' h'.2) (h.2 i hi)⟩
def waitsFor (md : Region.Mode) (ops : Array Oper) (s i : Nat) : Bool :=
 match ops[s]? with
 | none => true
 | some o => o.after.any fun e => Region.binds md e && e.on == i
theorem wpAnyG_first {i : Nat} {oi : Oper} {v : Value} (hi : ops[i]? = some oi) (hsel : ∀ (j : Nat) (o : Oper) cs b, ops[j]? = some o → o.op ≠ .select cs b)
 (hQ : ∀ c a w, Q (.panic c) (a.put oi.dst v) w → Q (.panic c) a w) (his : waitsFor md ops s i = true) :
 ∀ (fuel : Nat) (listed : Array Bool) (a : Act) (w : World),
  (∀ j oj, ops[j]? = some oj → j ≠ i → listed.getD j true = false → (∀ e ∈ oj.after, Region.binds md e = true → e.on ≠ i) → oi.apart ops oj = true) →
  i ∈ Region.ready md ops listed → YieldsIf P ops S oi v a → S w →
  wpAnyG P md ops Q S s fuel (listed.setIfInBounds i true) (a.put oi.dst v) w → wpAnyG P md ops Q S s (fuel + 1) listed a w := by
 intro fuel
 induction fuel with
 | zero =>
  intro listed a w _ hr hy hS H
  refine ⟨fun h => (by rw [h] at hr; cases hr), fun j hj => ?_⟩
  by_cases hji : j = i
  ·subst hji; exact hy.wpOp hi hS ⟨.inr hS, H⟩
  ·have := ready_mono hj hji
   rw [H.1] at this
   cases this
 | succ fuel ih =>
  intro listed a w hfree hr hy hS H
  refine ⟨fun h => (by rw [h] at hr; cases hr), fun j hj => ?_⟩
  by_cases hji : j = i
  ·subst hji; exact hy.wpOp hi hS ⟨.inr hS, H⟩
  ·have h1 := H.2 j (ready_mono hj hji)
   obtain ⟨hjun, oj, hoj, hall⟩ := mem_ready.1 hj
   have hnot : ∀ e ∈ oj.after, Region.binds md e = true → e.on ≠ i := fun e he hb heq => by
    have h1 := hall e he hb
    have h0 := (mem_ready.1 hr).1
    rw [heq] at h1
    rcases Nat.lt_or_ge i listed.size with h' | h'
    ·simp [h'] at h0 h1; rw [h0] at h1; cases h1
    ·simp [Array.getElem?_eq_none h'] at h1
   have hjs : j ≠ s := fun e => by
    subst e
    unfold waitsFor at his
    rw [hoj] at his
    obtain ⟨e, he, hb⟩ := Array.any_eq_true'.1 his
    simp only [Bool.and_eq_true, beq_iff_eq] at hb
    exact hnot e he hb.1 hb.2
   have h2 := wpOp_putIf hoj (hfree j oj hoj hji hjun hnot) (fun cs b => hsel i oi cs b hi) (fun cs b => hsel j oj cs b hoj) hQ hy h1
   have hfree' : ∀ k ok, ops[k]? = some ok → k ≠ i → (listed.setIfInBounds j true).getD k true = false →
    (∀ e ∈ ok.after, Region.binds md e = true → e.on ≠ i) → oi.apart ops ok = true := fun k ok hk hki hun hno => by
    refine hfree k ok hk hki ?_ hno
    by_cases hjk : j = k
    ·subst hjk; exact hjun
    ·rw [_root_.Go.getD_set_ne true hjk] at hun; exact hun
   refine wpOp_mono (fun a' w' h3 => ?_) h2
   have hS' : S w' := h3.2.1.resolve_left hjs
   refine ⟨h3.2.1, ih (listed.setIfInBounds j true) a' w' hfree' (ready_mono hr (Ne.symm hji)) h3.1 hS' ?_⟩
   rw [Array.setIfInBounds_comm _ _ hji]
   exact h3.2.2
def gOk (md : Region.Mode) (ops : Array Oper) (listed : Array Bool) (i s : Nat) : Bool :=
 Region.noSelect ops && Region.free md ops listed i && (Region.ready md ops listed).contains i && waitsFor md ops s i
theorem gT (i : Nat) {oi : Oper} {v : Value} {fuel : Nat} {listed : Array Bool} {a : Act} {w : World} (d : Option Nat) (hi : ops[i]? = some oi) (hd : oi.dst = d) (hok : gOk md ops listed i s = true)
 (hQ : ∀ c a w, Q (.panic c) (a.put d v) w → Q (.panic c) a w) (hS : S w) (hy : Region.wanted oi (yielded ops a.tmps) = true ∧ ∀ w, S w → (execOp a.eval oi).run P w = .ok (.value v) w)
 (h : wpAnyG P md ops Q S s fuel (listed.setIfInBounds i true) (a.put d v) w) : wpAnyG P md ops Q S s (fuel + 1) listed a w := by
 subst hd
 unfold gOk at hok
 obtain ⟨h1, h4⟩ := Bool.and_eq_true_iff.1 hok
 obtain ⟨h1, h3⟩ := Bool.and_eq_true_iff.1 h1
 obtain ⟨h1, h2⟩ := Bool.and_eq_true_iff.1 h1
 exact wpAnyG_first hi (Region.noSelect_spec h1) hQ h4 fuel listed a w (Region.free_spec hi h2) (by simpa using h3) (.inl hy) hS h
theorem gTa (i d : Nat) {oi : Oper} {v : Value} {fuel : Nat} {listed l2 : Array Bool} {a a2 : Act} {w : World} (hS : S w)
 (h : wpAnyG P md ops Q S s fuel l2 a2 w) (hi : ops[i]? = some oi := by rfl) (hd : oi.dst = some d := by rfl) (hok : gOk md ops listed i s = true := by kernel_rfl) (hw : Region.wanted oi (yielded ops a.tmps) = true := by rfl)
 (hy : ∀ w, S w → (execOp a.eval oi).run P w = .ok (.value v) w := by (intro w hSw; (try dsimp only at hSw); (first | (go_simp; done) | (go_simp; with_reducible rfl))))
 (hl : listed.setIfInBounds i true = l2 := by ((try simp only [p2, p3, p4]); exact rfl)) (ha : a.put (some d) v = a2 := by ((try simp only [p1, p2, p3, p4]); exact rfl))
 (hQ : ∀ c a w, Q (.panic c) (a.put (some d) v) w → Q (.panic c) a w := by exact fun _ _ _ h => h) : wpAnyG P md ops Q S s (fuel + 1) listed a w := by
 subst hl ha
 exact gT i (some d) hi hd hok hQ hS ⟨hw, hy⟩ h
theorem gC (i : Nat) {o : Oper} {fuel : Nat} {listed : Array Bool} {a : Act} {w : World} (hi : ops[i]? = some o) (hr : Region.ready md ops listed = [i]) (hw : Region.wanted o (yielded ops a.tmps) = true)
 (h : ∀ K : Act → World → Prop, Shut (∀ a w, S w → (S w → wpAnyG P md ops Q S s fuel (listed.setIfInBounds i true) a w) → K a w) → Oper.wp P o a w K Q) : wpAnyG P md ops Q S s (fuel + 1) listed a w := by
 refine ⟨fun h0 => (by rw [hr] at h0; cases h0), fun j hj => ?_⟩
 rw [hr] at hj
 obtain rfl := List.mem_singleton.1 hj
 exact wpOp_step hi (fun K' hK => by
  rw [if_pos hw]
  exact h K' (fun a w hS hn => hK a w ⟨.inr hS, hn hS⟩))
theorem gL {o : Oper} {fuel : Nat} {listed : Array Bool} {a : Act} {w : World} (hi : ops[s]? = some o) (hr : Region.ready md ops listed = [s]) (hr2 : Region.ready md ops (listed.setIfInBounds s true) = []) (hw : Region.wanted o (yielded ops a.tmps) = true)
 (h : ∀ K : Act → World → Prop, Shut (∀ a w, Q .normal a w → K a w) → Oper.wp P o a w K Q) : wpAnyG P md ops Q S s (fuel + 1) listed a w := by
 refine ⟨fun h0 => (by rw [hr] at h0; cases h0), fun j hj => ?_⟩
 rw [hr] at hj
 obtain rfl := List.mem_singleton.1 hj
 exact wpOp_step hi (fun K' hK => by
  rw [if_pos hw]
  exact h K' (fun a w hn => hK a w ⟨.inl rfl, by
   cases fuel with
   | zero => exact ⟨hr2, hn⟩
   | succ fuel => exact ⟨fun _ => hn, by rw [hr2]; simp⟩⟩))
theorem wp_region_G {id : Nat} {a : Act} {w : World} (s : Nat) (S : World → Prop) (hm : P.follows .mixedOrders = true) (hS : S w.drew)
 (h : S w.drew → wpAnyG P .any ops Q S s ops.size (Array.replicate ops.size false) a w.drew) : (Code.region id ops true).wp P Q a w :=
 wp_region_any hm (wpAny_of_G _ _ _ _ (h hS))
end

theorem rtcells_one (p : RV × Rat) : ∀ u ∈ (rtcells p).toList, u.oneCell' = true := by
 intro u hu
 simp only [rtcells, List.mem_cons, List.not_mem_nil, or_false] at hu
 rcases hu with rfl | rfl | rfl | rfl <;> rfl
section
variable {P : Program}
@[go_sem] theorem run_indexAt_el9 (w : World) (t : TypeId) (A : Option Addr) (len cap : Nat) (k : IntKind) (i : Int) (hs : Sl A len)
 (h : P.underlying t = some (.slice (P.elem t))) (h1 : (sizeOf (P.elem t)).run P w = .ok 9 w) :
 (Instr.indexAt t (.slice A len cap) (.int k i)).run P w =
  if 0 ≤ i ∧ i < len then .ok (.pointer (some (adr A (i.toNat * 9)))) w else (boundsPanic k i len .index).run P w := by
 rcases A with _ | a
 ·have h0 : len = 0 := by
   rcases Nat.eq_zero_or_pos len with h | h
   ·exact h
   ·obtain ⟨_, _, h⟩ := hs h; cases h
  subst h0
  rw [if_neg (by omega)]
  simp [Instr.indexAt, run_underlying h, asIntOf]
 ·rw [run_indexAt_slice w t a len cap k i h]
  split
  ·rename_i hi
   obtain ⟨b, o, e⟩ := hs (by omega)
   cases e
   rw [h1]
   simp only [Result.andThen_ok, add_one_cell, adr_some]
  ·rfl
@[go_sem] theorem run_indexAt_el6 (w : World) (t : TypeId) (A : Option Addr) (len cap : Nat) (k : IntKind) (i : Int) (hs : Sl A len)
 (h : P.underlying t = some (.slice (P.elem t))) (h1 : (sizeOf (P.elem t)).run P w = .ok 6 w) :
 (Instr.indexAt t (.slice A len cap) (.int k i)).run P w =
  if 0 ≤ i ∧ i < len then .ok (.pointer (some (adr A (i.toNat * 6)))) w else (boundsPanic k i len .index).run P w := by
 rcases A with _ | a
 ·have h0 : len = 0 := by
   rcases Nat.eq_zero_or_pos len with h | h
   ·exact h
   ·obtain ⟨_, _, h⟩ := hs h; cases h
  subst h0
  rw [if_neg (by omega)]
  simp [Instr.indexAt, run_underlying h, asIntOf]
 ·rw [run_indexAt_slice w t a len cap k i h]
  split
  ·rename_i hi
   obtain ⟨b, o, e⟩ := hs (by omega)
   cases e
   rw [h1]
   simp only [Result.andThen_ok, add_one_cell, adr_some]
  ·rfl
end
structure VaV where
 lo : RV × Rat
 hi : RV × Rat
 int : Bool
structure RoV where
 A : Option Addr
 c : Nat
 ts : List TeV
 kind : Int
 b : RV × Rat
@[reducible] def VC (A : Option Addr) (i : Nat) (v : VaV) (W : World) : Prop :=
 W.cell? (adr A (i * 9)) = some (.bool v.lo.1.num.neg) ∧ W.cell? (adr A (i * 9 + 1)) = some (.slice v.lo.1.num.A v.lo.1.num.k v.lo.1.num.c) ∧ W.cell? (adr A (i * 9 + 2)) = some (.bool v.lo.1.den.neg) ∧ W.cell? (adr A (i * 9 + 3)) = some (.slice v.lo.1.den.A v.lo.1.den.k v.lo.1.den.c) ∧ W.cell? (adr A (i * 9 + 4)) = some (.bool v.hi.1.num.neg) ∧ W.cell? (adr A (i * 9 + 5)) = some (.slice v.hi.1.num.A v.hi.1.num.k v.hi.1.num.c) ∧ W.cell? (adr A (i * 9 + 6)) = some (.bool v.hi.1.den.neg) ∧ W.cell? (adr A (i * 9 + 7)) = some (.slice v.hi.1.den.A v.hi.1.den.k v.hi.1.den.c) ∧ W.cell? (adr A (i * 9 + 8)) = some (.bool v.int)
@[reducible] def WC (A : Option Addr) (i : Nat) (v : RoV) (W : World) : Prop :=
 W.cell? (adr A (i * 6)) = some (.slice v.A v.ts.length v.c) ∧ W.cell? (adr A (i * 6 + 1)) = some (.int .u8 v.kind) ∧ W.cell? (adr A (i * 6 + 2)) = some (.bool v.b.1.num.neg) ∧ W.cell? (adr A (i * 6 + 3)) = some (.slice v.b.1.num.A v.b.1.num.k v.b.1.num.c) ∧ W.cell? (adr A (i * 6 + 4)) = some (.bool v.b.1.den.neg) ∧ W.cell? (adr A (i * 6 + 5)) = some (.slice v.b.1.den.A v.b.1.den.k v.b.1.den.c)
theorem made_flatz {z : Array Value} {sz : Nat} (hz : z.size = sz) (hsz : 0 < sz) (n : Nat) : madeCells z (n * sz) = (flatC (List.replicate n z)).toArray := by
 have hs : ∀ c ∈ List.replicate n z, c.size = sz := fun c hc => by rw [List.eq_of_mem_replicate hc]; exact hz
 have hl := flatC_len hs
 rw [List.length_replicate] at hl
 apply Array.toList_inj.1
 apply List.ext_getElem?
 intro k
 by_cases hk : k < n * sz
 ·obtain ⟨a, b, rfl, hb⟩ : ∃ a b, k = a * sz + b ∧ b < sz := ⟨k / sz, k % sz, by rw [Nat.mul_comm, Nat.div_add_mod], Nat.mod_lt _ hsz⟩
  have ha : a < n := by
   rcases Nat.lt_or_ge a n with h | h
   ·exact h
   ·have := Nat.mul_le_mul_right sz h; omega
  rw [flatC_get hs a b (by simpa using ha) hb, List.getElem_replicate]
  have e : (madeCells z (n * sz)).toList[a * sz + b]? = some (z[(a * sz + b) % z.size]!) := by
   simp [madeCells, hk]
  have e2 : (a * sz + b) % z.size = b := by
   rw [hz, Nat.add_comm, Nat.add_mul_mod_self_right, Nat.mod_eq_of_lt hb]
  rw [e, e2]
  simp [hz, hb]
 ·rw [List.getElem?_eq_none (by rw [Array.length_toList, size_madeCells]; omega), List.getElem?_eq_none (by rw [List.toList_toArray, hl]; omega)]
theorem OwnE.of_blk {W : World} {B : Nat} {e : TypeId} {sz g : Nat} {cs : List (Array Value)} (hB : B ≤ g) (hs : ∀ c ∈ cs, c.size = sz) (hl : cs.length ≤ maxLen) (hb : Blk W g e (flatC cs).toArray) : OwnE W B e sz (.slice (some ⟨g, 0, none⟩) cs.length cs.length) cs := by
 have h1 := flatC_len hs
 exact ⟨hs, by rw [h1], .inr ⟨g, cs.length, (flatC cs).toArray, rfl, hB, hb, Nat.le_refl _, hl, by rw [List.size_toArray, h1], by rw [List.toList_toArray, List.take_of_length_le (Nat.le_of_eq h1)]⟩⟩
section
variable {w W W' : World} {ls : List Ow} {bs : List Bo} {old new φ ψ : World → Prop}
theorem perm_at {α : Type} {l : List α} {k : Nat} (hk : k < l.length) : (l[k] :: l.eraseIdx k).Perm l := by
 conv => rhs; rw [← List.take_append_drop k l, List.drop_eq_getElem_cons hk]
 rw [List.eraseIdx_eq_take_drop_succ]
 exact List.perm_middle.symm
theorem GL.goAt {k : Nat} {o o' : Ow} {X : World} (h : GL w ls old new W) (hk : ls[k]? = some o) (he : Rests X (fun n => W.heap.size ≤ n) ψ) (hX : Below W.heap.size W X) (ho : OwnE W' w.heap.size o'.e o'.sz o'.v o'.cs) (hb : Below w.heap.size X W')
 (hkk : ∀ b, b < X.heap.size → o.v.ownBlock ≠ some b → W'.heap[b]? = X.heap[b]?) (hs : X.heap.size ≤ W'.heap.size) (hor : o'.v.ownBlock = o.v.ownBlock ∨ ∃ b, o'.v.ownBlock = some b ∧ X.heap.size ≤ b) :
 GL w (ls.set k o') old (fun V => ψ V ∧ new V) W' := by
 obtain ⟨hk', rfl⟩ := List.getElem?_eq_some_iff.1 hk
 have p1 : (ls[k] :: ls.eraseIdx k).Perm ls := perm_at hk'
 have p2 : (ls.set k o').Perm (o' :: ls.eraseIdx k) := by
  have := (perm_at (l := ls.set k o') (k := k) (by simpa using hk')).symm
  rwa [List.getElem_set_self, List.eraseIdx_set_eq] at this
 exact ((h.perm p1).go he hX ho hb hkk hs hor).perm p2
theorem GL.call (h : GL w ls old new W) (hk : Rests W' (fun n => W.heap.size ≤ n) ψ) (hb : Below W.heap.size W W') : GL w ls old (fun V => ψ V ∧ new V) W' := h.keep hk hb
theorem GL.drew (h : GL w ls old new W) : GL w ls old new W.drew := ⟨fun o ho => (h.own o ho).drew, h.nd, h.rso.drew, h.rsn.drew, h.bel.drew⟩
theorem GL.box (h : GL w ls old new W) (t : TypeId) (cs : Array Value) : GL w ls old (fun V => Blk V W.heap.size t cs ∧ new V) (W.alloc (.cells cs t)) :=
 h.keep ⟨Blk.new W t cs, fun w' hw => (hw W.heap.size (Nat.le_refl _) (by simp)).trans (Blk.new W t cs)⟩ ((Below.refl _ W).alloc (Nat.le_refl _) _)
theorem GL.setg {k i j : Nat} {e : TypeId} {sz g n cap : Nat} {cs : List (Array Value)} (h : GL w ls old new W) (hk : ls[k]? = some ⟨e, sz, .slice (some ⟨g, 0, none⟩) n cap, cs⟩) (hi : i < cs.length) (hj : j < sz) (u : Value) :
 GL w (ls.set k ⟨e, sz, .slice (some ⟨g, 0, none⟩) n cap, cs.set i ((cs[i]).setIfInBounds j u)⟩) old new (W.setCell ⟨g, i * sz + j, none⟩ u) := by
 have ho : OwnE W w.heap.size e sz (.slice (some ⟨g, 0, none⟩) n cap) cs := h.own _ (List.mem_of_getElem? hk)
 have hg := ho.lt g rfl
 refine (GL.goAt (ψ := fun _ => True) h hk (.pure trivial _ _) (Below.refl _ _) (o' := ⟨e, sz, .slice (some ⟨g, 0, none⟩) n cap, cs.set i ((cs[i]).setIfInBounds j u)⟩) (ho.set1 i j hi hj u) ((Below.refl _ W).setCell (show w.heap.size ≤ (⟨g, i * sz + j, none⟩ : Addr).block from hg.1) u) (fun b _ hne => ?_) ?_ (.inl rfl)).imp (fun _ h => h) fun _ h => h.2
 ·exact Below.heap_setCell W _ u b fun e' => hne (by rw [e']; rfl)
 ·simp [World.setCell]
theorem set_at {α : Type} (l : List α) (k : Nat) (a b : α) (h : l[k]? = some a) : (l.set k b)[k]? = some b := by
 obtain ⟨h1, -⟩ := List.getElem?_eq_some_iff.1 h
 rw [List.getElem?_set_self h1]
theorem GL.set1 {k i : Nat} {e : TypeId} {g n cap : Nat} {A : Option Addr} (hA : A = some ⟨g, 0, none⟩) {cs : List (Array Value)} (h : GL w ls old new W) (hk : ls[k]? = some ⟨e, 1, .slice A n cap, cs⟩) (hi : i < cs.length) (u : Value) :
 GL w (ls.set k ⟨e, 1, .slice A n cap, cs.set i #[u]⟩) old new (W.setCell (adr A i) u) := by
 subst hA
 obtain ⟨x, hx⟩ : ∃ x, x = cs[i] := ⟨_, rfl⟩
 have hxs : x.size = 1 := by rw [hx]; exact (h.own _ (List.mem_of_getElem? hk)).1 _ (List.getElem_mem hi)
 have h0 := h.setg hk hi (j := 0) (by decide) u
 rw [← hx, show x.setIfInBounds 0 u = #[u] from by
  obtain ⟨l⟩ := x
  match l, hxs with
  | [_], _ => rfl] at h0
 rw [adr_some, Nat.zero_add]
 simpa using h0
theorem set4_arr (x : Array Value) (hx : x.size = 4) (a b c d : Value) : (((x.setIfInBounds 0 a).setIfInBounds 1 b).setIfInBounds 2 c).setIfInBounds 3 d = #[a, b, c, d] := by
 obtain ⟨l⟩ := x
 match l, hx with
 | [_, _, _, _], _ => rfl
theorem GL.set4 {k i : Nat} {e : TypeId} {g n cap : Nat} {A : Option Addr} (hA : A = some ⟨g, 0, none⟩) {cs : List (Array Value)} (h : GL w ls old new W) (hk : ls[k]? = some ⟨e, 4, .slice A n cap, cs⟩) (hi : i < cs.length) (a b c d : Value) :
 GL w (ls.set k ⟨e, 4, .slice A n cap, cs.set i #[a, b, c, d]⟩) old new ((((W.setCell (adr A (i * 4)) a).setCell (adr A (i * 4 + 1)) b).setCell (adr A (i * 4 + 2)) c).setCell (adr A (i * 4 + 3)) d) := by
 subst hA
 have e0 : ∀ k, adr (some ⟨g, 0, none⟩) k = ⟨g, k, none⟩ := fun k => by rw [adr_some, Nat.zero_add]
 simp only [e0]
 obtain ⟨x, hx⟩ : ∃ x, x = cs[i] := ⟨_, rfl⟩
 have hxs : x.size = 4 := by rw [hx]; exact (h.own _ (List.mem_of_getElem? hk)).1 _ (List.getElem_mem hi)
 have h0 := h.setg hk hi (j := 0) (by decide) a
 have h1 := h0.setg (set_at _ _ _ _ hk) (i := i) (by simpa using hi) (j := 1) (by decide) b
 have h2 := h1.setg (set_at _ _ _ _ (set_at _ _ _ _ hk)) (i := i) (by simpa using hi) (j := 2) (by decide) c
 have h3 := h2.setg (set_at _ _ _ _ (set_at _ _ _ _ (set_at _ _ _ _ hk))) (i := i) (by simpa using hi) (j := 3) (by decide) d
 simp only [List.getElem_set_self, List.set_set, ← hx] at h3
 rw [set4_arr x hxs] at h3
 exact h3
theorem GL.cell {k i j : Nat} {e : TypeId} {sz n cap : Nat} {A : Option Addr} {cs : List (Array Value)} (h : GL w ls old new W) (hk : ls[k]? = some ⟨e, sz, .slice A n cap, cs⟩) (hi : i < cs.length) (hj : j < sz) : W.cell? (adr A (i * sz + j)) = (cs[i])[j]? :=
 ((h.own _ (List.mem_of_getElem? hk)).el).1.cell i hi j hj
theorem GL.free {k : Nat} {e : TypeId} {sz g n cap : Nat} {A : Option Addr} (hA : A = some ⟨g, 0, none⟩) {cs : List (Array Value)} (h : GL w ls old new W) (hk : ls[k]? = some ⟨e, sz, .slice A n cap, cs⟩) (i : Nat) : W.frozen? (adr A i) = false :=
 (h.own _ (List.mem_of_getElem? hk)).free hA i
theorem GL.add {e : TypeId} {sz : Nat} {cs : List (Array Value)} (h : GL w ls old new W) (hs : ∀ c ∈ cs, c.size = sz) (hl : cs.length ≤ maxLen) : GL w (⟨e, sz, .slice (some ⟨W.heap.size, 0, none⟩) cs.length cs.length, cs⟩ :: ls) old new (W.alloc (.cells (flatC cs).toArray e)) := by
 refine (GL.go (X := W) (ψ := fun _ => True) (o' := ⟨e, sz, .slice (some ⟨W.heap.size, 0, none⟩) cs.length cs.length, cs⟩) (h.new_ e sz) (.pure trivial _ _) (Below.refl _ _) (OwnE.of_blk h.bel.size hs hl (Blk.new W e _)) ((Below.refl _ W).alloc h.bel.size _) (fun b hb _ => Below.heap_alloc W _ b hb) (by simp) (.inr ⟨W.heap.size, rfl, Nat.le_refl _⟩)).imp (fun _ h => h) fun _ h => h.2
theorem GL.addz {e : TypeId} {sz : Nat} {z : Array Value} (h : GL w ls old new W) (hz : z.size = sz) (hsz : 0 < sz) (L : Nat) (hl : L ≤ maxLen) : GL w (⟨e, sz, .slice (some ⟨W.heap.size, 0, none⟩) L L, List.replicate L z⟩ :: ls) old new (W.alloc (.cells (madeCells z (L * sz)) e)) := by
 have h1 := h.add (e := e) (sz := sz) (cs := List.replicate L z) (fun c hc => by rw [List.eq_of_mem_replicate hc]; exact hz) (by simpa using hl)
 rw [← made_flatz hz hsz L, List.length_replicate] at h1
 exact h1
theorem GL.addb (h : GL w ls old new W) (e : TypeId) (c : Array Value) : GL w (⟨e, c.size, .slice (some ⟨W.heap.size, 0, none⟩) 1 1, [c]⟩ :: ls) old new (W.alloc (.cells c e)) := by
 have h1 := h.add (e := e) (sz := c.size) (cs := [c]) (fun x hx => by rw [List.mem_singleton.1 hx]) (by simp [maxLen])
 rw [show (flatC [c]).toArray = c from by simp [flatC]] at h1
 exact h1
theorem GL.appAt {P : Program} {t e : TypeId} {k sz bytes : Nat} {z v : Value} {cs : List (Array Value)} (ht : P.underlying t = some (.slice e)) (hinfo : (P.info? e).map (fun i => (i.zero, i.size, i.bytes)) = some (some z, sz, bytes)) (hz : z.cells.size = sz) (hsz : 0 < sz)
 (h : GL w ls old new W) (hk : ls[k]? = some ⟨e, sz, v, cs⟩) {b of : Nat} {d : Array Value} {c : Nat} (hd : El W sz (some ⟨b, of, none⟩) [d]) (h1 : ∀ u ∈ d.toList, u.oneCell' = true) (hlen : (cs.length + 1) * bytes ≤ 140737488355328) (hl : cs.length + 1 ≤ maxLen) :
 ∃ v' w', (Builtin.append_ #[t, t] t #[v, .slice (some ⟨b, of, none⟩) 1 c]).run P W = .ok v' w' ∧ GL w (ls.set k ⟨e, sz, v', cs ++ [d]⟩) old new w' ∧ Below w.heap.size W w' ∧ (∃ A n cap, v' = .slice A n cap) := by
 have hown : OwnE W w.heap.size e sz v cs := h.own _ (List.mem_of_getElem? hk)
 obtain ⟨v', w', hrun, ho, hb, hkk, hs, hor⟩ := OwnE.apps ht hinfo hz hsz hown (c := c) (ds := [d]) hd (fun d' hd' u hu => by
  rw [List.mem_singleton.1 hd'] at hu
  exact h1 u hu) hlen hl h.bel.size
 obtain ⟨A, cap, hv, -⟩ := ho.form
 refine ⟨v', w', hrun, (GL.goAt (ψ := fun _ => True) (o' := ⟨e, sz, v', cs ++ [d]⟩) h hk (.pure trivial _ _) (Below.refl _ _) ho hb hkk hs ?_).imp (fun _ h => h) (fun _ h => h.2), hb, A, _, cap, hv⟩
 rcases hor with e | e
 ·exact .inl e
 ·exact .inr ⟨_, e, Nat.le_refl _⟩
@[reducible] def bow (g : Nat) (t : TypeId) (sz : Nat) (c : Array Value) : Ow := ⟨t, sz, .slice (some ⟨g, 0, none⟩) 1 1, [c]⟩
theorem GL.ofEnv {bs1 bs2 : List Bo} (h : Env w (bs1 ++ bs2) old new W) : GL w (bs1.map fun b => bow b.g b.t b.cs.size b.cs) (fun V => (∀ b ∈ bs2, Blk V b.g b.t b.cs) ∧ old V) new W := by
 have hnd := List.pairwise_append.1 h.nd
 have hn : ∀ n, (∀ b ∈ bs1 ++ bs2, b.g ≠ n) → ∀ o ∈ bs1.map (fun b => bow b.g b.t b.cs.size b.cs), o.v.ownBlock ≠ some n := fun n hn o ho e => by
  obtain ⟨b, hb, rfl⟩ := List.mem_map.1 ho
  injection e with e
  exact hn b (List.mem_append_left _ hb) e
 refine ⟨fun o ho => ?_, ?_, ?_, h.rsn.mono fun n hn' => ⟨hn'.1, hn n hn'.2⟩, h.bel⟩
 ·obtain ⟨b, hb, rfl⟩ := List.mem_map.1 ho
  exact OwnE.of_blk (cs := [b.cs]) (h.own b (List.mem_append_left _ hb)) (fun x hx => by rw [List.mem_singleton.1 hx]) (by simp [maxLen]) (by rw [show (flatC [b.cs]).toArray = b.cs from by simp [flatC]]; exact h.bx b (List.mem_append_left _ hb))
 ·refine List.pairwise_map.2 (hnd.1.imp fun {a b} hab k ha hb => ?_)
  injection ha with ha
  injection hb with hb
  exact hab (ha.trans hb.symm)
 ·refine Rests.and (Rests.all (φ := fun (b : Bo) V => Blk V b.g b.t b.cs) fun b hb => ⟨h.bx b (List.mem_append_right _ hb), fun w' hw => (hw b.g (fun o ho e => ?_) (h.bx b (List.mem_append_right _ hb)).lt).trans (h.bx b (List.mem_append_right _ hb))⟩) (h.rso.mono hn)
  obtain ⟨a, ha, rfl⟩ := List.mem_map.1 ho
  injection e with e
  exact hnd.2.2 a ha b hb e
theorem Env.made {W0 : World} (h : Env W0 bs old new W) : Rests W (fun n => W0.heap.size ≤ n) (fun V => (∀ b ∈ bs, Blk V b.g b.t b.cs) ∧ new V) :=
 Rests.and (Rests.all (φ := fun (b : Bo) V => Blk V b.g b.t b.cs) fun b hb => ⟨h.bx b hb, fun _w' hw => (hw b.g (h.own b hb) (h.bx b hb).lt).trans (h.bx b hb)⟩) h.fresh
theorem GL.sink (h : GL w ls old new W) : GL w ls (fun V => new V ∧ old V) (fun _ => True) W := ⟨h.own, h.nd, (h.rsn.mono fun _ h => h.2).and h.rso, .pure trivial _ _, h.bel⟩
theorem OwnE.blk {B : Nat} {t : TypeId} {sz g : Nat} {c : Array Value} (h : OwnE W B t sz (.slice (some ⟨g, 0, none⟩) 1 1) [c]) : Blk W g t c := by
 obtain ⟨hs, hl, h1 | ⟨g', cap', cur, hv, hg, hh, hn, hm, hsz, ht⟩⟩ := h
 ·cases h1.1
 ·obtain ⟨rfl, -, rfl⟩ : g = g' ∧ 1 = [c].length ∧ 1 = cap' := by simpa using hv
  have e : cur = c := by
   apply Array.toList_inj.1
   rw [List.take_of_length_le (by rw [Array.length_toList, hsz]; simp)] at ht
   rw [ht]; simp [flatC]
  rw [← e]; exact hh
theorem GL.cb {k g : Nat} {t : TypeId} {sz : Nat} {c : Array Value} (h : GL w ls old new W) (hk : ls[k]? = some (bow g t sz c)) : CB g c W := (OwnE.blk (h.own _ (List.mem_of_getElem? hk))).cb
theorem GL.put4 {k : Nat} {e : TypeId} {g : Nat} {c0 : Array Value} (h : GL w ls old new W) (hk : ls[k]? = some (bow g e 4 c0)) (u0 u1 u2 u3 : Value) :
 GL w (ls.set k (bow g e 4 #[u0, u1, u2, u3])) old new ((((W.setCell ⟨g, 0, none⟩ u0).setCell ⟨g, 1, none⟩ u1).setCell ⟨g, 2, none⟩ u2).setCell ⟨g, 3, none⟩ u3) := by
 have h0 := h.set4 (i := 0) rfl hk (by simp) u0 u1 u2 u3
 simp only [Nat.zero_mul, Nat.zero_add, adr_some, List.set_cons_zero] at h0
 exact h0
theorem GL.al (h : GL w ls old new W) (t : TypeId) (cs : Array Value) : ∃ W' g, W.alloc (.cells cs t) = W' ∧ W.heap.size = g ∧ Hid (GL w ls old (fun V => Blk V g t cs ∧ new V) W') := ⟨_, _, rfl, rfl, Lib.hid (h.box t cs)⟩
theorem oper_app9 {P : Program} {w w' : World} {o : Oper} {a : Act} {K : Act → World → Prop} {Q : Exit → Act → World → Prop} (s x : Operand) (t : TypeId) (v y v' : Value)
 (ho : o.op = .call { callee := .builtin .append, args := #[s, x], argTypes := #[t, t] }) (hs : a.eval s = v) (hx : a.eval x = y)
 (hrun : (Builtin.append_ #[t, t] o.type #[v, y]).run P w = .ok v' w')
 (h : K (a.put o.dst v') w') : Oper.wp P o a w K Q := by
 unfold Oper.wp execOp
 simp only [ho, resolve, invoke, builtin, Sem.run_bind, Sem.run_pure, Result.andThen_ok, List.map_toArray, List.map_cons, List.map_nil, hs, hx, hrun]
 exact h
@[reducible] def colOw (v : VeV) : Ow := ⟨86, 5, .slice v.A v.ts.length v.c, v.ts.map tecells⟩
theorem GL.rc {k i : Nat} {e : TypeId} {n cap : Nat} {A : Option Addr} {l : List (RV × Rat)} (h : GL w ls old new W) (hk : ls[k]? = some ⟨e, 4, .slice A n cap, l.map rtcells⟩) (hi : i < l.length) : RC A i l[i] W := by
 have hc := fun j hj => h.cell (i := i) (j := j) hk (by simpa using hi) hj
 rw [List.getElem_map] at hc
 exact ⟨hc 0 (by decide), hc 1 (by decide), hc 2 (by decide), hc 3 (by decide)⟩
theorem GL.vc {k i : Nat} {e : TypeId} {n cap : Nat} {A : Option Addr} {l : List VeV} (h : GL w ls old new W) (hk : ls[k]? = some ⟨e, 1, .slice A n cap, l.map vecells⟩) (hi : i < l.length) : W.cell? (adr A i) = some (.slice (l[i]).A (l[i]).ts.length (l[i]).c) := by
 have hc := h.cell (i := i) (j := 0) hk (by simpa using hi) (by decide)
 rw [List.getElem_map, Nat.mul_one, Nat.add_zero] at hc
 exact hc
theorem GL.putR {k i : Nat} {e : TypeId} {g n cap : Nat} {A : Option Addr} (hA : A = some ⟨g, 0, none⟩) {l : List (RV × Rat)} (h : GL w ls old new W) (hk : ls[k]? = some ⟨e, 4, .slice A n cap, l.map rtcells⟩) (hi : i < l.length) (r : RV) (q : Rat) :
 GL w (ls.set k ⟨e, 4, .slice A n cap, (l.set i (r, q)).map rtcells⟩) old new ((((W.setCell (adr A (i * 4)) (.bool r.num.neg)).setCell (adr A (i * 4 + 1)) (.slice r.num.A r.num.k r.num.c)).setCell (adr A (i * 4 + 2)) (.bool r.den.neg)).setCell (adr A (i * 4 + 3)) (.slice r.den.A r.den.k r.den.c)) := by
 have h0 := GL.set4 hA h hk (by simpa using hi) (.bool r.num.neg) (.slice r.num.A r.num.k r.num.c) (.bool r.den.neg) (.slice r.den.A r.den.k r.den.c)
 rw [show (l.set i (r, q)).map rtcells = (l.map rtcells).set i (rtcells (r, q)) from List.map_set ..]
 exact h0
end
end Go.Proofs.YtplhmeiciiajcaaGreatDoor
