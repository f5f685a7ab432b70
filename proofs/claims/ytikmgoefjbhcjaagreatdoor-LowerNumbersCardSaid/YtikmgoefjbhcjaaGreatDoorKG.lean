/-
 Many operations of a drawn region at once: those that are not wanted, moves, picks. tripwireref05.Right. tripwireref04.Same, tripwireref16.Right.
-/
import Derived.Test.YtikmgoefjbhcjaaGreatDoorV18
import Derived.Test.YtikmgoefjbhcjaaGreatDoorKE
import Derived.Test.YtikmgoefjbhcjaaGreatDoorRef13
namespace Go.Proofs.YtikmgoefjbhcjaaGreatDoor
set_option maxHeartbeats 8000000
open Go.RowKit

def zqu (ops : Array Oper) (o : Oper) (a : Act) : Option Value :=
 if Region.wanted o (yielded ops a.tmps) = true then
  match o.op with
  | .move x => some (a.eval x)
  | .pick c x y => match a.eval c with
   | .bool b => some (if b then a.eval x else a.eval y)
   | _ => none
  | _ => none
 else some undef
theorem zoF {P : Program} {ops : Array Oper} {S : World → Prop} {o : Oper} {a : Act} {v : Value} (h : zqu ops o a = some v) : YieldsIf P ops S o v a := by
 unfold zqu at h
 by_cases hw : Region.wanted o (yielded ops a.tmps) = true
 ·rw [if_pos hw] at h
  refine .inl ⟨hw, fun w _ => ?_⟩
  unfold execOp
  split at h
  ·rename_i x hx
   rw [hx]
   injection h with h
   subst h
   rfl
  ·rename_i c x y hx
   rw [hx]
   split at h
   ·rename_i b hb
    injection h with h
    subst h
    simp only [hb]
    cases b <;> rfl
   ·cases h
  ·cases h
 ·rw [if_neg hw] at h
  injection h with h
  exact .inr ⟨by simpa using hw, h.symm⟩
def zpJ (md : Region.Mode) (ops : Array Oper) (l : Array Bool) (i : Nat) (o : Oper) (a : Act) : Bool :=
 (Region.free md ops l i && (Region.ready md ops l).contains i) || (Region.ready md ops l == [i] && !Region.wanted o (yielded ops a.tmps))
def zok (md : Region.Mode) (ops : Array Oper) : List Nat → Array Bool → Act → Option (Array Bool × Act)
 | [], l, a => some (l, a)
 | i :: is, l, a => match ops[i]? with
  | none => none
  | some o => match zqu ops o a with
   | none => none
   | some v => if zpJ md ops l i o a = true then zok md ops is (l.setIfInBounds i true) (a.put o.dst v) else none
theorem zoq {P : Program} {md : Region.Mode} {ops : Array Oper} {Q : Exit → Act → World → Prop} {S : World → Prop} {w : World} (hs : Region.noSelect ops = true) (hQ : ∀ d v c a w, Q (.panic c) (Act.put a d v) w → Q (.panic c) a w) (hS : S w) {fuel : Nat} {l' : Array Bool} {a' : Act}
 (h : wpAnyH P md ops Q S fuel l' a' w) : ∀ (is : List Nat) (l : Array Bool) (a : Act), zok md ops is l a = some (l', a') → wpAnyH P md ops Q S (fuel + is.length) l a w
 | [], l, a, hc => by
  injection hc with hc
  injection hc with h1 h2
  subst h1 h2
  exact h
 | i :: is, l, a, hc => by
  unfold zok at hc
  split at hc
  ·cases hc
  ·rename_i o ho
   split at hc
   ·cases hc
   ·rename_i v hv
    by_cases hok : zpJ md ops l i o a = true
    ·rw [if_pos hok] at hc
     have h1 := zoq hs hQ hS h is _ _ hc
     unfold zpJ at hok
     rcases Bool.or_eq_true_iff.1 hok with hk | hk
     ·obtain ⟨hf, hr⟩ := Bool.and_eq_true_iff.1 hk
      exact wpAnyH_take ho hs hf hr (fun c a w => hQ _ _ c a w) (zoF hv) hS h1
     ·obtain ⟨hr, hw⟩ := Bool.and_eq_true_iff.1 hk
      have hw' : Region.wanted o (yielded ops a.tmps) = false := by simpa using hw
      have hv' : v = undef := by
       unfold zqu at hv
       rw [hw'] at hv
       injection hv with hv
       exact hv.symm
      subst hv'
      exact zpF (i := i) o.dst ho rfl (by simpa using hr) hw' hS h1
    ·rw [if_neg hok] at hc; cases hc
theorem znp {P : Program} {md : Region.Mode} {ops : Array Oper} {Q : Exit → Act → World → Prop} {S : World → Prop} {w : World} {n : Nat} {l : Array Bool} {a : Act} (is : List Nat) (fuel : Nat) (l' : Array Bool) (f : Act → Act) (hn : n = fuel + is.length) (hs : Region.noSelect ops = true) (hc : zok md ops is l a = some (l', f a))
 (hQ : ∀ d v c a w, Q (.panic c) (Act.put a d v) w → Q (.panic c) a w) (hS : S w) (h : wpAnyH P md ops Q S fuel l' (f a) w) : wpAnyH P md ops Q S n l a w := by
 subst hn
 exact zoq hs hQ hS h is l a hc

theorem IntD.uniq {i : IV} {x y : Int} {n m : Nat} {w : World} (h : IntD i x n w) (h' : IntD i y m w) : x = y := by
 obtain ⟨l, hk, hrd, -, hv⟩ := h.ex
 obtain ⟨l', hk', hrd', -, hv'⟩ := h'.ex
 have e : l = l' := zc5 _ _ (by omega) fun t ht => by
  have c1 := hrd.cell t ht
  have c2 := hrd'.cell t (by omega)
  rw [c1] at c2
  have c3 : ((nth l t : Nat) : Int) = ((nth l' t : Nat) : Int) := by simpa using c2
  omega
 rw [← hv, ← hv', e]
theorem RatD.uniq {r : RV} {p q : Rat} {n m : Nat} {w : World} (h : RatD r p n w) (h' : RatD r q m w) : p = q := by
 obtain ⟨x, d, hx, hd, e⟩ := h.ex
 obtain ⟨x', d', hx', hd', e'⟩ := h'.ex
 rw [e, e', hx.uniq hx', hd.uniq hd']
theorem RatN.someD {r : RV} {q : Rat} {w : World} (h : RatN r q w) : ∃ n, RatD r q n w :=
 ⟨q.num.natAbs + q.den, h.rat ⟨Nat.lt_of_lt_of_le (Nat.lt_pow_self (by decide)) (Nat.pow_le_pow_right (by decide) (Nat.le_add_right _ _)), Nat.lt_of_lt_of_le (Nat.lt_pow_self (by decide)) (Nat.pow_le_pow_right (by decide) (Nat.le_add_left _ _))⟩⟩
theorem RatN.uniq {r : RV} {p q : Rat} {n : Nat} {w : World} (h : RatD r p n w) (h' : RatN r q w) : p = q := by
 obtain ⟨m, hm⟩ := h'.someD
 exact h.uniq hm
structure SameAt (t u : TeV) (m : Int) (w : World) : Prop where
 pl : t.pl = u.pl
 lo : 0 ≤ t.pl
 hi : t.pl < m
 one : RatN t.r u.q w
theorem zr8 {ts us : List TeV} (h : ts.map plq = us.map plq) : ts.length = us.length := by
 have := congrArg List.length h
 rwa [List.length_map, List.length_map] at this
theorem zr2 {ts us : List TeV} (h : ts.map plq = us.map plq) (k : Nat) (h1 : k < ts.length) (h2 : k < us.length) : ts[k].pl = us[k].pl ∧ ts[k].q = us[k].q := by
 have e := congrArg (fun l => l[k]?) h
 simp only [List.getElem?_map, List.getElem?_eq_getElem h1, List.getElem?_eq_getElem h2, Option.map_some] at e
 injection e with e
 unfold plq at e
 injection e with e1 e2
 exact ⟨e1, e2⟩
theorem zpf {n : Nat} {A : Option Addr} {ts us : List TeV} {m : Int} {w : World} (h : LsR 5 tecells (teD n) A ts w) (hr : Rise us) (hz : ∀ t ∈ us, nzT t = true) (hg : ∀ a, getQ (us.map plq) a = getQ (ts.map plq) a) :
 (RightP ts m w → ts.length = us.length ∧ ∀ k (h1 : k < ts.length) (h2 : k < us.length), SameAt ts[k] us[k] m w) ∧
 (ts.length = us.length → (∀ k (h1 : k < ts.length) (h2 : k < us.length), SameAt ts[k] us[k] m w) → RightP ts m w) := by
 constructor
 ·intro hR
  have e : ts.map plq = us.map plq := zo0 hR.rise.map hr.map (fun p hp => by
   obtain ⟨t, ht, rfl⟩ := List.mem_map.1 hp
   exact hR.nz t ht) (fun p hp => by
   obtain ⟨t, ht, rfl⟩ := List.mem_map.1 hp
   exact hz t ht) fun a => (hg a).symm
  refine ⟨zr8 e, fun k h1 h2 => ?_⟩
  have e2 := zr2 e k h1 h2
  have hm := List.getElem_mem h1
  exact ⟨e2.1, (hR.rng _ hm).1, (hR.rng _ hm).2, by rw [← e2.2]; exact hR.one _ hm⟩
 ·intro hl hS
  have hq : ∀ k (h1 : k < ts.length) (h2 : k < us.length), ts[k].q = us[k].q := fun k h1 h2 => RatN.uniq (h.ok _ (List.getElem_mem h1)) (hS k h1 h2).one
  have e : ts.map plq = us.map plq := by
   apply List.ext_getElem (by rw [List.length_map, List.length_map]; exact hl)
   intro k h1 h2
   rw [List.length_map] at h1 h2
   rw [List.getElem_map, List.getElem_map]
   unfold plq
   rw [(hS k h1 h2).pl, hq k h1 h2]
  refine ⟨fun t ht => ?_, ?_, fun t ht => ?_, fun t ht => ?_⟩
  ·obtain ⟨k, hk, rfl⟩ := List.mem_iff_getElem.1 ht
   have := hS k hk (by omega)
   exact ⟨this.lo, this.hi⟩
  ·have h1 := hr.map
   rw [← e] at h1
   exact (List.pairwise_map (f := plq)).1 h1
  ·have h1 : plq t ∈ us.map plq := by rw [← e]; exact List.mem_map_of_mem (f := plq) ht
   obtain ⟨u, hu, e2⟩ := List.mem_map.1 h1
   have h2 := hz u hu
   unfold nzT at h2 ⊢
   unfold plq at e2
   injection e2 with e3 e4
   rw [← e4]; exact h2
  ·obtain ⟨k, hk, rfl⟩ := List.mem_iff_getElem.1 ht
   have h2 : k < us.length := by omega
   rw [hq k hk h2]; exact (hS k hk h2).one
theorem zqk {a b : Bool} (h : a ≠ b) : (a ^^ b) = true ∧ (a != b) = true ∧ (a == b) = false := by cases a <;> cases b <;> simp at h ⊢
theorem zq9 {a b : Bool} (h : ¬ a ≠ b) : (a ^^ b) = false ∧ (a != b) = false ∧ (a == b) = true := by cases a <;> cases b <;> simp at h ⊢
theorem zp7 {W : World} {i j : IV} {l : List Nat} {z : Int} (B : Bool) (hk : i.k = l.length) (hl : l.length ≤ 17592186044416) (ha : Rd W .u64 i.A l) (hz : IntN j z W) (hB : B = true ↔ l = digs B64 z.natAbs) :
 Calls Tryz.prog 153 #[.slice i.A i.k i.c, .slice j.A j.k j.c] W fun e w' => e = .returned (.bool B) ∧ Below W.heap.size W w' := by
 rw [hk, hz.k]
 refine (zqL W i.A j.A i.c j.c l (digs B64 z.natAbs) hl ha hz.rd).mono ?_
 rintro e w' ⟨rfl, q, rfl⟩
 have : decide (l = digs B64 z.natAbs) = B := by rw [Bool.eq_iff_iff, decide_eq_true_iff, hB]
 rw [this]
 exact ⟨rfl, Below.drewN (Below.refl _ _) q⟩
set_option maxRecDepth 100000 in
theorem zpx (w : World) (n N : Nat) (hN : N ≤ 3000) (h1n : 1 ≤ n) (A : Option Addr) (c : Nat) (ts : List TeV) (m : Int) (h : LsR 5 tecells (teD n) A ts w) (hl : ts.length ≤ 1000) (hnN : n ≤ N) (hbd : 1 + ts.length * (n + 1) ≤ N) :
 Calls Tryz.prog 104 #[.slice A ts.length c, .int .i64 m] w fun e w' => zaJ (RightP ts m w) e ∧ Below w.heap.size w w' := by
 have sl1 := h.sl
 have hszv := zbW
 have hszt := zas
 have hadd := za3
 have Hw := zmZ h
 have HE := zmZ (Env.start (h.old zb2))
 clear h
 go_enter Tryz.func104, Tryz.ntmps104
 go_wp2_with fail
 refine (zox _ n N hN h1n A c ts HE.out.o hl hnN hbd).mono ?_
 intro e w1 hret
 obtain ⟨Au, cu, us, rfl, hres, hk, hb⟩ := RetC.open hret
 replace HE := zmZ ((Env.ret HE.out hk hb).imp (fun _ h => h) (fun _ h => h.1))
 have HL := zmZ (zpf (m := m) Hw.out hres.1 (fun t ht => (hres.2.1 t ht).1) hres.2.2.2)
 clear hret hk hb hres
 have slu := HE.out.n.sl
 by_cases hlen : us.length = ts.length
 ·have hb0 : ((us.length : Int) != (ts.length : Int)) = false := by rw [hlen]; simp
  have Hlen := zmZ hlen
  rw [hlen] at slu
  go_wp2_with fail
  clear hlen
  go_loopw [6] (fun iv wr => ∃ i : Nat, iv = .int .i64 (i : Int) ∧ i ≤ ts.length ∧ Hid (∀ k (h1 : k < ts.length) (h2 : k < us.length), k < i → SameAt ts[k] us[k] m w) ∧ Hid (Env w [] (fun V => LsR 5 tecells (teD n) A ts V) (fun V => LsR 5 tecells teN Au us V) wr)) (fun iv _ => ts.length - (intOf iv).toNat)
  case atStart => exact ⟨0, rfl, Nat.zero_le _, zmZ (fun k _ _ h => absurd h (Nat.not_lt_zero _)), HE⟩
  case round =>
   clear HE
   obtain ⟨i, rfl, hi, HP, HE⟩ := hrel
   by_cases hlt : i < ts.length
   ·have hlu : i < us.length := by rw [Hlen.out]; exact hlt
    have hlt' : (i : Int) < (ts.length : Int) := by omega
    have hlu' : (i : Int) < (us.length : Int) := by omega
    have HTC := zmZ (fun (V : World) (h : LsR 5 tecells (teD n) A ts V) => h.tc i hlt)
    have HUC := zmZ (fun (V : World) (h : LsR 5 tecells teN Au us V) => h.tc i hlu)
    have HBad := zmZ (show RightP ts m w → SameAt ts[i] us[i] m w from fun hr => (HL.out.1 hr).2 i hlt hlu)
    have HNxt := zmZ (show SameAt ts[i] us[i] m w → ∀ k (h1 : k < ts.length) (h2 : k < us.length), k < i + 1 → SameAt ts[k] us[k] m w from fun hs k h1 h2 hk => by
     rcases Nat.lt_succ_iff_lt_or_eq.1 hk with e | e
     ·exact HP.out k h1 h2 e
     ·subst e; exact hs)
    obtain ⟨t, ht⟩ : ∃ t, t = ts[i] := ⟨_, rfl⟩
    obtain ⟨u, hu⟩ : ∃ u, u = us[i] := ⟨_, rfl⟩
    have Hmt := zmZ (show t ∈ ts by rw [ht]; exact List.getElem_mem hlt)
    have Hmu := zmZ (show u ∈ us by rw [hu]; exact List.getElem_mem hlu)
    rw [← ht] at HTC HBad HNxt
    rw [← hu] at HUC HBad HNxt
    clear ht hu HP
    have HUE := zmZ (show ∀ V, LsR 5 tecells teN Au us V → RatN u.r u.q V from fun V h => h.ok u Hmu.out)
    obtain ⟨x, d, hx, hd, -⟩ := (Hw.out.ok t Hmt.out : RatD t.r t.q n w).ex
    obtain ⟨l1, hk1, hr1, -, -⟩ := hx.ex
    obtain ⟨l2, hk2, hr2, -, -⟩ := hd.ex
    have HRd1 := zmZ (show t.r.num.k = l1.length ∧ l1.length ≤ 17592186044416 from ⟨hk1, by have := hx.le; omega⟩)
    have HRd2 := zmZ (show t.r.den.k = l2.length ∧ l2.length ≤ 17592186044416 from ⟨hk2, by have := hd.le; omega⟩)
    have HRd1V := zmZ (fun (V : World) (hb : Below w.heap.size w V) => hr1.below hb (Nat.le_refl _))
    have HRd2V := zmZ (fun (V : World) (hb : Below w.heap.size w V) => hr2.below hb (Nat.le_refl _))
    have HOne := zmZ (show RatN t.r u.q w ↔ ((t.r.num.neg = u.r.num.neg ∧ l1 = digs B64 u.q.num.natAbs) ∧ (t.r.den.neg = u.r.den.neg ∧ l2 = digs B64 (dn u.q).natAbs)) from by
     have hu := HUE.out _ HE.out.n
     rw [hu.num.neg, hu.den.neg, ← zda hk1 hr1 hx.cap, ← zda hk2 hr2 hd.cap]
     exact ⟨fun h => ⟨h.num, h.den⟩, fun h => ⟨h.1, h.2⟩⟩)
    clear hx hd hk1 hk2 hr1 hr2
    have c := And.intro (HTC.out _ HE.out.o) (HUC.out _ HE.out.n)
    go_upto_region 7 with fail
    go_cut [7, 8] from 16 to 97 (fun v7 v8 wx => ∃ g7 g8, v7 = .pointer (some ⟨g7, 0, none⟩) ∧ v8 = .pointer (some ⟨g8, 0, none⟩) ∧ Hid (Env w [⟨g8, 41, #[.bool u.r.num.neg, .slice u.r.num.A u.r.num.k u.r.num.c, .bool u.r.den.neg, .slice u.r.den.A u.r.den.k u.r.den.c]⟩, ⟨g7, 41, #[.bool t.r.num.neg, .slice t.r.num.A t.r.num.k t.r.num.c, .bool t.r.den.neg, .slice t.r.den.A t.r.den.k t.r.den.c]⟩] (fun V => LsR 5 tecells (teD n) A ts V) (fun V => LsR 5 tecells teN Au us V) wx))
    case first =>
     go_region_held3 (fun W => TC A i t W ∧ TC Au i u W) (first | with_reducible exact c | ((repeat' apply And.intro) <;> go_keep) | (refine ⟨HTC.out _ ?_, HUC.out _ ?_⟩ <;> first | with_reducible exact HE.out.o | with_reducible exact HE.out.n | with_reducible exact HE.out.drew.o | with_reducible exact HE.out.drew.n | with_reducible exact (HE.out.nn _ _).o | with_reducible exact (HE.out.nn _ _).n | with_reducible exact (HE.out.nd_ _ _).o | with_reducible exact (HE.out.nd_ _ _).n | with_reducible exact (HE.out.drew.nn _ _).o | with_reducible exact (HE.out.drew.nn _ _).n | with_reducible exact ((HE.out.nn _ _).nn _ _).o | with_reducible exact ((HE.out.nn _ _).nn _ _).n | with_reducible exact ((HE.out.nd_ _ _).nn _ _).o | with_reducible exact ((HE.out.nd_ _ _).nn _ _).n | with_reducible exact ((HE.out.nd_ _ _).nd_ _ _).o | with_reducible exact ((HE.out.nd_ _ _).nd_ _ _).n)) (fail)
     all_goals
      go_wp2_with fail
      go_meet
      case rel => first | with_reducible exact ⟨_, _, rfl, rfl, zmZ (((HE.out.new_ (g := wr.heap.size) rfl 41 #[.bool t.r.num.neg, .slice t.r.num.A t.r.num.k t.r.num.c, .bool t.r.den.neg, .slice t.r.den.A t.r.den.k t.r.den.c]).new_ (g := wr.heap.size + 1) (by simp) 41 #[.bool u.r.num.neg, .slice u.r.num.A u.r.num.k u.r.num.c, .bool u.r.den.neg, .slice u.r.den.A u.r.den.k u.r.den.c]).drew)⟩ | with_reducible exact ⟨_, _, rfl, rfl, zmZ ((((HE.out.new_ (g := wr.heap.size) rfl 41 #[.bool u.r.num.neg, .slice u.r.num.A u.r.num.k u.r.num.c, .bool u.r.den.neg, .slice u.r.den.A u.r.den.k u.r.den.c]).new_ (g := wr.heap.size + 1) (by simp) 41 #[.bool t.r.num.neg, .slice t.r.num.A t.r.num.k t.r.num.c, .bool t.r.den.neg, .slice t.r.den.A t.r.den.k t.r.den.c]).drew).perm (List.Perm.swap _ _ _))⟩
    case rest =>
     clear HE c
     obtain ⟨g7, g8, rfl, rfl, HE⟩ := hcut
     have HC := zmZ (fun (V : World) (h : Env w [⟨g8, 41, #[.bool u.r.num.neg, .slice u.r.num.A u.r.num.k u.r.num.c, .bool u.r.den.neg, .slice u.r.den.A u.r.den.k u.r.den.c]⟩, ⟨g7, 41, #[.bool t.r.num.neg, .slice t.r.num.A t.r.num.k t.r.num.c, .bool t.r.den.neg, .slice t.r.den.A t.r.den.k t.r.den.c]⟩] (fun V => LsR 5 tecells (teD n) A ts V) (fun V => LsR 5 tecells teN Au us V) V) => And.intro (HTC.out _ h.o) (And.intro (HUC.out _ h.n) (And.intro (Env.c2 h).1 (Env.c2 h).2)))
     have c := HC.out _ HE.out
     go_upto_region 8 with fail
     clear c
     refine wp_region_noPanic ?_
     refine wp_region_held_drew (S := (fun W => TC A i t W ∧ TC Au i u W ∧ CB g8 #[.bool u.r.num.neg, .slice u.r.num.A u.r.num.k u.r.num.c, .bool u.r.den.neg, .slice u.r.den.A u.r.den.k u.r.den.c] W ∧ CB g7 #[.bool t.r.num.neg, .slice t.r.num.A t.r.num.k t.r.num.c, .bool t.r.den.neg, .slice t.r.den.A t.r.den.k t.r.den.c] W)) (by kernel_rfl) (by first | exact HC.out _ HE.out | exact HC.out _ HE.out.drew) (fun hHeld => ?_)
     replace HE := zmZ HE.out.drew
     refine hT 0 32 hHeld ?_
     refine hT 1 33 hHeld ?_
     refine hT 2 34 hHeld ?_
     refine hT 3 35 hHeld ?_
     refine hT 4 36 hHeld ?_
     refine hT 5 37 hHeld ?_
     refine hT 6 38 hHeld ?_
     refine hT 7 39 hHeld ?_
     refine hT 8 40 hHeld ?_
     refine hT 9 41 hHeld ?_
     by_cases ee : t.pl = u.pl
     ·have bb : (t.pl != u.pl) = false := by simpa using ee
      have E1 := zmZ ee
      clear ee
      refine hT 10 42 hHeld ?_
      refine hT 11 43 hHeld ?_
      clear bb
      refine hT 12 44 hHeld ?_
      refine hT 13 45 hHeld ?_
      refine hT 14 46 hHeld ?_
      refine hT 15 47 hHeld ?_
      refine hT 16 48 hHeld ?_
      by_cases ee : t.pl < 0
      ·have HNo := zmZ (show ¬ SameAt t u m w from fun h => absurd h.lo (by omega))
       have bb : decide (t.pl < 0) = true := decide_eq_true ee
       refine hT 17 49 hHeld ?_
       refine znp [18, 19, 20, 21, 22, 23, 24, 25, 26, 27, 28, 29, 30, 31, 32, 33, 34, 35, 36, 37, 38, 39, 40, 41, 42, 43, 44, 45, 46, 47, 48, 49, 50, 51, 52, 53, 54, 55, 56, 57, 58, 59, 60, 61, 62, 63, 64, 65] 0 #[true, true, true, true, true, true, true, true, true, true, true, true, true, true, true, true, true, true, true, true, true, true, true, true, true, true, true, true, true, true, true, true, true, true, true, true, true, true, true, true, true, true, true, true, true, true, true, true, true, true, true, true, true, true, true, true, true, true, true, true, true, true, true, true, true, true] (fun a0 => ((((((((((((((((((((((((((((((((((((((((((((((((a0.put (some 50) (.bool true)).put (some 51) (.bool true)).put (some 52) undef).put (some 53) undef).put (some 54) undef).put (some 55) undef).put (some 56) undef).put (some 57) undef).put (some 58) undef).put (some 59) (.bool true)).put (some 60) (.bool true)).put (some 61) undef).put (some 62) undef).put (some 63) undef).put (some 64) undef).put (some 65) undef).put (some 66) undef).put (some 67) undef).put (some 68) (.bool true)).put (some 69) (.bool true)).put (some 70) undef).put (some 71) undef).put (some 72) undef).put (some 73) undef).put (some 74) undef).put (some 75) undef).put (some 76) undef).put (some 77) (.bool true)).put (some 78) (.bool true)).put (some 79) undef).put (some 80) undef).put (some 81) undef).put (some 82) undef).put (some 83) undef).put (some 84) undef).put (some 85) undef).put (some 86) undef).put (some 87) (.bool true)).put (some 88) (.bool true)).put (some 89) undef).put (some 90) undef).put (some 91) undef).put (some 92) undef).put (some 93) undef).put (some 94) undef).put (some 95) undef).put (some 96) undef).put (some 97) (.bool true))) rfl (by kernel_rfl) (by kernel_rfl) (fun _ _ _ _ _ h => h) hHeld ?_
       try simp only [p1, p2, p3, p4]
       refine wpAnyH_done (by kernel_rfl) ?_ _
       refine NoPanic.normal ?_
       go_wp2_with fail
       go_ret
       exact ⟨za8 false ⟨fun h0 => absurd h0 (by decide), fun hr => absurd (HBad.out hr) HNo.out⟩, HE.out.bel⟩
      ·skip
       have bb : decide (t.pl < 0) = false := decide_eq_false ee
       refine hT 17 49 hHeld ?_
       refine hT 18 50 hHeld ?_
       refine hT 19 51 hHeld ?_
       refine hT 20 52 hHeld ?_
       refine hT 21 53 hHeld ?_
       refine hT 22 54 hHeld ?_
       refine hT 23 55 hHeld ?_
       refine hT 24 56 hHeld ?_
       refine hT 25 57 hHeld ?_
       by_cases ee : m ≤ t.pl
       ·have HNo := zmZ (show ¬ SameAt t u m w from fun h => absurd h.hi (by omega))
        have bb : decide (m ≤ t.pl) = true := decide_eq_true ee
        have bb2 : decide (t.pl ≥ m) = true := decide_eq_true ee
        refine hT 26 58 hHeld ?_
        refine znp [27, 28, 29, 30, 31, 32, 33, 34, 35, 36, 37, 38, 39, 40, 41, 42, 43, 44, 45, 46, 47, 48, 49, 50, 51, 52, 53, 54, 55, 56, 57, 58, 59, 60, 61, 62, 63, 64, 65] 0 #[true, true, true, true, true, true, true, true, true, true, true, true, true, true, true, true, true, true, true, true, true, true, true, true, true, true, true, true, true, true, true, true, true, true, true, true, true, true, true, true, true, true, true, true, true, true, true, true, true, true, true, true, true, true, true, true, true, true, true, true, true, true, true, true, true, true] (fun a0 => (((((((((((((((((((((((((((((((((((((((a0.put (some 59) (.bool true)).put (some 60) (.bool true)).put (some 61) undef).put (some 62) undef).put (some 63) undef).put (some 64) undef).put (some 65) undef).put (some 66) undef).put (some 67) undef).put (some 68) (.bool true)).put (some 69) (.bool true)).put (some 70) undef).put (some 71) undef).put (some 72) undef).put (some 73) undef).put (some 74) undef).put (some 75) undef).put (some 76) undef).put (some 77) (.bool true)).put (some 78) (.bool true)).put (some 79) undef).put (some 80) undef).put (some 81) undef).put (some 82) undef).put (some 83) undef).put (some 84) undef).put (some 85) undef).put (some 86) undef).put (some 87) (.bool true)).put (some 88) (.bool true)).put (some 89) undef).put (some 90) undef).put (some 91) undef).put (some 92) undef).put (some 93) undef).put (some 94) undef).put (some 95) undef).put (some 96) undef).put (some 97) (.bool true))) rfl (by kernel_rfl) (by kernel_rfl) (fun _ _ _ _ _ h => h) hHeld ?_
        try simp only [p1, p2, p3, p4]
        refine wpAnyH_done (by kernel_rfl) ?_ _
        refine NoPanic.normal ?_
        go_wp2_with fail
        go_ret
        exact ⟨za8 false ⟨fun h0 => absurd h0 (by decide), fun hr => absurd (HBad.out hr) HNo.out⟩, HE.out.bel⟩
       ·skip
        have bb : decide (m ≤ t.pl) = false := decide_eq_false ee
        have bb2 : decide (t.pl ≥ m) = false := decide_eq_false ee
        refine hT 26 58 hHeld ?_
        refine hT 27 59 hHeld ?_
        refine hT 28 60 hHeld ?_
        refine hT 29 61 hHeld ?_
        refine hT 30 62 hHeld ?_
        refine hT 31 63 hHeld ?_
        refine hT 32 64 hHeld ?_
        refine hT 33 65 hHeld ?_
        refine hT 34 66 hHeld ?_
        by_cases ee : t.r.num.neg ≠ u.r.num.neg
        ·have HNo := zmZ (show ¬ SameAt t u m w from fun h => absurd (HOne.out.1 h.one).1.1 ee)
         have bb := zqk ee
         refine hT 35 67 hHeld ?_
         refine znp [36, 37, 38, 39, 40, 41, 42, 43, 44, 45, 46, 47, 48, 49, 50, 51, 52, 53, 54, 55, 56, 57, 58, 59, 60, 61, 62, 63, 64, 65] 0 #[true, true, true, true, true, true, true, true, true, true, true, true, true, true, true, true, true, true, true, true, true, true, true, true, true, true, true, true, true, true, true, true, true, true, true, true, true, true, true, true, true, true, true, true, true, true, true, true, true, true, true, true, true, true, true, true, true, true, true, true, true, true, true, true, true, true] (fun a0 => ((((((((((((((((((((((((((((((a0.put (some 68) (.bool true)).put (some 69) (.bool true)).put (some 70) undef).put (some 71) undef).put (some 72) undef).put (some 73) undef).put (some 74) undef).put (some 75) undef).put (some 76) undef).put (some 77) (.bool true)).put (some 78) (.bool true)).put (some 79) undef).put (some 80) undef).put (some 81) undef).put (some 82) undef).put (some 83) undef).put (some 84) undef).put (some 85) undef).put (some 86) undef).put (some 87) (.bool true)).put (some 88) (.bool true)).put (some 89) undef).put (some 90) undef).put (some 91) undef).put (some 92) undef).put (some 93) undef).put (some 94) undef).put (some 95) undef).put (some 96) undef).put (some 97) (.bool true))) rfl (by kernel_rfl) (by kernel_rfl) (fun _ _ _ _ _ h => h) hHeld ?_
         try simp only [p1, p2, p3, p4]
         refine wpAnyH_done (by kernel_rfl) ?_ _
         refine NoPanic.normal ?_
         go_wp2_with fail
         go_ret
         exact ⟨za8 false ⟨fun h0 => absurd h0 (by decide), fun hr => absurd (HBad.out hr) HNo.out⟩, HE.out.bel⟩
        ·skip
         have bb := zq9 ee
         have E4 := zmZ (show t.r.num.neg = u.r.num.neg by simpa using ee)
         clear ee
         refine hT 35 67 hHeld ?_
         refine hT 36 68 hHeld ?_
         refine hT 37 69 hHeld ?_
         refine hT 38 70 hHeld ?_
         refine hT 39 71 hHeld ?_
         refine hT 40 72 hHeld ?_
         refine hT 41 73 hHeld ?_
         refine hT 42 74 hHeld ?_
         refine hT 43 75 hHeld ?_
         by_cases ee : t.r.den.neg ≠ u.r.den.neg
         ·have HNo := zmZ (show ¬ SameAt t u m w from fun h => absurd (HOne.out.1 h.one).2.1 ee)
          have bb := zqk ee
          refine hT 44 76 hHeld ?_
          refine znp [45, 46, 47, 48, 49, 50, 51, 52, 53, 54, 55, 56, 57, 58, 59, 60, 61, 62, 63, 64, 65] 0 #[true, true, true, true, true, true, true, true, true, true, true, true, true, true, true, true, true, true, true, true, true, true, true, true, true, true, true, true, true, true, true, true, true, true, true, true, true, true, true, true, true, true, true, true, true, true, true, true, true, true, true, true, true, true, true, true, true, true, true, true, true, true, true, true, true, true] (fun a0 => (((((((((((((((((((((a0.put (some 77) (.bool true)).put (some 78) (.bool true)).put (some 79) undef).put (some 80) undef).put (some 81) undef).put (some 82) undef).put (some 83) undef).put (some 84) undef).put (some 85) undef).put (some 86) undef).put (some 87) (.bool true)).put (some 88) (.bool true)).put (some 89) undef).put (some 90) undef).put (some 91) undef).put (some 92) undef).put (some 93) undef).put (some 94) undef).put (some 95) undef).put (some 96) undef).put (some 97) (.bool true))) rfl (by kernel_rfl) (by kernel_rfl) (fun _ _ _ _ _ h => h) hHeld ?_
          try simp only [p1, p2, p3, p4]
          refine wpAnyH_done (by kernel_rfl) ?_ _
          refine NoPanic.normal ?_
          go_wp2_with fail
          go_ret
          exact ⟨za8 false ⟨fun h0 => absurd h0 (by decide), fun hr => absurd (HBad.out hr) HNo.out⟩, HE.out.bel⟩
         ·skip
          have bb := zq9 ee
          have E5 := zmZ (show t.r.den.neg = u.r.den.neg by simpa using ee)
          clear ee
          refine hT 44 76 hHeld ?_
          refine hT 45 77 hHeld ?_
          refine hT 46 78 hHeld ?_
          refine hT 47 79 hHeld ?_
          refine hT 48 80 hHeld ?_
          refine hT 49 81 hHeld ?_
          refine hT 50 82 hHeld ?_
          refine hT 51 83 hHeld ?_
          refine hT 52 84 hHeld ?_
          by_cases ee : l1 ≠ digs B64 u.q.num.natAbs
          ·have HNo := zmZ (show ¬ SameAt t u m w from fun h => absurd (HOne.out.1 h.one).1.2 ee)
           have HBnum := zmZ (show false = true ↔ l1 = digs B64 u.q.num.natAbs from ⟨fun h => absurd h (by decide), fun h => absurd h ee⟩)
           clear ee
           refine zcD (i := 53) rfl (by kernel_rfl) (by rfl) (fun K hK => ?_)
           clear hHeld
           simp only [q1]
           go_simp
           refine (zp7 false HRd1.out.1 HRd1.out.2 (HRd1V.out _ HE.out.bel) (HUE.out _ HE.out.n).num (HBnum.out)).mono ?_
           rintro e w2 ⟨rfl, hb⟩
           replace HE := zmZ (Env.call HE.out hb)
           clear hb
           (try (go_wp2_with fail))
           refine hK.out _ _ (by first | exact HC.out _ HE.out | exact HC.out _ HE.out.drew) (fun hHeld => ?_)
           clear hK K
           try simp only [p1, p2, p3, p4]
           refine hT 54 86 hHeld ?_
           refine znp [55, 56, 57, 58, 59, 60, 61, 62, 63, 64, 65] 0 #[true, true, true, true, true, true, true, true, true, true, true, true, true, true, true, true, true, true, true, true, true, true, true, true, true, true, true, true, true, true, true, true, true, true, true, true, true, true, true, true, true, true, true, true, true, true, true, true, true, true, true, true, true, true, true, true, true, true, true, true, true, true, true, true, true, true] (fun a0 => (((((((((((a0.put (some 87) (.bool true)).put (some 88) (.bool true)).put (some 89) undef).put (some 90) undef).put (some 91) undef).put (some 92) undef).put (some 93) undef).put (some 94) undef).put (some 95) undef).put (some 96) undef).put (some 97) (.bool true))) rfl (by kernel_rfl) (by kernel_rfl) (fun _ _ _ _ _ h => h) hHeld ?_
           try simp only [p1, p2, p3, p4]
           refine wpAnyH_done (by kernel_rfl) ?_ _
           refine NoPanic.normal ?_
           go_wp2_with fail
           go_ret
           exact ⟨za8 false ⟨fun h0 => absurd h0 (by decide), fun hr => absurd (HBad.out hr) HNo.out⟩, HE.out.bel⟩
          ·skip
           have HBnum := zmZ (show true = true ↔ l1 = digs B64 u.q.num.natAbs from ⟨fun _ => by simpa using ee, fun _ => rfl⟩)
           have E6 := zmZ (show l1 = digs B64 u.q.num.natAbs by simpa using ee)
           clear ee
           refine zcD (i := 53) rfl (by kernel_rfl) (by rfl) (fun K hK => ?_)
           clear hHeld
           simp only [q1]
           go_simp
           refine (zp7 true HRd1.out.1 HRd1.out.2 (HRd1V.out _ HE.out.bel) (HUE.out _ HE.out.n).num (HBnum.out)).mono ?_
           rintro e w2 ⟨rfl, hb⟩
           replace HE := zmZ (Env.call HE.out hb)
           clear hb
           (try (go_wp2_with fail))
           refine hK.out _ _ (by first | exact HC.out _ HE.out | exact HC.out _ HE.out.drew) (fun hHeld => ?_)
           clear hK K
           try simp only [p1, p2, p3, p4]
           refine hT 54 86 hHeld ?_
           refine hT 55 87 hHeld ?_
           refine hT 56 88 hHeld ?_
           refine hT 57 89 hHeld ?_
           refine hT 58 90 hHeld ?_
           refine hT 59 91 hHeld ?_
           refine hT 60 92 hHeld ?_
           refine hT 61 93 hHeld ?_
           refine hT 62 94 hHeld ?_
           by_cases ee : l2 ≠ digs B64 (dn u.q).natAbs
           ·have HNo := zmZ (show ¬ SameAt t u m w from fun h => absurd (HOne.out.1 h.one).2.2 ee)
            have HBden := zmZ (show false = true ↔ l2 = digs B64 (dn u.q).natAbs from ⟨fun h => absurd h (by decide), fun h => absurd h ee⟩)
            clear ee
            refine zcD (i := 63) rfl (by kernel_rfl) (by rfl) (fun K hK => ?_)
            clear hHeld
            simp only [q1]
            go_simp
            refine (zp7 false HRd2.out.1 HRd2.out.2 (HRd2V.out _ HE.out.bel) (HUE.out _ HE.out.n).den (HBden.out)).mono ?_
            rintro e w2 ⟨rfl, hb⟩
            replace HE := zmZ (Env.call HE.out hb)
            clear hb
            (try (go_wp2_with fail))
            refine hK.out _ _ (by first | exact HC.out _ HE.out | exact HC.out _ HE.out.drew) (fun hHeld => ?_)
            clear hK K
            try simp only [p1, p2, p3, p4]
            refine hT 64 96 hHeld ?_
            refine znp [65] 0 #[true, true, true, true, true, true, true, true, true, true, true, true, true, true, true, true, true, true, true, true, true, true, true, true, true, true, true, true, true, true, true, true, true, true, true, true, true, true, true, true, true, true, true, true, true, true, true, true, true, true, true, true, true, true, true, true, true, true, true, true, true, true, true, true, true, true] (fun a0 => (a0.put (some 97) (.bool true))) rfl (by kernel_rfl) (by kernel_rfl) (fun _ _ _ _ _ h => h) hHeld ?_
            try simp only [p1, p2, p3, p4]
            refine wpAnyH_done (by kernel_rfl) ?_ _
            refine NoPanic.normal ?_
            go_wp2_with fail
            go_ret
            exact ⟨za8 false ⟨fun h0 => absurd h0 (by decide), fun hr => absurd (HBad.out hr) HNo.out⟩, HE.out.bel⟩
           ·skip
            have HBden := zmZ (show true = true ↔ l2 = digs B64 (dn u.q).natAbs from ⟨fun _ => by simpa using ee, fun _ => rfl⟩)
            have E7 := zmZ (show l2 = digs B64 (dn u.q).natAbs by simpa using ee)
            clear ee
            refine zcD (i := 63) rfl (by kernel_rfl) (by rfl) (fun K hK => ?_)
            clear hHeld
            simp only [q1]
            go_simp
            refine (zp7 true HRd2.out.1 HRd2.out.2 (HRd2V.out _ HE.out.bel) (HUE.out _ HE.out.n).den (HBden.out)).mono ?_
            rintro e w2 ⟨rfl, hb⟩
            replace HE := zmZ (Env.call HE.out hb)
            clear hb
            (try (go_wp2_with fail))
            refine hK.out _ _ (by first | exact HC.out _ HE.out | exact HC.out _ HE.out.drew) (fun hHeld => ?_)
            clear hK K
            try simp only [p1, p2, p3, p4]
            refine hT 64 96 hHeld ?_
            refine hT 65 97 hHeld ?_
            refine wpAnyH_done (by kernel_rfl) ?_ _
            refine NoPanic.normal ?_
            have HNx := zmZ (HNxt.out ⟨E1.out, by omega, by omega, HOne.out.2 ⟨⟨E4.out, E6.out⟩, E5.out, E7.out⟩⟩)
            go_wp2_with fail
            go_roundw
            case rel => exact ⟨i + 1, by go_num, by omega, HNx, zmZ HE.out.drop.drop⟩
            case measure => (simp [intOf] <;> omega)
     ·have bb : (t.pl != u.pl) = true := by simpa using ee
      have HNo := zmZ (show ¬ SameAt t u m w from fun h => absurd h.pl ee)
      refine hT 10 42 hHeld ?_
      refine hT 11 43 hHeld ?_
      refine znp [12, 13, 14, 15, 16, 17, 18, 19, 20, 21, 22, 23, 24, 25, 26, 27, 28, 29, 30, 31, 32, 33, 34, 35, 36, 37, 38, 39, 40, 41, 42, 43, 44, 45, 46, 47, 48, 49, 50, 51, 52, 53, 54, 55, 56, 57, 58, 59, 60, 61, 62, 63, 64, 65] 0 #[true, true, true, true, true, true, true, true, true, true, true, true, true, true, true, true, true, true, true, true, true, true, true, true, true, true, true, true, true, true, true, true, true, true, true, true, true, true, true, true, true, true, true, true, true, true, true, true, true, true, true, true, true, true, true, true, true, true, true, true, true, true, true, true, true, true] (fun a0 => ((((((((((((((((((((((((((((((((((((((((((((((((((((((a0.put (some 44) undef).put (some 45) undef).put (some 46) undef).put (some 47) undef).put (some 48) undef).put (some 49) undef).put (some 50) (.bool true)).put (some 51) (.bool true)).put (some 52) undef).put (some 53) undef).put (some 54) undef).put (some 55) undef).put (some 56) undef).put (some 57) undef).put (some 58) undef).put (some 59) (.bool true)).put (some 60) (.bool true)).put (some 61) undef).put (some 62) undef).put (some 63) undef).put (some 64) undef).put (some 65) undef).put (some 66) undef).put (some 67) undef).put (some 68) (.bool true)).put (some 69) (.bool true)).put (some 70) undef).put (some 71) undef).put (some 72) undef).put (some 73) undef).put (some 74) undef).put (some 75) undef).put (some 76) undef).put (some 77) (.bool true)).put (some 78) (.bool true)).put (some 79) undef).put (some 80) undef).put (some 81) undef).put (some 82) undef).put (some 83) undef).put (some 84) undef).put (some 85) undef).put (some 86) undef).put (some 87) (.bool true)).put (some 88) (.bool true)).put (some 89) undef).put (some 90) undef).put (some 91) undef).put (some 92) undef).put (some 93) undef).put (some 94) undef).put (some 95) undef).put (some 96) undef).put (some 97) (.bool true))) rfl (by kernel_rfl) (by kernel_rfl) (fun _ _ _ _ _ h => h) hHeld ?_
      try simp only [p1, p2, p3, p4]
      refine wpAnyH_done (by kernel_rfl) ?_ _
      refine NoPanic.normal ?_
      go_wp2_with fail
      go_ret
      exact ⟨za8 false ⟨fun h0 => absurd h0 (by decide), fun hr => absurd (HBad.out hr) HNo.out⟩, HE.out.bel⟩
   ·obtain rfl : i = ts.length := by omega
    have HR := zmZ (HL.out.2 Hlen.out.symm (fun k h1 h2 => HP.out k h1 h2 h1))
    go_wp2_with fail
    go_ret
    exact ⟨za8 true ⟨fun _ => HR.out, fun _ => rfl⟩, HE.out.bel⟩
 ·have hb0 : ((us.length : Int) != (ts.length : Int)) = true := by simp; omega
  have HNo := zmZ (show ¬ RightP ts m w from fun hr => hlen (HL.out.1 hr).1.symm)
  go_wp2_with fail
  go_ret
  exact ⟨za8 false ⟨fun h0 => absurd h0 (by decide), fun hr => absurd hr HNo.out⟩, HE.out.bel⟩

end Go.Proofs.YtikmgoefjbhcjaaGreatDoor
