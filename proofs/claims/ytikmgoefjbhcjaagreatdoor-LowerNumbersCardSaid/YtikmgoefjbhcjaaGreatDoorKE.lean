/-
 The plain law of places: a rising list of all places. tripwireref05.Get. tripwireref05.Places. tripwireref05.put, Norm. ref05.sameWords.
-/
import Derived.Test.YtikmgoefjbhcjaaGreatDoorV18
import Derived.Test.YtikmgoefjbhcjaaGreatDoorRef13
import Derived.Test.YtikmgoefjbhcjaaGreatDoorRef11
import Derived.Test.YtikmgoefjbhcjaaGreatDoorLowB
namespace Go.Proofs.YtikmgoefjbhcjaaGreatDoor
set_option maxHeartbeats 8000000
open Go.RowKit

def RiseI (P : List Int) : Prop := P.Pairwise (· < ·)
def BelI (P : List Int) (a : Int) (n : Nat) : Prop := n ≤ P.length ∧ ∀ x ∈ P.take n, x < a
theorem BelI.zero (P : List Int) (a : Int) : BelI P a 0 := ⟨Nat.zero_le _, by simp⟩
theorem BelI.next {P : List Int} {a : Int} {n : Nat} (h : BelI P a n) (hn : n < P.length) (hl : P[n] < a) : BelI P a (n + 1) := by
 refine ⟨hn, fun x hx => ?_⟩
 rw [List.take_succ_eq_append_getElem hn] at hx
 rcases List.mem_append.1 hx with hx | hx
 ·exact h.2 x hx
 ·rw [List.mem_singleton.1 hx]; exact hl
def insI (P : List Int) (a : Int) (n : Nat) : List Int := P.take n ++ a :: P.drop n
theorem znZ {P : List Int} {a : Int} {n : Nat} (hn : n ≤ P.length) : (insI P a n).length = P.length + 1 := by unfold insI; simp; omega
theorem zq0 {P : List Int} {a : Int} {n : Nat} (hP : RiseI P) (h : BelI P a n) (hg : ∀ hn : n < P.length, a < P[n]) : RiseI (insI P a n) := by
 have hd : ∀ x ∈ P.drop n, a < x := fun x hx => by
  obtain ⟨k, hk, rfl⟩ := List.mem_iff_getElem.1 hx
  have hk' : n + k < P.length := by simp at hk; omega
  rw [List.getElem_drop]
  rcases Nat.eq_zero_or_pos k with rfl | h0
  ·exact hg (by omega)
  ·have h1 := hg (by omega)
   have h2 : P[n] < P[n + k] := List.pairwise_iff_getElem.1 hP n (n + k) (by omega) hk' (by omega)
   omega
 refine List.pairwise_append.2 ⟨hP.sublist (List.take_sublist n P), List.pairwise_cons.2 ⟨hd, hP.sublist (List.drop_sublist n P)⟩, fun x hx y hy => ?_⟩
 have h1 := h.2 x hx
 rcases List.mem_cons.1 hy with rfl | hy
 ·exact h1
 ·have := hd y hy; omega
theorem zqm {P : List Int} {a : Int} {n : Nat} (b : Int) : b ∈ insI P a n ↔ b ∈ P ∨ b = a := by
 unfold insI
 rw [List.mem_append, List.mem_cons]
 constructor
 ·rintro (h | h | h)
  ·exact .inl (List.mem_of_mem_take h)
  ·exact .inr h
  ·exact .inl (List.mem_of_mem_drop h)
 ·rintro (h | h)
  ·rw [← List.take_append_drop n P, List.mem_append] at h
   rcases h with h | h
   ·exact .inl h
   ·exact .inr (.inr h)
  ·exact .inr (.inl h)
def znf (P : List Int) (x : Int) (j : Nat) : List Int := P.take j ++ x :: P.drop j
theorem zo4 {P : List Int} {x : Int} {j : Nat} (hj : j ≤ P.length) : (znf P x j).length = P.length + 1 := znZ hj
theorem znM (P : List Int) (x : Int) : znf P x P.length = P ++ [x] := by unfold znf; simp
theorem zqo {P : List Int} {x : Int} {j : Nat} (hj : j < P.length) : (znf P x (j + 1))[j]'(by rw [zo4 hj]; omega) = P[j] := by
 unfold znf
 rw [List.getElem_append_left (by simp; omega), List.getElem_take]
theorem zo9 {P : List Int} {x y : Int} {j : Nat} (hj : j ≤ P.length) : (znf P x j).set j y = znf P y j := by
 unfold znf
 have h1 : (P.take j).length = j := by simp; omega
 rw [List.set_append_right _ _ (by omega), h1, Nat.sub_self, List.set_cons_zero]
theorem zpq {P : List Int} {x : Int} {j : Nat} (hj : j < P.length) : (znf P x (j + 1)).set (j + 1) P[j] = znf P P[j] j := by
 rw [zo9 hj]
 unfold znf
 rw [List.take_succ_eq_append_getElem hj, List.append_assoc, List.singleton_append, List.drop_eq_getElem_cons hj]
structure PlS (P : List Int) (ts : List TeV) : Prop where
 rise : RiseI P
 mem : ∀ a, a ∈ P ↔ ∃ t ∈ ts, t.pl = a
 len : P.length ≤ ts.length
theorem PlS.nil : PlS [] [] := ⟨.nil, by simp, Nat.le_refl _⟩
theorem PlS.old {P : List Int} {ts : List TeV} {t : TeV} {n : Nat} (h : PlS P ts) (hn : n < P.length) (e : P[n] = t.pl) : PlS P (ts ++ [t]) := by
 refine ⟨h.rise, fun a => ?_, by rw [List.length_append]; have := h.len; omega⟩
 rw [h.mem]
 constructor
 ·rintro ⟨u, hu, rfl⟩
  exact ⟨u, List.mem_append_left _ hu, rfl⟩
 ·rintro ⟨u, hu, rfl⟩
  rcases List.mem_append.1 hu with hu | hu
  ·exact ⟨u, hu, rfl⟩
  ·rw [List.mem_singleton.1 hu, ← e]
   exact (h.mem _).1 (List.getElem_mem hn)
theorem PlS.more {P : List Int} {ts : List TeV} {t : TeV} {n : Nat} (h : PlS P ts) (hb : BelI P t.pl n) (hg : ∀ hn : n < P.length, t.pl < P[n]) : PlS (insI P t.pl n) (ts ++ [t]) := by
 refine ⟨zq0 h.rise hb hg, fun a => ?_, by rw [znZ hb.1, List.length_append]; have := h.len; simp; omega⟩
 rw [zqm, h.mem]
 constructor
 ·rintro (⟨u, hu, rfl⟩ | rfl)
  ·exact ⟨u, List.mem_append_left _ hu, rfl⟩
  ·exact ⟨t, by simp, rfl⟩
 ·rintro ⟨u, hu, rfl⟩
  rcases List.mem_append.1 hu with hu | hu
  ·exact .inl ⟨u, hu, rfl⟩
  ·rw [List.mem_singleton.1 hu]; exact .inr rfl
theorem RiseI.get {P : List Int} {g : Int → Rat} (hP : RiseI P) (a : Int) : getQ (P.map fun p => (p, g p)) a = if a ∈ P then g a else 0 := by
 induction P with
 | nil => simp [getQ]
 | cons p P ih =>
  have hp := List.pairwise_cons.1 hP
  rw [List.map_cons, zn9, ih hp.2]
  by_cases e : p = a
  ·subst e
   have hn : p ∉ P := fun h => by have := hp.1 p h; omega
   rw [if_pos rfl, if_neg hn, if_pos (List.mem_cons_self ..), Rat.add_zero]
  ·have hm : a ∈ p :: P ↔ a ∈ P := by simp [Ne.symm e]
   simp only [if_neg e, Rat.zero_add, hm]
theorem PlS.none {P : List Int} {ts : List TeV} (h : PlS P ts) {a : Int} (ha : a ∉ P) : ∀ us : List TeV, (∀ u ∈ us, u ∈ ts) → getQ (us.map plq) a = 0 := fun us hu => zc7 fun p hp => by
 obtain ⟨u, hm, rfl⟩ := List.mem_map.1 hp
 intro e
 exact ha ((h.mem a).2 ⟨u, hu u hm, e⟩)

theorem zpE {ts : List TeV} {i : Nat} (hi : i < ts.length) (a : Int) : getQ ((ts.take (i + 1)).map plq) a = getQ ((ts.take i).map plq) a + (if ts[i].pl = a then ts[i].q else 0) := by
 rw [List.take_succ_eq_append_getElem hi, List.map_append, zd5]
 congr 1
 show (if ts[i].pl = a then ts[i].q else 0) + 0 = _
 rw [Rat.add_zero]
theorem znH {n : Nat} : ∀ {ts : List TeV}, (∀ t ∈ ts, Sz t.q n) → ∀ a, Sz (getQ (ts.map plq) a) (1 + ts.length * (n + 1))
 | [], _, _ => by
  show Sz 0 _
  exact zfA.up (by omega)
 | t :: ts, h, a => by
  have h1 := znH (ts := ts) (fun x hx => h x (List.mem_cons_of_mem _ hx)) a
  have h2 : Sz (if t.pl = a then t.q else 0) (n + 1) := by
   split
   ·exact (h t (List.mem_cons_self ..)).up (by omega)
   ·exact zfA.up (by omega)
  show Sz ((if t.pl = a then t.q else 0) + getQ (ts.map plq) a) _
  by_cases e : t.pl = a
  ·rw [if_pos e]
   have h3 := Sz.add (h t (List.mem_cons_self ..)) h1
   refine h3.up ?_
   rw [List.length_cons, Nat.add_mul]; omega
  ·rw [if_neg e, Rat.zero_add]
   refine h1.up ?_
   rw [List.length_cons, Nat.add_mul]; omega
set_option maxRecDepth 100000 in
theorem zp8 (w : World) (n N : Nat) (hN : N ≤ 3000) (h1n : 1 ≤ n) (A : Option Addr) (c : Nat) (ts : List TeV) (h : LsR 5 tecells (teD n) A ts w) (hl : ts.length ≤ 1000) (hnN : n ≤ N) (hbd : 1 + ts.length * (n + 1) ≤ N) (a : Int) :
 Calls Tryz.prog 162 #[.slice A ts.length c, .int .i64 a] w (RetR (getQ (ts.map plq) a) w) := by
 have sl1 := h.sl
 have hszt := zas
 have hadd := za3
 have Hst := zmZ (show ∀ t ∈ ts, Sz t.q n from fun t ht => RatD.sz (h.ok t ht) h1n)
 have HE := zmZ (lyZZ ((h.old zb2)))
 have c := Env.c2 HE.out
 have dd := Env.d2 HE.out
 clear h
 go_enter Tryz.func162, Tryz.ntmps162
 go_wp2_with fail
 clear c
 go_loopw [6] (fun iv wr => ∃ (i : Nat) (k : RV) (s : Rat), iv = .int .i64 (i : Int) ∧ i ≤ ts.length ∧ Hid (s = getQ ((ts.take i).map plq) a) ∧ Hid (Env w [⟨w.heap.size + 1, 41, #[.bool k.num.neg, .slice k.num.A k.num.k k.num.c, .bool k.den.neg, .slice k.den.A k.den.k k.den.c]⟩, ⟨w.heap.size, 41, #[.bool false, .slice none 0 0, .bool false, .slice none 0 0]⟩] (fun V => LsR 5 tecells (teD n) A ts V) (fun V => RatN k s V) wr)) (fun iv _ => ts.length - (intOf iv).toNat)
 case atStart => exact ⟨0, zfi, 0, rfl, Nat.zero_le _, zmZ rfl, zmZ (HE.out.imp (fun _ h => h) (fun V _ => zk3 V))⟩
 case round =>
  clear HE
  obtain ⟨i, k, s, rfl, hi, HS, HE⟩ := hrel
  by_cases hlt : i < ts.length
  ·have c1 := HE.out.o.tc i hlt
   have HN2 := zmZ (zpE hlt a)
   have Hs := zmZ (show Sz s N by
    rw [HS.out]
    refine (znH (fun t ht => Hst.out t (List.mem_of_mem_take ht)) a).up ?_
    have h2 : (ts.take i).length ≤ ts.length := by simp; omega
    have h3 := Nat.mul_le_mul_right (n + 1) h2
    omega)
   obtain ⟨t, ht⟩ : ∃ t, t = ts[i] := ⟨_, rfl⟩
   have Hm := zmZ (show t ∈ ts by rw [ht]; exact List.getElem_mem hlt)
   rw [← ht] at c1 HN2
   clear ht
   have HTE := zmZ (show ∀ V, LsR 5 tecells (teD n) A ts V → RatD t.r t.q N V from fun V h => (h.ok t Hm.out).mono9 hnN)
   have c := Env.c2 HE.out
   by_cases he : t.pl = a
   ·have hbq : (t.pl == a) = true := by simpa using he
    have HS2 := zmZ (show s + t.q = getQ ((ts.take (i + 1)).map plq) a by rw [HN2.out, if_pos he, HS.out])
    clear he
    go_upto_region 6 with fail
    go_region_with (first
     | (go_at_call 106; go_must (refine (znw _ k t.r s t.q N hN (by omega) (RatN.rat (by with_reducible first | exact HE.out.n | exact HE.out.drew.n | exact (HE.out.drewN _).n | exact (HE.out.drewN _).drew.n) Hs.out) (HTE.out _ (by with_reducible first | exact HE.out.o | exact HE.out.drew.o | exact (HE.out.drewN _).o | exact (HE.out.drewN _).drew.o))).mono ?_; rintro e w4 ⟨k2, rfl, hk, hb⟩; replace HE := zmZ (Env.ret (by with_reducible first | exact HE.out | exact HE.out.drew | exact (HE.out.drewN _) | exact (HE.out.drewN _).drew) hk hb); replace c := Env.c2 HE.out; clear hk hb)))
    all_goals
     clear c1
     go_wp2_with fail
     go_roundw
     case rel => exact ⟨i + 1, k2, s + t.q, by go_num, by omega, HS2, zmZ (by with_reducible first | exact (HE.out.put4 _ _ _ _).imp (fun _ h => h) (fun _ h => h.1) | exact (HE.out.drew.put4 _ _ _ _).imp (fun _ h => h) (fun _ h => h.1))⟩
     case measure => (simp [intOf] <;> omega)
   ·have hbq : (t.pl == a) = false := by simpa using he
    have HS2 := zmZ (show s = getQ ((ts.take (i + 1)).map plq) a by rw [HN2.out, if_neg he, Rat.add_zero, HS.out])
    clear he
    go_wp2_with fail
    go_roundw
    case rel => exact ⟨i + 1, k, s, by go_num, by omega, HS2, HE⟩
    case measure => (simp [intOf] <;> omega)
  ·have HF := zmZ (show s = getQ (ts.map plq) a by rw [HS.out, List.take_of_length_le (by omega)])
   have c := Env.c2 HE.out
   have hnu : ¬ (i : Int) < (ts.length : Int) := by omega
   go_wp2_with fail
   rw [← HF.out]
   first
    | exact bodyPost_ret (v := .agg #[.bool k.num.neg, .slice k.num.A k.num.k k.num.c, .bool k.den.neg, .slice k.den.A k.den.k k.den.c]) (by simp [results, Tryz.results162, go_sem, c]) rfl ((HE.out.put4_1 _ _ _ _).retR' rfl fun _ h => h)
    | exact bodyPost_ret (v := .agg #[.bool k.num.neg, .slice k.num.A k.num.k k.num.c, .bool k.den.neg, .slice k.den.A k.den.k k.den.c]) (by simp [results, Tryz.results162, go_sem, Env.c2 (HE.out.put4_1 (.bool k.num.neg) (.slice k.num.A k.num.k k.num.c) (.bool k.den.neg) (.slice k.den.A k.den.k k.den.c))]) rfl ((HE.out.put4_1 _ _ _ _).retR' rfl fun _ h => h)

theorem zaF (w : World) : (sizeOf (Tryz.prog.elem 46)).run Tryz.prog w = .ok 1 w := by kernel_rfl
theorem zqg (w : World) : (sizeOf (Tryz.prog.elem 99)).run Tryz.prog w = .ok 1 w := by kernel_rfl
theorem zcf : Tryz.prog.underlying 46 = some (.slice 3) := by kernel_rfl
theorem zow : (Tryz.prog.info? 3).map (fun i => (i.zero, i.size, i.bytes)) = some (some (.int .i64 0), 1, 8) := by kernel_rfl
def ic (p : Int) : Array Value := #[.int .i64 p]
theorem zrk (x : Array Value) (hx : x.size = 1) (a : Value) : x.setIfInBounds 0 a = #[a] := by
 obtain ⟨l⟩ := x
 match l, hx with
 | [_], _ => rfl
theorem GL.put1 {w W W1 : World} {ls : List Ow} {bs : List Bo} {old new old' new' : World → Prop} {e : TypeId} {g n cap : Nat} {A : Option Addr} (hA : A = some ⟨g, 0, none⟩) {cs : List (Array Value)} (h : GL w (⟨e, 1, .slice A n cap, cs⟩ :: ls) old new W) (he : Env W bs old' new' W1) (i : Nat) (hi : i < cs.length) (a : Value) :
 GL w (⟨e, 1, .slice A n cap, cs.set i #[a]⟩ :: ls) old (fun V => new' V ∧ new V) (W1.setCell (adr A i) a) := by
 have ho : OwnE W w.heap.size e 1 (.slice A n cap) cs := h.own _ (List.mem_cons_self ..)
 have hob : (Value.slice A n cap).ownBlock = some g := by rw [hA]; rfl
 have hg := ho.lt g hob
 have hs : (cs[i]).size = 1 := ho.1 _ (List.getElem_mem hi)
 refine GL.go (o := ⟨e, 1, .slice A n cap, cs⟩) (o' := ⟨e, 1, .slice A n cap, cs.set i #[a]⟩) h he.fresh he.bel ?_ ?_ (fun k hk hne => ?_) ?_ (.inl rfl)
 ·subst hA
  have h1 := (ho.below he.bel).set1 i 0 hi (by decide) a
  rw [zrk _ hs, Nat.mul_one, Nat.add_zero] at h1
  rw [za4, Nat.zero_add]
  exact h1
 ·subst hA
  exact (Below.refl _ W1).setCell hg.1 a
 ·have hkg : k ≠ g := fun e' => hne (by rw [e']; exact hob)
  subst hA
  exact Below.heap_setCell W1 _ a k hkg
 ·show W1.heap.size ≤ (W1.setCell (adr A i) a).heap.size
  simp [World.setCell]
def zrK (ts : List TeV) (w : World) (e : Ending) (w' : World) : Prop :=
 ∃ A c P, e = .returned (.slice A (List.length P) c) ∧ P.length ≤ c ∧ PlS P ts ∧ Rests w' (w.heap.size ≤ ·) (fun V => El V 1 A (P.map ic)) ∧ Below w.heap.size w w'
theorem El.ic {w : World} {A : Option Addr} {P : List Int} (h : El w 1 A (P.map ic)) (i : Nat) (hi : i < P.length) : w.cell? (adr A i) = some (.int .i64 P[i]) := by
 have hc := h.cell i (by simpa using hi) 0 (by decide)
 rw [Nat.mul_one, Nat.add_zero, List.getElem_map] at hc
 exact hc
theorem zpK {vs : List VeV} {k : Nat} (hk : k < vs.length) : (vs.take (k + 1)).flatMap VeV.ts = (vs.take k).flatMap VeV.ts ++ vs[k].ts := by
 rw [List.take_succ_eq_append_getElem hk, List.flatMap_append]
 simp
theorem zqY {vs : List VeV} {k : Nat} (hk : k < vs.length) (n : Nat) : ∀ i, i ≤ vs[k].ts.length → (∀ v ∈ vs, v.ts.length ≤ n) → vs.length ≤ 2 → ((vs.take k).flatMap VeV.ts ++ vs[k].ts.take i).length ≤ 2 * n := fun i hi h h2 => by
 rw [List.length_append]
 have h1 := h _ (List.getElem_mem hk)
 have h3 : ((vs.take k).flatMap VeV.ts).length ≤ n := by
  match vs, k, hk with
  | [_], 0, _ => simp
  | [_, _], 0, _ => simp
  | [a, _], 1, _ =>
   have := h a (by simp)
   simpa using this
  | _ :: _ :: _ :: _, _, _ => simp at h2
 have h4 : (vs[k].ts.take i).length ≤ n := by simp; omega
 omega
set_option maxRecDepth 100000 in
theorem zpr (w : World) (n : Nat) (A : Option Addr) (c : Nat) (vs : List VeV) (h : LsR 1 vecells (veD n) A vs w) (hl : vs.length ≤ 2) (hs : ∀ v ∈ vs, v.ts.length ≤ 1000) :
 Calls Tryz.prog 160 #[.slice A vs.length c] w (zrK (vs.flatMap VeV.ts) w) := by
 have slv := h.sl
 have hszv := zqg
 have hszt := zas
 have hszi := zaF
 have hadd := za3
 have Hs := zmZ hs
 have HE := zmZ (Env.start (h.old zqW))
 clear h hs
 go_enter Tryz.func160, Tryz.ntmps160
 go_wp2_with fail
 have HG := zmZ ((GL.start HE.out).new_ 3 1)
 clear HE
 go_loopw [3, 4] (fun ov kv wr => ∃ (Ao : Option Addr) (co k : Nat) (P : List Int), ov = .slice Ao P.length co ∧ kv = .int .i64 (k : Int) ∧ k ≤ vs.length ∧ Hid (PlS P ((vs.take k).flatMap VeV.ts)) ∧ Hid (GL w [⟨3, 1, .slice Ao P.length co, P.map ic⟩] (LsR 1 vecells (veD n) A vs) (fun _ => True) wr)) (fun _ kv _ => vs.length - (intOf kv).toNat)
 case atStart => exact ⟨none, 0, 0, [], rfl, rfl, Nat.zero_le _, zmZ PlS.nil, zmZ (HG.out.imp (fun _ h => h.2) (fun _ _ => trivial))⟩
 case round =>
  clear HG
  obtain ⟨Ao, co, k, P, rfl, rfl, hk, HP, HG⟩ := hrel
  by_cases hlt : k < vs.length
  ·have HF := zmZ (zpK hlt)
   have HL := zmZ (fun i hi => zqY hlt 1000 i hi Hs.out hl)
   have HC := zmZ (fun (V : World) (h : LsR 1 vecells (veD n) A vs V) => h.vc k hlt)
   obtain ⟨v, hv⟩ : ∃ v, v = vs[k] := ⟨_, rfl⟩
   have Hm := zmZ (show v ∈ vs by rw [hv]; exact List.getElem_mem hlt)
   rw [← hv] at HF HC HL
   clear hv
   have hvl : v.ts.length ≤ 1000 := Hs.out v Hm.out
   have HP0 := zmZ (show PlS P ((vs.take k).flatMap VeV.ts ++ v.ts.take 0) by simpa using HP.out)
   clear HP
   go_wp2_with fail
   go_loopw [3, 5] (fun ov iv wr => ∃ (Ao : Option Addr) (co i : Nat) (P : List Int), ov = .slice Ao P.length co ∧ iv = .int .i64 (i : Int) ∧ i ≤ v.ts.length ∧ Hid (PlS P ((vs.take k).flatMap VeV.ts ++ v.ts.take i)) ∧ Hid (GL w [⟨3, 1, .slice Ao P.length co, P.map ic⟩] (LsR 1 vecells (veD n) A vs) (fun _ => True) wr)) (fun _ iv _ => v.ts.length - (intOf iv).toNat)
   case atStart => exact ⟨Ao, co, 0, P, rfl, rfl, Nat.zero_le _, HP0, HG⟩
   case round =>
    clear HG HP0
    obtain ⟨Ao, co, i, P, rfl, rfl, hi, HP, HG⟩ := hrel
    have c0 := HC.out _ HG.out.o
    have HPl := zmZ (show P.length ≤ 2000 from Nat.le_trans HP.out.len (HL.out i hi))
    have hpl := HPl.out
    by_cases hlt2 : i < v.ts.length
    ·have HE := zmZ HG.out.env
     have slt := (HG.out.o.ok v Hm.out).sl
     have c1 := (HG.out.o.ok v Hm.out).tc i hlt2
     have HT := zmZ (List.take_succ_eq_append_getElem hlt2)
     obtain ⟨t, ht⟩ : ∃ t, t = v.ts[i] := ⟨_, rfl⟩
     rw [← ht] at c1 HT
     clear ht
     have HO := zmZ (show OwnE wr w.heap.size 3 1 (.slice Ao P.length co) (P.map ic) from HG.out.own _ (List.mem_cons_self ..))
     have slo : Sl Ao P.length := by have := HO.out.el.1.sl; rwa [List.length_map] at this
     have HIc := zmZ (fun m (hm : m < P.length) => HO.out.el.1.ic m hm)
     go_wp2_with fail
     clear c0 c1
     obtain ⟨W1, rfl⟩ : ∃ W1, W1 = wr := ⟨_, rfl⟩
     go_loopw [7] (fun mv wr => ∃ m : Nat, mv = .int .i64 (m : Int) ∧ Hid (BelI P t.pl m) ∧ wr = W1) (fun mv _ => P.length - (intOf mv).toNat)
     case atStart => exact ⟨0, rfl, zmZ (BelI.zero _ _), rfl⟩
     case round =>
      obtain ⟨m, rfl, HB, hW⟩ := hrel
      subst hW
      have hmP := HB.out.1
      by_cases hm : m < P.length
      ·have cm := HIc.out m hm
       have HNx := zmZ (fun h => HB.out.next hm h)
       have HGt0 := zmZ (show t.pl < P[m] → ∀ hn : m < P.length, t.pl < P[m] from fun h _ => h)
       have HOl := zmZ (fun e => HP.out.old (t := t) hm e)
       have hmi : (m : Int) < (P.length : Int) := by omega
       by_cases hl3 : P[m] < t.pl
       ·have HB2 := zmZ (HNx.out hl3)
        clear HGt0 HOl HNx
        generalize P[m] = y at *
        go_wp2_with fail
        go_roundw
        case rel => exact ⟨m + 1, by go_num, HB2, by first | rfl | trivial⟩
        case measure => (simp [intOf] <;> omega)
       ·by_cases he : P[m] = t.pl
        ·have HP2 := zmZ (show PlS P ((vs.take k).flatMap VeV.ts ++ v.ts.take (i + 1)) from by rw [HT.out, ← List.append_assoc]; exact HOl.out he)
         have hbe : (P[m] == t.pl) = true := by simpa using he
         clear HGt0 HOl HNx he
         generalize P[m] = y at *
         go_wp2_with fail
         go_roundw
         case rel => exact ⟨Ao, co, i + 1, P, rfl, by go_num, by omega, HP2, HG⟩
         case measure => (simp [intOf] <;> omega)
        ·have HGt := zmZ (show ∀ hn : m < P.length, t.pl < P[m] from fun _ => by omega)
         have hbe : (P[m] == t.pl) = false := by simpa using he
         have hl4 := hl3
         clear HOl HNx HGt0 he hl3 HIc HO
         generalize P[m] = y at hbe hl4 cm
         obtain ⟨v', w8, hrun, hG⟩ := GL.app (P := Tryz.prog) zcf zow rfl (by decide) HG.out HE.out #[.int .i64 0] rfl (by simp [Value.oneCell']) (by have := HPl.out; simp; omega) (by have := HPl.out; simp [maxLen]; omega)
         obtain ⟨A', c', hv, -⟩ := (hG.own _ (List.mem_cons_self ..)).form
         have hv' : v' = .slice A' (P.length + 1) c' := by rw [show v' = _ from hv]; simp
         subst hv'
         have Hrun := zmZ hrun
         have HO := zmZ (show OwnE w8 w.heap.size 3 1 (.slice A' (P.length + 1) c') ((znf P 0 P.length).map ic) from by have h := hG.own _ (List.mem_cons_self ..); rw [znM, List.map_append]; exact h)
         obtain ⟨⟨g, hA⟩, -⟩ := HO.out.zero (by omega)
         have HG2 := zmZ (show GL w [⟨3, 1, .slice A' (P.length + 1) c', (znf P 0 P.length).map ic⟩] (LsR 1 vecells (veD n) A vs) (fun _ => True) w8 from by rw [znM, List.map_append]; exact hG.imp (fun _ h => h) (fun _ _ => trivial))
         have HA := zmZ hA
         have slA : Sl A' (P.length + 1) := by rw [hA]; exact Sl.some_ _ _ _
         clear hrun hG HG hA hv HO HE
         go_wp2_with (at_builtin; refine za1 rfl (.tmp 58) (.tmp 59) 46 _ _ _ rfl rfl rfl Hrun.out ?_)
         clear Hrun
         go_wp2_with fail
         have hw1 : IntKind.i64.wrap ((P.length : Int) + 1 - 1) = (P.length : Int) := by have := HPl.out; rw [IntKind.wrap_i64]; omega
         go_loopw [8] (fun jv wr => ∃ (j : Nat) (x : Int), jv = .int .i64 (j : Int) ∧ m ≤ j ∧ j ≤ P.length ∧ Hid (GL w [⟨3, 1, .slice A' (P.length + 1) c', (znf P x j).map ic⟩] (LsR 1 vecells (veD n) A vs) (fun _ => True) wr)) (fun jv _ => (intOf jv).toNat)
         case atStart => exact ⟨P.length, 0, by first | rw [hw1] | go_num, by omega, Nat.le_refl _, HG2⟩
         case round =>
          clear HG2
          obtain ⟨j, x, rfl, hmj, hjP, HG⟩ := hrel
          have HE := zmZ HG.out.env
          have HO := zmZ (show OwnE wr w.heap.size 3 1 (.slice A' (P.length + 1) c') ((znf P x j).map ic) from HG.out.own _ (List.mem_cons_self ..))
          have f1 := fun k => HO.out.free HA.out k
          have hrl : (znf P x j).length = P.length + 1 := zo4 hjP
          have el := HO.out.el.1
          by_cases hgt : m < j
          ·obtain ⟨k2, rfl⟩ : ∃ k2, j = k2 + 1 := ⟨j - 1, by omega⟩
           have hk2 : k2 < P.length := by omega
           have cj := el.ic (k2 + 1) (by omega)
           have ck := el.ic k2 (by omega)
           rw [zqo hk2] at ck
           have HGp := zmZ (GL.put1 HA.out HG.out HE.out (k2 + 1) (by rw [List.length_map]; omega) (.int .i64 P[k2]))
           have HN := zmZ (show ((znf P x (k2 + 1)).map ic).set (k2 + 1) #[.int .i64 P[k2]] = (znf P P[k2] k2).map ic from by rw [← zpq hk2 (x := x), List.map_set]; rfl)
           have hgt' : (m : Int) < (k2 : Int) + 1 := by omega
           have hi1 : (k2 : Int) + 1 < (P.length : Int) + 1 := by omega
           have hi3 : (k2 : Int) < (P.length : Int) + 1 := by omega
           have hi2 : (0 : Int) ≤ (k2 : Int) + 1 := by omega
           have hi5 : IntKind.i64.wrap ((k2 : Int) + 1 - 1) = (k2 : Int) := by have := HPl.out; rw [IntKind.wrap_i64]; omega
           have hi6 : IntKind.i64.wrap (k2 : Int) = (k2 : Int) := by have := HPl.out; rw [IntKind.wrap_i64]; omega
           generalize P[k2] = y at *
           generalize (znf P x (k2 + 1))[k2 + 1] = z at *
           clear el HO HE HG hrl
           go_upto_region 16 with fail
           revert HGp
           generalize World.setCell _ _ _ = W5
           intro HGp
           clear cj ck f1
           go_wp2_with fail
           go_roundw
           case rel => exact ⟨k2, y, by first | rw [hi5] | go_num, by omega, by omega, zmZ (by have h := HGp.out; rw [HN.out] at h; exact h.imp (fun _ h => h) (fun _ _ => trivial))⟩
           case measure => (simp [intOf] <;> omega)
          ·obtain rfl : j = m := by omega
           have cj := el.ic j (by omega)
           have HGp := zmZ (GL.put1 HA.out HG.out HE.out j (by rw [List.length_map]; omega) (.int .i64 t.pl))
           have HN := zmZ (show ((znf P x j).map ic).set j #[.int .i64 t.pl] = (insI P t.pl j).map ic from by rw [show insI P t.pl j = (znf P x j).set j t.pl from (zo9 hjP).symm, List.map_set]; rfl)
           have hIl := zmZ (znZ (a := t.pl) hjP)
           have HP2 := zmZ (show PlS (insI P t.pl j) ((vs.take k).flatMap VeV.ts ++ v.ts.take (i + 1)) from by rw [HT.out, ← List.append_assoc]; exact HP.out.more HB.out HGt.out)
           have hgt' : ¬ (j : Int) < (j : Int) := by omega
           have hi1 : (j : Int) < (P.length : Int) + 1 := by omega
           generalize (znf P x j)[j] = z at *
           clear el HO HE HG hrl hgt
           go_upto_region 7 with fail
           revert HGp
           generalize World.setCell _ _ _ = W5
           intro HGp
           clear cj f1
           go_wp2_with fail
           go_roundw
           case rel => exact ⟨A', c', i + 1, insI P t.pl j, by rw [hIl.out], by go_num, by omega, HP2, zmZ (by have h := HGp.out; rw [HN.out] at h; rw [hIl.out]; exact h.imp (fun _ h => h) (fun _ _ => trivial))⟩
           case measure => (simp [intOf] <;> omega)
      ·have HGt := zmZ (show ∀ hn : m < P.length, t.pl < P[m] from fun h => absurd h hm)
       have hmi : ¬ (m : Int) < (P.length : Int) := by omega
       clear HIc HO
       obtain ⟨v', w8, hrun, hG⟩ := GL.app (P := Tryz.prog) zcf zow rfl (by decide) HG.out HE.out #[.int .i64 0] rfl (by simp [Value.oneCell']) (by have := HPl.out; simp; omega) (by have := HPl.out; simp [maxLen]; omega)
       obtain ⟨A', c', hv, -⟩ := (hG.own _ (List.mem_cons_self ..)).form
       have hv' : v' = .slice A' (P.length + 1) c' := by rw [show v' = _ from hv]; simp
       subst hv'
       have Hrun := zmZ hrun
       have HO := zmZ (show OwnE w8 w.heap.size 3 1 (.slice A' (P.length + 1) c') ((znf P 0 P.length).map ic) from by have h := hG.own _ (List.mem_cons_self ..); rw [znM, List.map_append]; exact h)
       obtain ⟨⟨g, hA⟩, -⟩ := HO.out.zero (by omega)
       have HG2 := zmZ (show GL w [⟨3, 1, .slice A' (P.length + 1) c', (znf P 0 P.length).map ic⟩] (LsR 1 vecells (veD n) A vs) (fun _ => True) w8 from by rw [znM, List.map_append]; exact hG.imp (fun _ h => h) (fun _ _ => trivial))
       have HA := zmZ hA
       have slA : Sl A' (P.length + 1) := by rw [hA]; exact Sl.some_ _ _ _
       clear hrun hG HG hA hv HO HE
       go_wp2_with (at_builtin; refine za1 rfl (.tmp 58) (.tmp 59) 46 _ _ _ rfl rfl rfl Hrun.out ?_)
       clear Hrun
       go_wp2_with fail
       have hw1 : IntKind.i64.wrap ((P.length : Int) + 1 - 1) = (P.length : Int) := by have := HPl.out; rw [IntKind.wrap_i64]; omega
       go_loopw [8] (fun jv wr => ∃ (j : Nat) (x : Int), jv = .int .i64 (j : Int) ∧ m ≤ j ∧ j ≤ P.length ∧ Hid (GL w [⟨3, 1, .slice A' (P.length + 1) c', (znf P x j).map ic⟩] (LsR 1 vecells (veD n) A vs) (fun _ => True) wr)) (fun jv _ => (intOf jv).toNat)
       case atStart => exact ⟨P.length, 0, by first | rw [hw1] | go_num, by omega, Nat.le_refl _, HG2⟩
       case round =>
        clear HG2
        obtain ⟨j, x, rfl, hmj, hjP, HG⟩ := hrel
        have HE := zmZ HG.out.env
        have HO := zmZ (show OwnE wr w.heap.size 3 1 (.slice A' (P.length + 1) c') ((znf P x j).map ic) from HG.out.own _ (List.mem_cons_self ..))
        have f1 := fun k => HO.out.free HA.out k
        have hrl : (znf P x j).length = P.length + 1 := zo4 hjP
        have el := HO.out.el.1
        by_cases hgt : m < j
        ·exact absurd hgt (by omega)
        ·obtain rfl : j = m := by omega
         have cj := el.ic j (by omega)
         have HGp := zmZ (GL.put1 HA.out HG.out HE.out j (by rw [List.length_map]; omega) (.int .i64 t.pl))
         have HN := zmZ (show ((znf P x j).map ic).set j #[.int .i64 t.pl] = (insI P t.pl j).map ic from by rw [show insI P t.pl j = (znf P x j).set j t.pl from (zo9 hjP).symm, List.map_set]; rfl)
         have hIl := zmZ (znZ (a := t.pl) hjP)
         have HP2 := zmZ (show PlS (insI P t.pl j) ((vs.take k).flatMap VeV.ts ++ v.ts.take (i + 1)) from by rw [HT.out, ← List.append_assoc]; exact HP.out.more HB.out HGt.out)
         have hgt' : ¬ (j : Int) < (j : Int) := by omega
         have hi1 : (j : Int) < (P.length : Int) + 1 := by omega
         generalize (znf P x j)[j] = z at *
         clear el HO HE HG hrl hgt
         go_upto_region 7 with fail
         revert HGp
         generalize World.setCell _ _ _ = W5
         intro HGp
         clear cj f1
         go_wp2_with fail
         go_roundw
         case rel => exact ⟨A', c', i + 1, insI P t.pl j, by rw [hIl.out], by go_num, by omega, HP2, zmZ (by have h := HGp.out; rw [HN.out] at h; rw [hIl.out]; exact h.imp (fun _ h => h) (fun _ _ => trivial))⟩
         case measure => (simp [intOf] <;> omega)
    ·obtain rfl : i = v.ts.length := by omega
     have HP2 := zmZ (show PlS P ((vs.take (k + 1)).flatMap VeV.ts) by have h := HP.out; rw [List.take_length, ← HF.out] at h; exact h)
     go_wp2_with fail
     go_roundw
     case rel => exact ⟨Ao, co, k + 1, P, rfl, by go_num, by omega, HP2, HG⟩
     case measure => (simp [intOf] <;> omega)
  ·obtain rfl : k = vs.length := by omega
   have HP2 := zmZ (show PlS P (vs.flatMap VeV.ts) by have h := HP.out; rwa [List.take_length] at h)
   have HO := zmZ (show OwnE wr w.heap.size 3 1 (.slice Ao P.length co) (P.map ic) from HG.out.own _ (List.mem_cons_self ..))
   go_wp2_with fail
   go_ret
   obtain ⟨A', c', hv, hc, hr⟩ := HO.out.reads
   obtain ⟨rfl, -, rfl⟩ : Ao = A' ∧ P.length = (P.map ic).length ∧ co = c' := by simpa using hv
   exact ⟨_, _, _, rfl, by simpa using hc, HP2.out, hr, HG.out.bel⟩

set_option maxRecDepth 100000 in
theorem zrz (w0 w : World) (ls : List Ow) (old ψ : World → Prop) (A : Option Addr) (c0 : Nat) (os : List TeV) (HG : GL w0 (⟨45, 5, .slice A os.length c0, os.map tecells⟩ :: ls) (old) (fun V => (∀ p ∈ os, teN p V) ∧ ψ V) w) (_hl : os.length ≤ 1000) (a : Int) (r : RV) (q : Rat) (n : Nat) (hn : n ≤ 10000) (h1n : 1 ≤ n) (hr : RatD r q n w) (h0 : (q.num.sign == 0) = true) :
 Calls Tryz.prog 161 #[.slice A os.length c0, .int .i64 a, rA r] w fun e w' => ∃ A' c' os', e = .returned (.slice A' (List.length os') c') ∧ os'.map plq = os.map plq ++ ([(a, q)].filter nzP) ∧ GL w0 (⟨45, 5, .slice A' os'.length c', os'.map tecells⟩ :: ls) (old) (fun V => (∀ p ∈ os', teN p V) ∧ ψ V) w' := by
 have hz := zmZ h0
 have hbq : (q.num.sign == 0) = true := h0
 clear h0
 have HG0 := zmZ HG
 have HE := zmZ (lyR r ((RatD.old hr)))
 have c := Env.c1 HE.out
 clear hr HG
 unfold rA
 go_enter Tryz.func161, Tryz.ntmps161
 go_wp2_with fail
 refine (znU _ r q n hn h1n HE.out.o).mono ?_
 rintro e w1 ⟨rfl, hb⟩
 replace HE := zmZ (Env.call HE.out hb)
 have c2 := Env.c1 HE.out
 clear hb
 go_wp2_with fail
 go_ret
 refine ⟨A, c0, os, rfl, ?_, ((HG0.out.keep (ψ := fun _ => True) (Rests.pure trivial _ _) HE.out.bel).imp (fun _ h => h) (fun _ h => h.2))⟩
 have : nzP (a, q) = false := by unfold nzP; simp only; rw [hz.out]; rfl
 simp [this]
set_option maxRecDepth 100000 in
theorem zro (w0 w : World) (ls : List Ow) (old ψ : World → Prop) (A : Option Addr) (c0 : Nat) (os : List TeV) (HG : GL w0 (⟨45, 5, .slice A os.length c0, os.map tecells⟩ :: ls) (old) (fun V => (∀ p ∈ os, teN p V) ∧ ψ V) w) (hl : os.length ≤ 1000) (a : Int) (r : RV) (q : Rat) (n : Nat) (hn : n ≤ 10000) (h1n : 1 ≤ n) (hr : RatD r q n w) (h0 : (q.num.sign == 0) = false) :
 Calls Tryz.prog 161 #[.slice A os.length c0, .int .i64 a, rA r] w fun e w' => ∃ A' c' os', e = .returned (.slice A' (List.length os') c') ∧ os'.map plq = os.map plq ++ ([(a, q)].filter nzP) ∧ GL w0 (⟨45, 5, .slice A' os'.length c', os'.map tecells⟩ :: ls) (old) (fun V => (∀ p ∈ os', teN p V) ∧ ψ V) w' := by
 have hz := zmZ h0
 have hbq : (q.num.sign == 0) = false := h0
 clear h0
 have HG0 := zmZ HG
 have HE := zmZ (lyR r ((RatD.old hr)))
 have c := Env.c1 HE.out
 clear hr HG
 unfold rA
 go_enter Tryz.func161, Tryz.ntmps161
 go_wp2_with fail
 refine (znU _ r q n hn h1n HE.out.o).mono ?_
 rintro e w1 ⟨rfl, hb⟩
 replace HE := zmZ (Env.call HE.out hb)
 have c2 := Env.c1 HE.out
 clear hb
 go_wp2_with fail
 refine (znC _ r q n hn h1n HE.out.o).mono ?_
 rintro e w2 ⟨k, rfl, hk, hb⟩
 replace HE := zmZ (Env.ret HE.out hk hb)
 clear hk hb
 obtain ⟨A', c', w3, hrun, hG⟩ := GL.appT zeF HG0.out HE.out ⟨a, k, q⟩ (by omega)
 have Hrun := zmZ hrun
 have HG2 := zmZ hG
 clear hrun hG HG0
 go_wp2_with (at_builtin; refine za1 rfl (.tmp 11) (.tmp 16) 43 _ _ _ rfl rfl rfl Hrun.out ?_)
 clear Hrun
 go_wp2_with fail
 go_ret
 refine ⟨A', c', os ++ [⟨a, k, q⟩], by rw [List.length_append]; rfl, ?_, HG2.out.imp (fun _ h => h) (fun V h => ⟨fun p hp => ?_, h.2.2⟩)⟩
 ·have : nzP (a, q) = true := by unfold nzP; simp only; rw [hz.out]; rfl
  rw [List.map_append, List.filter_cons, if_pos this]; rfl
 ·rcases List.mem_append.1 hp with hp | hp
  ·exact h.2.1 p hp
  ·rw [List.mem_singleton.1 hp]; exact h.1.1
theorem zq8 (w0 w : World) (ls : List Ow) (old ψ : World → Prop) (A : Option Addr) (c0 : Nat) (os : List TeV) (HG : GL w0 (⟨45, 5, .slice A os.length c0, os.map tecells⟩ :: ls) (old) (fun V => (∀ p ∈ os, teN p V) ∧ ψ V) w) (hl : os.length ≤ 1000) (a : Int) (r : RV) (q : Rat) (n : Nat) (hn : n ≤ 10000) (h1n : 1 ≤ n) (hr : RatD r q n w) :
 Calls Tryz.prog 161 #[.slice A os.length c0, .int .i64 a, rA r] w fun e w' => ∃ A' c' os', e = .returned (.slice A' (List.length os') c') ∧ os'.map plq = os.map plq ++ ([(a, q)].filter nzP) ∧ GL w0 (⟨45, 5, .slice A' os'.length c', os'.map tecells⟩ :: ls) (old) (fun V => (∀ p ∈ os', teN p V) ∧ ψ V) w' := by
 by_cases h0 : (q.num.sign == 0) = true
 ·exact zrz w0 w ls old ψ A c0 os HG hl a r q n hn h1n hr h0
 ·exact zro w0 w ls old ψ A c0 os HG hl a r q n hn h1n hr (by simpa using h0)
theorem zre {P : List Int} {ts us : List TeV} {n N : Nat} (hP : PlS P ts) (hs : ∀ a, Sz (getQ (ts.map plq) a) N) (h : us.map plq = (P.map fun p => (p, getQ (ts.map plq) p)).filter nzP) (hl : P.length ≤ n) :
 (us.map plq).Pairwise (fun p q => p.1 < q.1) ∧ (∀ p ∈ us.map plq, nzP p = true ∧ Sz p.2 N) ∧ (us.map plq).length ≤ n ∧ (∀ a, getQ (us.map plq) a = getQ (ts.map plq) a) := by
 rw [h]
 refine ⟨List.Pairwise.filter _ (List.pairwise_map.2 hP.rise), fun p hp => ?_, ?_, fun a => ?_⟩
 ·have h1 := List.mem_filter.1 hp
  obtain ⟨x, hx, rfl⟩ := List.mem_map.1 h1.1
  exact ⟨h1.2, hs x⟩
 ·have := List.length_filter_le nzP (P.map fun p => (p, getQ (ts.map plq) p))
  rw [List.length_map] at this
  omega
 ·rw [zde, hP.rise.get]
  split
  ·rfl
  ·exact (hP.none (by assumption) ts (fun _ h => h)).symm
theorem GL.after {w W W' : World} {ls : List Ow} {bs : List Bo} {old new old' new' : World → Prop} (h : GL w ls old new W) (he : Env W bs old' new' W') : GL w ls old new W' :=
 (h.keep (ψ := fun _ => True) (Rests.pure trivial _ _) he.bel).imp (fun _ h => h) (fun _ h => h.2)
theorem vs2 {n g : Nat} {A : Option Addr} {c : Nat} {ts : List TeV} {W : World} {t : TypeId} (h : Blk W g t #[.slice none 0 0, .slice A ts.length c]) (ht : LsR 5 tecells (teD n) A ts W) : LsR 1 vecells (veD n) (some ⟨g, 0, none⟩) [⟨none, 0, []⟩, ⟨A, c, ts⟩] W := by
 refine ⟨⟨Sl.some_ _ _ _, fun i hi => ?_, fun i hi j hj => ?_⟩, fun p hp => ?_⟩
 ·match i, hi with
  | 0, _ => rfl
  | 1, _ => rfl
 ·obtain rfl : j = 0 := by omega
  rw [za4]
  match i, hi with
  | 0, _ => exact h.cell 0
  | 1, _ => exact h.cell 1
 ·simp only [List.mem_cons, List.not_mem_nil, or_false] at hp
  rcases hp with rfl | rfl
  ·exact LsR.nil_ none
  ·exact ht
set_option maxRecDepth 100000 in
theorem zrf (w : World) (n N : Nat) (hN : N ≤ 3000) (h1n : 1 ≤ n) (A : Option Addr) (c0 : Nat) (ts : List TeV) (h : LsR 5 tecells (teD n) A ts w) (hl : ts.length ≤ 1000) (hnN : n ≤ N) (hbd : 1 + ts.length * (n + 1) ≤ N) :
 Calls Tryz.prog 111 #[.slice A ts.length c0, .agg #[.bool false, .slice none 0 0, .bool false, .slice none 0 0], .slice none 0 0] w (RetC (fun a => getQ (ts.map plq) a) N ts.length w) := by
 have Hst := zmZ (show ∀ t ∈ ts, Sz t.q n from fun t ht => RatD.sz (h.ok t ht) h1n)
 have HS := zmZ (show ∀ a, Sz (getQ (ts.map plq) a) N from fun a => (znH Hst.out a).up hbd)
 have hszi := zaF
 have hadd := za3
 obtain ⟨W0, hW0⟩ : ∃ W0, W0 = ((w.alloc (.cells #[.bool false, .slice none 0 0, .bool false, .slice none 0 0] 41)).alloc (.cells #[.slice none 0 0, .slice A ts.length c0] 42)) := ⟨_, rfl⟩
 have HE := zmZ (Env.lay2 (Env.start ((h.old zb2))) hW0)
 subst hW0
 have c := Env.c2 HE.out
 have dd := Env.d2 HE.out
 clear h
 go_enter Tryz.func111, Tryz.ntmps111
 go_wp2_with fail
 have HV := zmZ (show LsR 1 vecells (veD n) (some ⟨w.heap.size + 1, 0, none⟩) [⟨none, 0, []⟩, ⟨A, c0, ts⟩] _ from vs2 (HE.out.bx ⟨w.heap.size + 1, 42, #[.slice none 0 0, .slice A ts.length c0]⟩ (by simp)) HE.out.o)
 refine (zpr _ n (some ⟨w.heap.size + 1, 0, none⟩) 2 [⟨none, 0, []⟩, ⟨A, c0, ts⟩] HV.out (by simp) (by simp; omega)).mono ?_
 rintro e w1 ⟨Ap, cp, P, rfl, hcp, hP, hk, hb⟩
 replace HE := zmZ (Env.ret HE.out hk hb)
 have HP := zmZ (show PlS P ts by simpa using hP)
 clear hk hb hP HV
 have slp : Sl Ap P.length := by have := HE.out.n.1.sl; rwa [List.length_map] at this
 have HPl := zmZ (show P.length ≤ ts.length from HP.out.len)
 go_wp2_with fail
 have HG := zmZ ((GL.start HE.out).new_ 45 5)
 clear HE
 go_loopw [7, 9] (fun ov iv wr => ∃ (Ao : Option Addr) (co i : Nat) (os : List TeV), ov = .slice Ao os.length co ∧ iv = .int .i64 (i : Int) ∧ i ≤ P.length ∧ Hid (os.map plq = ((P.take i).map fun p => (p, getQ (ts.map plq) p)).filter nzP) ∧ Hid (GL w [⟨45, 5, .slice Ao os.length co, os.map tecells⟩] (fun V => Blk V (w.heap.size + 1) 42 #[.slice none 0 0, .slice A ts.length c0] ∧ Blk V (w.heap.size) 41 #[.bool false, .slice none 0 0, .bool false, .slice none 0 0] ∧ LsR 5 tecells (teD n) A ts V) (fun V => (∀ p ∈ os, teN p V) ∧ El V 1 Ap (P.map ic)) wr)) (fun _ iv _ => P.length - (intOf iv).toNat)
 case atStart => exact ⟨none, 0, 0, [], rfl, rfl, Nat.zero_le _, zmZ rfl, zmZ (HG.out.imp (fun _ h => ⟨h.1 ⟨w.heap.size + 1, 42, #[.slice none 0 0, .slice A ts.length c0]⟩ (by simp), h.1 ⟨w.heap.size, 41, #[.bool false, .slice none 0 0, .bool false, .slice none 0 0]⟩ (by simp), h.2⟩) (fun _ h => ⟨by simp, h.1⟩))⟩
 case round =>
  clear HG
  obtain ⟨Ao, co, i, os, rfl, rfl, hi, HM, HG⟩ := hrel
  by_cases hlt : i < P.length
  ·have HE := zmZ HG.out.env
   have hPl := HPl.out
   have Hol := zmZ (show os.length ≤ P.length by
    have h1 := congrArg List.length HM.out
    rw [List.length_map] at h1
    have h2 := List.length_filter_le nzP ((P.take i).map fun p => (p, getQ (ts.map plq) p))
    rw [List.length_map] at h2
    have h3 : (P.take i).length ≤ P.length := by simp; omega
    omega)
   have HIc := zmZ (fun (V : World) (h : El V 1 Ap (P.map ic)) => h.ic i hlt)
   have HNx := zmZ (show (P.take (i + 1)).map (fun p => (p, getQ (ts.map plq) p)) = (P.take i).map (fun p => (p, getQ (ts.map plq) p)) ++ [(P[i], getQ (ts.map plq) P[i])] by rw [List.take_succ_eq_append_getElem hlt, List.map_append]; rfl)
   generalize P[i] = p at HIc HNx
   have HC := zmZ (fun (V : World) (h : (Blk V (w.heap.size + 1) 42 #[.slice none 0 0, .slice A ts.length c0] ∧ Blk V (w.heap.size) 41 #[.bool false, .slice none 0 0, .bool false, .slice none 0 0] ∧ LsR 5 tecells (teD n) A ts V) ∧ (∀ p ∈ os, teN p V) ∧ El V 1 Ap (P.map ic)) => And.intro (HIc.out V h.2.2) (Blk.cb h.1.2.1))
   have HCG := zmZ (fun (V : World) (h : Blk V (w.heap.size + 1) 42 #[.slice none 0 0, .slice A ts.length c0] ∧ Blk V (w.heap.size) 41 #[.bool false, .slice none 0 0, .bool false, .slice none 0 0] ∧ LsR 5 tecells (teD n) A ts V) (h2 : El V 1 Ap (P.map ic)) => And.intro (HIc.out V h2) (Blk.cb h.2.1))
   have HZ := zmZ (show getQ (ts.map plq) p + 0 * getQ (List.map plq []) p = getQ (ts.map plq) p by rw [Rat.zero_mul, Rat.add_zero])
   have Hs0 := zmZ (show Sz (getQ (List.map plq []) p) N from zfA.up (by omega))
   have Hs3 := zmZ (show Sz (0 * getQ (List.map plq []) p) N by rw [Rat.zero_mul]; exact zfA.up (by omega))
   have Hsp := zmZ (HS.out p)
   have cc := HC.out _ HE.out.o
   clear c
   go_upto_region 6 with fail
   go_region_held3 (fun W => W.cell? (adr Ap i) = some (.int .i64 p) ∧ CB (w.heap.size) #[.bool false, .slice none 0 0, .bool false, .slice none 0 0] W) (first | with_reducible exact cc | with_reducible exact HC.out _ HE.out.drew.o | ((repeat' apply And.intro) <;> go_keep))
    (first
     | (go_at_call_of 162 (#[.slice A ts.length c0, .int .i64 p] : Array Value); go_must (refine (zp8 _ n N hN h1n A c0 ts (by with_reducible first | exact HE.out.o.1.2.2 | exact HE.out.drew.o.1.2.2) (by omega) hnN hbd p).mono ?_; rintro e w3 ⟨k1, rfl, hk, hb⟩; replace HE := zmZ (Env.ret (by with_reducible first | exact HE.out | exact HE.out.drew) hk hb); replace cc := HC.out _ HE.out.o; clear hk hb))
     | (go_at_call_of 162 (#[.slice none 0 0, .int .i64 p] : Array Value); go_must (refine (zp8 _ 1 N hN (Nat.le_refl _) none 0 [] (LsR.nil_ none) (by simp) (by omega) (by simp; omega) p).mono ?_; rintro e w4 ⟨k2, rfl, hk, hb⟩; replace HE := zmZ (Env.ret (by with_reducible first | exact HE.out | exact HE.out.drew) hk hb); replace cc := HC.out _ HE.out.o; clear hk hb))
     | (go_at_call 107; go_must (refine (zo2 _ zfi k2 0 (getQ (List.map plq []) p) N hN (by omega) (RatD.zero_ _ N) (RatN.rat (show RatN k2 (getQ (List.map plq []) p) _ from (by with_reducible first | exact HE.out.n | exact HE.out.n.1 | exact HE.out.n.2.1 | exact HE.out.n.2.2.1 | exact HE.out.n.2.2.2.1 | exact HE.out.drew.n | exact HE.out.drew.n.1 | exact HE.out.drew.n.2.1 | exact HE.out.drew.n.2.2.1 | exact HE.out.drew.n.2.2.2.1)) Hs0.out)).mono ?_; rintro e w5 ⟨k3, rfl, hk, hb⟩; replace HE := zmZ (Env.ret (by with_reducible first | exact HE.out | exact HE.out.drew) hk hb); replace cc := HC.out _ HE.out.o; clear hk hb))
     | (go_at_call 106; go_must (refine (znw _ k1 k3 (getQ (ts.map plq) p) (0 * getQ (List.map plq []) p) N hN (by omega) (RatN.rat (show RatN k1 (getQ (ts.map plq) p) _ from (by with_reducible first | exact HE.out.n | exact HE.out.n.1 | exact HE.out.n.2.1 | exact HE.out.n.2.2.1 | exact HE.out.n.2.2.2.1 | exact HE.out.drew.n | exact HE.out.drew.n.1 | exact HE.out.drew.n.2.1 | exact HE.out.drew.n.2.2.1 | exact HE.out.drew.n.2.2.2.1)) Hsp.out) (RatN.rat (show RatN k3 (0 * getQ (List.map plq []) p) _ from (by with_reducible first | exact HE.out.n | exact HE.out.n.1 | exact HE.out.n.2.1 | exact HE.out.n.2.2.1 | exact HE.out.n.2.2.2.1 | exact HE.out.drew.n | exact HE.out.drew.n.1 | exact HE.out.drew.n.2.1 | exact HE.out.drew.n.2.2.1 | exact HE.out.drew.n.2.2.2.1)) Hs3.out)).mono ?_; rintro e w6 ⟨k4, rfl, hk, hb⟩; rw [HZ.out] at hk; replace HE := zmZ (Env.ret (by with_reducible first | exact HE.out | exact HE.out.drew) hk hb); replace cc := HC.out _ HE.out.o; clear hk hb))
     | (go_at_call 161; go_must (refine (zq8 w _ [] (fun V => Blk V (w.heap.size + 1) 42 #[.slice none 0 0, .slice A ts.length c0] ∧ Blk V (w.heap.size) 41 #[.bool false, .slice none 0 0, .bool false, .slice none 0 0] ∧ LsR 5 tecells (teD n) A ts V) (fun V => El V 1 Ap (P.map ic)) Ao co os (GL.after HG.out (by with_reducible first | exact HE.out | exact HE.out.drew)) (by have := Hol.out; omega) p k4 (getQ (ts.map plq) p) N (by omega) (by omega) (RatN.rat (show RatN k4 (getQ (ts.map plq) p) _ from (by with_reducible first | exact HE.out.n | exact HE.out.n.1 | exact HE.out.n.2.1 | exact HE.out.n.2.2.1 | exact HE.out.n.2.2.2.1 | exact HE.out.drew.n | exact HE.out.drew.n.1 | exact HE.out.drew.n.2.1 | exact HE.out.drew.n.2.2.1 | exact HE.out.drew.n.2.2.2.1)) Hsp.out)).mono ?_; rintro e w7 ⟨Ao2, co2, os2, rfl, hm2, hG2⟩; have cc := HCG.out _ hG2.o hG2.n.2; have HM2 := zmZ hm2; have HG2 := zmZ hG2; clear hm2 hG2)))
   all_goals
    go_wp2_with fail
    go_roundw
    case rel => exact ⟨Ao2, co2, i + 1, os2, rfl, by go_num, by omega, zmZ (by rw [HM2.out, HM.out, HNx.out, List.filter_append]), HG2⟩
    case measure => (simp [intOf] <;> omega)
  ·have HM2 := zmZ (show os.map plq = (P.map fun p => (p, getQ (ts.map plq) p)).filter nzP by rw [HM.out, List.take_of_length_le (by omega)])
   have hnu : ¬ (i : Int) < (P.length : Int) := by omega
   go_wp2_with fail
   go_ret
   obtain ⟨A', c', hv, hc, hr⟩ := HG.out.tell (fun V h => h.1)
   obtain ⟨rfl, -, rfl⟩ : Ao = A' ∧ os.length = os.length ∧ co = c' := by simpa using hv
   obtain ⟨h1, h2, h3, h4⟩ := zre (n := ts.length) HP.out HS.out HM2.out HPl.out
   exact ⟨_, h1, h2, h3, h4, Ao, co, os, rfl, hc, rfl, hr, HG.out.bel⟩
set_option maxRecDepth 100000 in
theorem zox (w : World) (n N : Nat) (hN : N ≤ 3000) (h1n : 1 ≤ n) (A : Option Addr) (c0 : Nat) (ts : List TeV) (h : LsR 5 tecells (teD n) A ts w) (hl : ts.length ≤ 1000) (hnN : n ≤ N) (hbd : 1 + ts.length * (n + 1) ≤ N) :
 Calls Tryz.prog 67 #[.slice A ts.length c0] w (RetC (fun a => getQ (ts.map plq) a) N ts.length w) := by
 have H := zmZ h
 clear h
 go_enter Tryz.func67, Tryz.ntmps67
 go_wp2_with fail
 refine (zrf w n N hN h1n A c0 ts H.out hl hnN hbd).mono ?_
 intro e w1 hret
 have HR := zmZ hret
 obtain ⟨us, -, -, -, -, A', c', us', rfl, -⟩ := hret
 go_wp2_with fail
 go_ret
 exact HR.out

set_option maxRecDepth 100000 in
theorem zrm (w : World) (A B : Option Addr) (c d : Nat) (l : List Nat) (hl : l.length ≤ 17592186044416) (ha : Rd w .u64 A l) (hb : Rd w .u64 B l) :
 Calls Tryz.prog 153 #[.slice A l.length c, .slice B l.length d] w fun e w' => e = .returned (.bool true) ∧ ∃ n, w' = w.drewN n := by
 have Ha := zmZ ha; have Hb := zmZ hb
 have hsa := ha.sl; have hsb := hb.sl
 have h1 := zao
 clear ha hb
 go_enter Tryz.func153, Tryz.ntmps153
 go_wp2_with fail
 go_loopw [5] (fun i wr => ∃ k : Nat, k ≤ l.length ∧ i = .int .i64 k ∧ ∃ q, wr = w.drewN q) (fun i _ => l.length - (intOf i).toNat)
 case atStart => exact ⟨0, Nat.zero_le _, rfl, 0, rfl⟩
 case round =>
  obtain ⟨k, hk, rfl, q, rfl⟩ := hrel
  by_cases hlt : k < l.length
  ·have hca := Ha.out.cell k hlt
   have hcb := Hb.out.cell k hlt
   generalize nth l k = x at *
   go_wp2_with fail
   go_quiet (fail)
   go_wp2_with fail
   go_roundw
   case rel => exact ⟨k + 1, by omega, by go_num, _, rfl⟩
   case measure => simp [intOf]; omega
  ·obtain rfl : k = l.length := by omega
   go_wp2_with fail
   go_ret
   exact ⟨rfl, _, rfl⟩

set_option maxRecDepth 100000 in
theorem zrq (w : World) (A B : Option Addr) (c d : Nat) (l m : List Nat) (hl : l.length ≤ 17592186044416) (hlm : l.length = m.length) (ha : Rd w .u64 A l) (hb : Rd w .u64 B m) (hne : l ≠ m) :
 Calls Tryz.prog 153 #[.slice A l.length c, .slice B l.length d] w fun e w' => e = .returned (.bool false) ∧ ∃ n, w' = w.drewN n := by
 have Hne := zmZ hne
 have Hlm := zmZ hlm
 have Ha := zmZ ha; have Hb := zmZ hb
 have hsa := ha.sl
 have hsb := hb.sl
 rw [← hlm] at hsb
 have h1 := zao
 clear ha hb hne hlm
 go_enter Tryz.func153, Tryz.ntmps153
 go_wp2_with fail
 go_loopw [5] (fun i wr => ∃ k : Nat, k ≤ l.length ∧ Hid (∀ t < k, nth l t = nth m t) ∧ i = .int .i64 k ∧ ∃ q, wr = w.drewN q) (fun i _ => l.length - (intOf i).toNat)
 case atStart => exact ⟨0, Nat.zero_le _, zmZ (fun t ht => absurd ht (Nat.not_lt_zero t)), rfl, 0, rfl⟩
 case round =>
  obtain ⟨k, hk, Hall, rfl, q, rfl⟩ := hrel
  by_cases hlt : k < l.length
  ·have hca := Ha.out.cell k hlt
   have hcb := Hb.out.cell k (by rw [← Hlm.out]; exact hlt)
   by_cases he : nth l k = nth m k
   ·have Hal2 := zmZ (show ∀ t < k + 1, nth l t = nth m t from fun t ht => by
     rcases Nat.lt_or_eq_of_le (Nat.lt_succ_iff.1 ht) with h | h
     ·exact Hall.out t h
     ·rw [h]; exact he)
    rw [← he] at hcb
    clear he Hall
    generalize nth l k = x at hca hcb
    go_wp2_with fail
    go_quiet (fail)
    go_wp2_with fail
    go_roundw
    case rel => exact ⟨k + 1, by omega, Hal2, by go_num, _, rfl⟩
    case measure => simp [intOf]; omega
   ·have hx : ((nth l k : Nat) : Int) ≠ ((nth m k : Nat) : Int) := by omega
    generalize nth l k = x at *
    generalize nth m k = y at *
    go_wp2_with fail
    go_quiet (fail)
    go_wp2_with fail
    go_ret
    exact ⟨rfl, _, World.drewN_drewN _ _ _⟩
  ·exact absurd (zc5 l m Hlm.out (fun t ht => Hall.out t (by omega))) Hne.out

set_option maxRecDepth 100000 in
theorem zqJ (w : World) (A B : Option Addr) (c d n m : Nat) (hne : n ≠ m) :
 Calls Tryz.prog 153 #[.slice A n c, .slice B m d] w fun e w' => e = .returned (.bool false) ∧ ∃ q, w' = w.drewN q := by
 go_enter Tryz.func153, Tryz.ntmps153
 go_wp2_with fail
 go_ret
 exact ⟨rfl, 0, rfl⟩

theorem zqL (w : World) (A B : Option Addr) (c d : Nat) (l m : List Nat) (hl : l.length ≤ 17592186044416) (ha : Rd w .u64 A l) (hb : Rd w .u64 B m) :
 Calls Tryz.prog 153 #[.slice A l.length c, .slice B m.length d] w fun e w' => e = .returned (.bool (decide (l = m))) ∧ ∃ n, w' = w.drewN n := by
 by_cases h : l = m
 ·subst h
  rw [decide_eq_true rfl]
  exact zrm w A B c d l hl ha hb
 ·rw [decide_eq_false h]
  by_cases hn : l.length = m.length
  ·rw [← hn]; exact zrq w A B c d l m hl hn ha hb h
  ·exact zqJ w A B c d _ _ hn
end Go.Proofs.YtikmgoefjbhcjaaGreatDoor
