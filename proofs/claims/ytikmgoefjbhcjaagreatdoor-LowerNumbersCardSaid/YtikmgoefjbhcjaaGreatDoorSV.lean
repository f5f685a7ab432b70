/-
 slices.Clone of terms; slices.IndexFunc, slices.DeleteFunc by sparse.Norm's test. slices.IndexFunc, slices.DeleteFunc by sparse.Norm's test. sparse.Norm of a list that rises.
-/
import Derived.Test.YtikmgoefjbhcjaaGreatDoorSS
import Derived.Test.YtikmgoefjbhcjaaGreatDoorQC
import Derived.Test.YtikmgoefjbhcjaaGreatDoorSL
import Derived.Lib.SliceRun
namespace Go.Proofs.YtikmgoefjbhcjaaGreatDoor
set_option maxHeartbeats 2000000
open Go.RowKit

theorem zcr (t : TeV) : ∀ u ∈ (tecells t).toList, u.oneCell' = true := by
 intro u hu
 simp only [tecells, List.mem_cons, List.not_mem_nil, or_false] at hu
 rcases hu with rfl | rfl | rfl | rfl | rfl <;> rfl
set_option maxRecDepth 100000 in
theorem zgC (w : World) (c : Nat) : Calls Tryz.prog 79 #[.slice none 0 c] w fun e w' => e = .returned (.slice none 0 0) ∧ w' = w := by
 have heq := fun (W : World) => Lib.run_eql_slice_nil (P := Tryz.prog) W 42 45 none 0 c 0 0 zaK
 go_enter Tryz.func79, Tryz.ntmps79
 go_wp2_with fail
 go_ret
 exact ⟨rfl, rfl⟩
set_option maxRecDepth 100000 in
theorem zgD (w : World) (ad : Addr) (c : Nat) (ts : List TeV) (h : El w 5 (some ad) (ts.map tecells)) (hl : ts.length ≤ 1000000) : Calls Tryz.prog 79 #[.slice (some ad) ts.length c] w fun e w' => ∃ A' c', e = .returned (.slice A' ts.length c') ∧ ts.length ≤ c' ∧ Rests w' (w.heap.size ≤ ·) (fun V => El V 5 A' (ts.map tecells)) ∧ Below w.heap.size w w' := by
 have hX : Below w.heap.size w (w.alloc (.cells #[] 45)) := Below.of_alloc w (.cells #[] 45)
 have hel := h.alloc (.cells #[] 45)
 obtain ⟨v', w', hrun, ho, hb⟩ := OwnE.apps' (P := Tryz.prog) (c := c) zaK zbz rfl (by decide) (OwnE.made w (Nat.le_refl _) 45 5) hel (fun d hd u hu => by
  obtain ⟨t, -, rfl⟩ := List.mem_map.1 hd
  exact zcr t u hu) (by simp; omega) (by simp [maxLen]; omega) (by simp)
 rw [List.nil_append] at ho
 rw [List.length_map] at hrun
 obtain ⟨A', c', hv, hc, hr⟩ := ho.reads
 rw [List.length_map] at hv hc
 subst hv
 have Hrun := zmZ hrun
 have Hb := zmZ (hX.trans hb)
 have Hr := zmZ hr
 have heq := fun (W : World) => Lib.run_eql_slice_nil (P := Tryz.prog) W 42 45 (some ad) ts.length c 0 0 zaK
 clear h hX hel hrun ho hb hr
 go_enter Tryz.func79, Tryz.ntmps79
 go_wp2_with (at_builtin; refine za1 rfl (.tmp 5) (.tmp 6) 42 _ _ _ rfl rfl rfl Hrun.out ?_)
 go_wp2_with fail
 go_ret
 exact ⟨_, _, rfl, hc, Hr.out, Hb.out⟩
theorem zhB (w : World) (ok : TeV → World → Prop) (A : Option Addr) (c : Nat) (ts : List TeV) (h : LsR 5 tecells ok A ts w) (hl : ts.length ≤ 1000000) : Calls Tryz.prog 79 #[.slice A ts.length c] w fun e w' => ∃ A' c', e = .returned (.slice A' ts.length c') ∧ ts.length ≤ c' ∧ Rests w' (w.heap.size ≤ ·) (fun V => El V 5 A' (ts.map tecells)) ∧ Below w.heap.size w w' := by
 rcases A with _ | ad
 ·have h0 : ts = [] := by
   rcases Nat.eq_zero_or_pos ts.length with h0 | h0
   ·exact List.eq_nil_of_length_eq_zero h0
   ·obtain ⟨_, _, e⟩ := h.sl h0; cases e
  subst h0
  refine (zgC w c).mono ?_
  rintro e w' ⟨rfl, rfl⟩
  exact ⟨none, 0, rfl, Nat.le_refl _, ⟨El.nil_ _ _ _, fun _ _ => El.nil_ _ _ _⟩, Below.refl _ _⟩
 ·exact zgD w ad c ts h.el hl
set_option maxRecDepth 100000 in
theorem zeS (w : World) (t : TeV) (n : Nat) (hn : n ≤ 100000) (h : RatD t.r t.q n w) : Calls Tryz.prog 85 #[tA t] w fun e w' => e = .returned (.bool (t.q.num.sign == 0)) ∧ Below w.heap.size w w' := by
 have HE := zmZ (lyT t ((RatD.old h)))
 have c := Env.c1 HE.out
 clear h
 unfold tA
 go_enter Tryz.func85, Tryz.ntmps85
 go_wp2_with fail
 refine (zdA _ t.r t.q n (by omega) HE.out.o).mono ?_
 rintro e w1 ⟨rfl, hb⟩
 replace HE := zmZ (Env.call HE.out hb)
 clear hb
 go_wp2_with fail
 exact bodyPost_ret (v := .bool (t.q.num.sign == 0)) (by simp [results, Tryz.results85, go_sem]) rfl (⟨rfl, HE.out.bel⟩)

def nzT (t : TeV) : Bool := !(t.q.num.sign == 0)
theorem OwnE.cut {w : World} {B : Nat} {e : TypeId} {sz g n cap : Nat} {cs : List (Array Value)} (h : OwnE w B e sz (.slice (some ⟨g, 0, none⟩) n cap) cs) (i : Nat) (hi : i ≤ cs.length) : OwnE w B e sz (.slice (some ⟨g, 0, none⟩) i cap) (cs.take i) := by
 obtain ⟨hs, hl, ho⟩ := h
 have hs' : ∀ c ∈ cs.take i, c.size = sz := fun c hc => hs c (List.mem_of_mem_take hc)
 refine ⟨hs', ?_, ?_⟩
 ·rw [zaR hs']
 ·rcases ho with ⟨h1, -⟩ | ⟨g', cap', cur, hv, hg, hh, hn, hm, hsz, ht⟩
  ·cases h1
  ·obtain ⟨rfl, rfl, rfl⟩ : g = g' ∧ n = cs.length ∧ cap = cap' := by simpa using hv
   have hlen : (cs.take i).length = i := by simp; omega
   refine .inr ⟨g, cap, cur, by rw [hlen], hg, hh, by omega, hm, hsz, ?_⟩
   rw [hlen]
   have e : zaM cs = zaM (cs.take i) ++ zaM (cs.drop i) := by rw [← zeM, List.take_append_drop]
   have h2 : (cur.toList.take (cs.length * sz)).take (i * sz) = cur.toList.take (i * sz) := by
    rw [List.take_take, Nat.min_eq_left (Nat.mul_le_mul_right _ hi)]
   rw [← h2, ht, e]
   exact List.take_left' (by rw [zaR hs', hlen])
theorem OwnE.behind {w : World} {B : Nat} {e : TypeId} {sz g n cap : Nat} {cs : List (Array Value)} (h : OwnE w B e sz (.slice (some ⟨g, 0, none⟩) n cap) cs) (k : Nat) (hk : n * sz ≤ k) (u : Value) : OwnE (w.setCell ⟨g, k, none⟩ u) B e sz (.slice (some ⟨g, 0, none⟩) n cap) cs := by
 obtain ⟨hs, hl, ho⟩ := h
 refine ⟨hs, hl, ?_⟩
 rcases ho with ⟨h1, -⟩ | ⟨g', cap', cur, hv, hg, hh, hn, hm, hsz, ht⟩
 ·cases h1
 ·obtain ⟨rfl, rfl, rfl⟩ : g = g' ∧ n = cs.length ∧ cap = cap' := by simpa using hv
  refine .inr ⟨g, cap, cur.setIfInBounds k u, rfl, hg, Blk.set_ (show Blk w g e cur from hh) k u, hn, hm, by simpa using hsz, ?_⟩
  rw [Array.toList_setIfInBounds, List.take_set, List.set_eq_of_length_le (by simp; omega)]
  exact ht
theorem OwnE.behinds {B : Nat} {e : TypeId} {sz g n cap : Nat} {cs : List (Array Value)} (vs : List Value) : ∀ (w : World) (k : Nat), n * sz ≤ k → OwnE w B e sz (.slice (some ⟨g, 0, none⟩) n cap) cs → OwnE (w.setCells g k vs) B e sz (.slice (some ⟨g, 0, none⟩) n cap) cs := by
 induction vs with
 | nil => intro w k _ h; exact h
 | cons v r ih => intro w k hk h; exact ih _ _ (by omega) (h.behind k hk v)
theorem zet (g : Nat) (vs : List Value) : ∀ (w : World) (k b : Nat), b ≠ g → (w.setCells g k vs).heap[b]? = w.heap[b]? := by
 induction vs with
 | nil => intro w k b _; rfl
 | cons v r ih => intro w k b hb; exact (ih _ _ b hb).trans (Below.heap_setCell w _ v b hb)
theorem ze5 (g : Nat) (vs : List Value) : ∀ (w : World) (k : Nat), (w.setCells g k vs).heap.size = w.heap.size := by
 induction vs with
 | nil => intro w k; rfl
 | cons v r ih => intro w k; exact (ih _ _).trans (by simp [World.setCell])
theorem zdI {B : Nat} {a : World} {g : Nat} (hg : B ≤ g) (vs : List Value) : ∀ (w : World) (k : Nat), Below B a w → Below B a (w.setCells g k vs) := by
 induction vs with
 | nil => intro w k h; exact h
 | cons v r ih => intro w k h; exact ih _ _ (h.setCell hg v)
theorem zgm (w : World) {B g n cap i : Nat} {cs : List (Array Value)} (h : OwnE w B 45 5 (.slice (some ⟨g, 0, none⟩) n cap) cs) (hi : i < n) :
 ∃ vs, ∀ ty, (Builtin.clear_ #[43] ty #[.slice (some ⟨g, i * 5, none⟩) (n - i) (cap - i)]).run Tryz.prog w = .ok (.tuple #[]) (w.setCells g (i * 5) vs) := by
 obtain ⟨-, hl, h1 | ⟨g', cap', cur, hv, hg, hh, hn, hm, hsz, ht⟩⟩ := h
 ·cases h1.1
 ·obtain ⟨rfl, rfl, rfl⟩ : g = g' ∧ n = cs.length ∧ cap = cap' := by simpa using hv
  have hb : Blk w g 45 cur := hh
  have hzv : ∀ w, (zeroValue 45).run Tryz.prog w = .ok zcj w := fun w => by kernel_rfl
  have hzs : ∀ v ∈ (Builtin.zeroCells zcj.cells (cs.length - i)).toList, v.oneCell' = true := by
   intro v hv
   simp only [Builtin.zeroCells, Array.toList_map, List.mem_map] at hv
   obtain ⟨k, -, rfl⟩ := hv
   have hk : k % zcj.cells.size < 5 := Nat.mod_lt _ (by decide)
   generalize k % zcj.cells.size = m at *
   match m, hk with
   | 0, _ => rfl
   | 1, _ => rfl
   | 2, _ => rfl
   | 3, _ => rfl
   | 4, _ => rfl
  have hzl : (Builtin.zeroCells zcj.cells (cs.length - i)).toList.length = (cs.length - i) * 5 := by simp [Builtin.zeroCells]; rfl
  have hst := run_storeCells_cells (P := Tryz.prog) g (i * 5) (Builtin.zeroCells zcj.cells (cs.length - i)).toList 0 w (fun j hj => by
   rw [hb.cell, Array.getElem?_eq_getElem (by rw [hzl] at hj; omega)]; rfl) (fun j hj => hb.frozen _) hzs
  rw [Nat.add_zero] at hst
  obtain ⟨m, hm'⟩ : ∃ m, cs.length - i = m + 1 := ⟨cs.length - i - 1, by omega⟩
  refine ⟨(Builtin.zeroCells zcj.cells (cs.length - i)).toList, fun ty => ?_⟩
  rw [hm'] at hst ⊢
  simp [Builtin.clear_, run_underlying zeF, hzv, hst]
set_option maxRecDepth 100000 in
theorem zhZ (w : World) (n : Nat) (hn : n ≤ 100000) (A : Option Addr) (c : Nat) (ts : List TeV) (h : LsR 5 tecells (teD n) A ts w) (hl : ts.length ≤ 1000000) :
 Calls Tryz.prog 130 #[.slice A ts.length c, .func (.func 85) #[] #[]] w fun e w' => (∃ z : Int, e = .returned (.int .i64 z) ∧ ((z = -1 ∧ ∀ t ∈ ts, nzT t = true) ∨ ∃ i : Nat, ∃ hi : i < ts.length, z = i ∧ nzT ts[i] = false ∧ ∀ t ∈ ts.take i, nzT t = true)) ∧ Below w.heap.size w w' := by
 have sl1 := h.sl
 have hsz1 := zbW
 have hadd := za3
 have HE := zmZ (Env.start (h.old zb2))
 clear h
 go_enter Tryz.func130, Tryz.ntmps130
 go_wp2_with fail
 go_loopw [8] (fun jv wr => ∃ j : Nat, jv = .int .i64 (j : Int) ∧ j ≤ ts.length ∧ Hid (∀ t ∈ ts.take j, nzT t = true) ∧ Hid (Env w [] (fun V => LsR 5 tecells (teD n) A ts V) (fun _ => True) wr)) (fun jv _ => ts.length - (intOf jv).toNat)
 case atStart => exact ⟨0, rfl, Nat.zero_le _, zmZ (by simp), HE⟩
 case round =>
  clear HE
  obtain ⟨j, rfl, hj, HN, HE⟩ := hrel
  by_cases hlt : j < ts.length
  ·have c := HE.out.o.tc j hlt
   have hD := HE.out.o.ok _ (List.getElem_mem hlt)
   have Hj := zmZ (rfl : ts[j] = ts[j])
   obtain ⟨t, ht⟩ : ∃ t, t = ts[j] := ⟨_, rfl⟩
   rw [← ht] at c hD
   have Ht := zmZ ht
   clear ht Hj
   go_wp2_with fail
   refine (zeS _ t n hn hD).mono ?_
   rintro e w1 ⟨rfl, hb⟩
   replace HE := zmZ (Env.call HE.out hb)
   clear hb c hD
   obtain ⟨B, hB⟩ : ∃ B, (t.q.num.sign == 0) = B := ⟨_, rfl⟩
   have HB := zmZ hB
   rw [hB]
   clear hB
   cases B
   ·go_wp2_with fail
    go_roundw
    case rel => exact ⟨j + 1, by go_num, by omega, zmZ (fun u hu => by
     rw [List.take_succ_eq_append_getElem hlt] at hu
     rcases List.mem_append.1 hu with hu | hu
     ·exact HN.out u hu
     ·rw [List.mem_singleton.1 hu, ← Ht.out]; unfold nzT; rw [HB.out]; rfl), HE⟩
    case measure => (simp [intOf] <;> omega)
   ·go_wp2_with fail
    go_ret
    exact ⟨⟨_, rfl, .inr ⟨j, hlt, rfl, by rw [← Ht.out]; unfold nzT; rw [HB.out]; rfl, HN.out⟩⟩, HE.out.bel⟩
  ·obtain rfl : j = ts.length := by omega
   go_wp2_with fail
   go_ret
   exact ⟨⟨_, rfl, .inl ⟨rfl, fun t ht => HN.out t (by rw [List.take_length]; exact ht)⟩⟩, HE.out.bel⟩
theorem OwnE.zero {w : World} {B : Nat} {e : TypeId} {sz n cap : Nat} {A : Option Addr} {cs : List (Array Value)} (h : OwnE w B e sz (.slice A n cap) cs) (hn : 0 < n) : (∃ g, A = some ⟨g, 0, none⟩) ∧ n ≤ cap := by
 obtain ⟨-, -, h1 | ⟨g', cap', cur, hv, hg, hh, hn, -⟩⟩ := h
 ·have : n = 0 := by simpa using (by simpa using h1.1 : A = none ∧ n = 0 ∧ cap = 0).2.1
  omega
 ·obtain ⟨rfl, rfl, rfl⟩ : A = some ⟨g', 0, none⟩ ∧ n = cs.length ∧ cap = cap' := by simpa using hv
  exact ⟨⟨_, rfl⟩, hn⟩
def DI (ps : List TeV) (cs : List (Array Value)) (i j : Nat) : Prop := ∃ J, cs = ((ps.take j).filter nzT).map tecells ++ J ++ (ps.drop j).map tecells ∧ ((ps.take j).filter nzT).length = i ∧ i + J.length = j ∧ 0 < J.length
theorem DI.len {ps : List TeV} {cs : List (Array Value)} {i j : Nat} (h : DI ps cs i j) (hj : j ≤ ps.length) : cs.length = ps.length := by
 obtain ⟨J, rfl, h1, h2, -⟩ := h
 simp [h1]; omega
theorem DI.start {ps : List TeV} {i : Nat} (hi : i < ps.length) (h0 : nzT ps[i] = false) (h1 : ∀ t ∈ ps.take i, nzT t = true) : DI ps (ps.map tecells) i (i + 1) := by
 have e : (ps.take (i + 1)).filter nzT = ps.take i := by
  rw [List.take_succ_eq_append_getElem hi, List.filter_append, List.filter_eq_self.2 h1]
  simp [h0]
 refine ⟨[tecells ps[i]], ?_, ?_, by simp, by simp⟩
 ·rw [e]
  conv => lhs; rw [← List.take_append_drop i ps, List.map_append, List.drop_eq_getElem_cons hi, List.map_cons]
  rw [List.append_assoc]
  rfl
 ·rw [e]; simp; omega
theorem DI.at_ {ps : List TeV} {cs : List (Array Value)} {i j : Nat} (h : DI ps cs i j) (hj : j < ps.length) : cs[j]? = some (tecells ps[j]) := by
 obtain ⟨J, rfl, h1, h2, -⟩ := h
 rw [List.getElem?_append_right (by simp [h1]; omega)]
 simp only [List.length_append, List.length_map, h1, h2, Nat.sub_self]
 rw [List.drop_eq_getElem_cons hj, List.map_cons]
 rfl
theorem DI.zero {ps : List TeV} {cs : List (Array Value)} {i j : Nat} (h : DI ps cs i j) (hj : j < ps.length) (h0 : nzT ps[j] = false) : DI ps cs i (j + 1) := by
 obtain ⟨J, rfl, h1, h2, h3⟩ := h
 have e : (ps.take (j + 1)).filter nzT = (ps.take j).filter nzT := by
  rw [List.take_succ_eq_append_getElem hj, List.filter_append]
  simp [h0]
 refine ⟨J ++ [tecells ps[j]], ?_, by rw [e]; exact h1, by simp; omega, by simp⟩
 rw [e, List.drop_eq_getElem_cons hj, List.map_cons]
 simp only [List.append_assoc, List.cons_append, List.nil_append]
theorem DI.keep {ps : List TeV} {cs : List (Array Value)} {i j : Nat} (h : DI ps cs i j) (hj : j < ps.length) (h0 : nzT ps[j] = true) : DI ps (cs.set i (tecells ps[j])) (i + 1) (j + 1) := by
 obtain ⟨J, rfl, h1, h2, h3⟩ := h
 obtain ⟨x, J', rfl⟩ := List.exists_cons_of_ne_nil (List.ne_nil_of_length_pos h3)
 have e : (ps.take (j + 1)).filter nzT = (ps.take j).filter nzT ++ [ps[j]] := by
  rw [List.take_succ_eq_append_getElem hj, List.filter_append]
  simp [h0]
 simp only [List.length_cons] at h2
 refine ⟨J' ++ [tecells ps[j]], ?_, by rw [e]; simp [h1], by simp; omega, by simp⟩
 rw [e, List.append_assoc, List.set_append_right _ _ (by simp [h1]), List.length_map, h1, Nat.sub_self, List.drop_eq_getElem_cons hj, List.map_cons, List.map_append]
 simp only [List.append_assoc, List.cons_append, List.nil_append, List.set_cons_zero, List.map_cons, List.map_nil]
theorem DI.end_ {ps : List TeV} {cs : List (Array Value)} {i j : Nat} (h : DI ps cs i j) (hj : j = ps.length) : (ps.filter nzT).length = i ∧ cs.take i = (ps.filter nzT).map tecells := by
 subst hj
 obtain ⟨J, rfl, h1, h2, h3⟩ := h
 rw [List.take_length] at h1 ⊢
 refine ⟨h1, ?_⟩
 rw [List.append_assoc]
 exact List.take_left' (by simp [h1])
theorem arr5 (x : Array Value) (h : x.size = 5) : ∃ a b c d e, x = #[a, b, c, d, e] := by
 obtain ⟨l⟩ := x
 match l, h with
 | [a, b, c, d, e], _ => exact ⟨a, b, c, d, e, rfl⟩
set_option maxRecDepth 100000 in
theorem zgj (w0 w : World) (v : Value) (ps : List TeV) (n : Nat) (hn : n ≤ 100000) (old new : World → Prop) (h : GL w0 [⟨45, 5, v, ps.map tecells⟩] old new w) (hok : ∀ V, new V → ∀ p ∈ ps, teD n p V) (hl : ps.length ≤ 1000000) :
 Calls Tryz.prog 84 #[v, .func (.func 85) #[] #[]] w fun e w' => (∃ A c, e = .returned (.slice A (ps.filter nzT).length c) ∧ (ps.filter nzT).length ≤ c ∧ Rests w' (w0.heap.size ≤ ·) (fun V => El V 5 A ((ps.filter nzT).map tecells) ∧ new V)) ∧ Below w0.heap.size w0 w' := by
 obtain ⟨A, c, hv, hpc, -, hel, -⟩ := (h.own _ (List.mem_cons_self ..)).form
 rw [List.length_map] at hv hpc
 have hv' : v = .slice A ps.length c := hv
 subst hv'
 have HG := zmZ h
 have HO := zmZ hok
 have hx := zmZ (show LsR 5 tecells (teD n) A ps w from ⟨hel, hok _ h.n⟩)
 clear h hok hel hv
 have hsz1 := zbW
 have hadd := za3
 go_enter Tryz.func84, Tryz.ntmps84
 go_wp2_with fail
 refine (zhZ _ n hn A c ps hx.out hl).mono ?_
 rintro e w1 ⟨⟨z, rfl, hz⟩, hb⟩
 replace HG := zmZ ((HG.out.keep (Rests.pure trivial _ _) hb).imp (fun _ h => h) (fun _ h => h.2))
 clear hb hx
 rcases hz with ⟨rfl, hz⟩ | ⟨i, hi, rfl, h0, hz⟩
 ·have e := List.filter_eq_self.2 hz
  have Hz := zmZ e
  clear hz e
  go_wp2_with fail
  go_ret
  obtain ⟨A', c', hv, hc, hr⟩ := (HG.out.own _ (List.mem_cons_self ..)).reads
  obtain ⟨rfl, -, rfl⟩ : A = A' ∧ ps.length = (ps.map tecells).length ∧ c = c' := by simpa using hv
  rw [Hz.out]
  exact ⟨⟨_, _, rfl, hpc, hr.and (HG.out.rsn.mono fun _ h => h.1)⟩, HG.out.bel⟩
 ·have hpp : 0 < ps.length := by omega
  obtain ⟨⟨g, hA⟩, -⟩ := (show OwnE w1 w0.heap.size 45 5 (.slice A ps.length c) (ps.map tecells) from HG.out.own _ (List.mem_cons_self ..)).zero hpp
  have HA := zmZ hA
  have sl1 : Sl A ps.length := by rw [hA]; exact Sl.some_ _ _ _
  clear hA
  have HD := zmZ (DI.start hi h0 hz)
  have hi1 : ¬ ((i : Int) = -1) := by omega
  have hi2 : ((i : Int) == -1) = false := by simp
  clear h0 hz
  go_wp2_with fail
  go_loopw [5, 6] (fun iv jv wr => ∃ (i j : Nat) (cs : List (Array Value)), iv = .int .i64 (i : Int) ∧ jv = .int .i64 (j : Int) ∧ j ≤ ps.length ∧ i < j ∧ Hid (DI ps cs i j) ∧ Hid (GL w0 [⟨45, 5, .slice A ps.length c, cs⟩] old new wr)) (fun _ jv _ => ps.length - (intOf jv).toNat)
  case atStart => exact ⟨i, i + 1, _, rfl, by go_num, by omega, by omega, HD, HG⟩
  case round =>
   clear HD HG
   obtain ⟨i, j, cs, rfl, rfl, hj, hij, HD, HG⟩ := hrel
   have hcl := HD.out.len hj
   have HOw := zmZ (show OwnE wr w0.heap.size 45 5 (.slice A ps.length c) cs from HG.out.own _ (List.mem_cons_self ..))
   by_cases hlt : j < ps.length
   ·have HE := zmZ HG.out.env
    obtain ⟨t, ht⟩ : ∃ t, t = ps[j] := ⟨_, rfl⟩
    have Hm := zmZ (show t ∈ ps by rw [ht]; exact List.getElem_mem hlt)
    have hcj := HD.out.at_ hlt
    rw [← ht] at hcj
    have c0 : TC A j t wr := by
     have hcc := HOw.out.el.1.cell j (by omega)
     have e : cs[j]'(by omega) = tecells t := by
      rw [List.getElem?_eq_getElem (by omega)] at hcj
      injection hcj
     rw [e] at hcc
     exact ⟨hcc 0 (by decide), hcc 1 (by decide), hcc 2 (by decide), hcc 3 (by decide), hcc 4 (by decide)⟩
    have Ht := zmZ ht
    clear hcj ht
    go_upto_region 8 with fail
    obtain ⟨W2, gt, hW2, hgt, HE⟩ := Env.al HE.out 45 #[.int .i64 t.pl, .bool t.r.num.neg, .slice t.r.num.A t.r.num.k t.r.num.c, .bool t.r.den.neg, .slice t.r.den.A t.r.den.k t.r.den.c]
    rw [hW2, hgt]
    clear hW2 hgt c0
    have c1 := Env.c1 HE.out
    go_wp2_with fail
    refine (zeS _ t n hn (HO.out _ HE.out.o.2 t Hm.out)).mono ?_
    rintro e w3 ⟨rfl, hb⟩
    replace HE := zmZ (Env.call HE.out hb)
    replace c1 := Env.c1 HE.out
    clear hb
    obtain ⟨B, hB⟩ : ∃ B, (t.q.num.sign == 0) = B := ⟨_, rfl⟩
    have HB := zmZ hB
    rw [hB]
    clear hB
    cases B
    ·have HOx := zmZ (HOw.out.below HE.out.bel)
     have hic : i < cs.length := by omega
     obtain ⟨x0, x1, x2, x3, x4, hx⟩ := arr5 cs[i] (HOx.out.1 _ (List.getElem_mem hic))
     have c2 : W2.heap.size = W2.heap.size := rfl
     have c5 : w3.cell? (adr A (i * 5)) = some x0 ∧ w3.cell? (adr A (i * 5 + 1)) = some x1 ∧ w3.cell? (adr A (i * 5 + 2)) = some x2 ∧ w3.cell? (adr A (i * 5 + 3)) = some x3 ∧ w3.cell? (adr A (i * 5 + 4)) = some x4 := by
      have hcc := HOx.out.el.1.cell i hic
      rw [hx] at hcc
      exact ⟨hcc 0 (by decide), hcc 1 (by decide), hcc 2 (by decide), hcc 3 (by decide), hcc 4 (by decide)⟩
     have f5 := fun k => HOx.out.free HA.out k
     have hil : i < ps.length := by omega
     have HGp := zmZ (GL.put5 HA.out HG.out HE.out i hic (.int .i64 t.pl) (.bool t.r.num.neg) (.slice t.r.num.A t.r.num.k t.r.num.c) (.bool t.r.den.neg) (.slice t.r.den.A t.r.den.k t.r.den.c))
     clear c2 hx
     have hA := HA.out
     subst hA
     have hGp := HGp.out
     simp only [za4, Nat.zero_add] at c5 f5 hGp
     replace HGp := zmZ hGp
     have hadr : ∀ j, adr (some ⟨g, 0, none⟩) j = ⟨g, j, none⟩ := fun j => by rw [za4, Nat.zero_add]
     clear hGp hadd
     go_upto_region 10 with fail
     revert HGp
     generalize (World.setCell (World.setCell (World.setCell (World.setCell (World.setCell w3 _ _) _ _) _ _) _ _) _ _) = W5
     intro HGp
     clear c5 f5 c1
     go_wp2_with fail
     go_roundw
     case rel => exact ⟨i + 1, j + 1, _, by go_num, by go_num, by omega, by omega, zmZ (by have h := HD.out.keep hlt (by rw [← Ht.out]; unfold nzT; rw [HB.out]; rfl); rw [← Ht.out] at h; exact h), zmZ (HGp.out.imp (fun _ h => h) (fun _ h => h.2))⟩
     case measure => (simp [intOf] <;> omega)
    ·go_wp2_with fail
     go_roundw
     case rel => exact ⟨i, j + 1, cs, rfl, by go_num, by omega, by omega, zmZ (HD.out.zero hlt (by rw [← Ht.out]; unfold nzT; rw [HB.out]; rfl)), zmZ ((HG.out.keep (Rests.pure trivial _ _) HE.out.bel).imp (fun _ h => h) (fun _ h => h.2))⟩
     case measure => (simp [intOf] <;> omega)
   ·obtain rfl : j = ps.length := by omega
    have hil : i < ps.length := by omega
    have hil2 : (i : Int) ≤ (ps.length : Int) := by omega
    have hpc2 : (ps.length : Int) ≤ (c : Int) := by omega
    have hA := HA.out
    subst hA
    obtain ⟨vs, hclr⟩ := zgm wr HOw.out hil
    have hcut := (HOw.out.cut i (by omega)).behinds vs wr (i * 5) (Nat.le_refl _)
    obtain ⟨hfl, htk⟩ := HD.out.end_ rfl
    rw [htk] at hcut
    have hgo := GL.go (o' := ⟨45, 5, .slice (some ⟨g, 0, none⟩) i c, (ps.filter nzT).map tecells⟩) HG.out (Rests.pure trivial wr (wr.heap.size ≤ ·)) (Below.refl _ wr) hcut
     (zdI (by have := HOw.out.lt g rfl; omega) vs _ _ (Below.refl _ _)) (fun k _ hk => zet g vs _ _ k (fun e => hk (by rw [e]; rfl))) (by rw [ze5]; exact Nat.le_refl _) (.inl rfl)
    have HGo := zmZ hgo
    have Hfl := zmZ hfl
    clear hcut htk hgo hfl
    have hic2 : (0 : Int) ≤ (i : Int) := by omega
    have hic3 : (i : Int) ≤ (c : Int) := by omega
    go_wp2_with fail
    go_ret
    obtain ⟨A', c', hv, hc, hr⟩ := (HGo.out.own _ (List.mem_cons_self ..)).reads
    rw [List.length_map, Hfl.out] at hv hc
    obtain ⟨rfl, rfl⟩ : some ⟨g, 0, none⟩ = A' ∧ c = c' := by simpa using hv
    rw [Hfl.out]
    exact ⟨⟨_, _, rfl, hc, hr.and (HGo.out.rsn.mono fun _ h => h.1) |>.imp fun _ h => ⟨h.1, h.2.2⟩⟩, HGo.out.bel⟩

theorem zbw {P : Program} {w w' : World} {ops : Array Oper} {o : Oper} {a : Act} {K : Act → World → Prop} {Q : Exit → Act → World → Prop} {E : Prop} (hgd : o.guard = none) (s x : Operand) (t : TypeId) (v y v' : Value)
 (ho : o.op = .call { callee := .builtin .append, args := #[s, x], argTypes := #[t, t] }) (hs : a.eval s = v) (hx : a.eval x = y)
 (hrun : (Builtin.append_ #[t, t] o.type #[v, y]).run P w = .ok v' w')
 (h : K (a.put o.dst v') w') : if Region.wanted o (yielded ops a.tmps) = true then Oper.wp P o a w K Q else E := by
 have hw : Region.wanted o (yielded ops a.tmps) = true := by simp [Region.wanted, hgd]
 rw [if_pos hw]
 unfold Oper.wp execOp
 simp only [ho, resolve, invoke, builtin, Sem.run_bind, Sem.run_pure, Result.andThen_ok, List.map_toArray, List.map_cons, List.map_nil, hs, hx, hrun]
 exact h
theorem Env.drewN {w W : World} {bs : List Bo} {old new : World → Prop} (h : Env w bs old new W) (n : Nat) : Env w bs old new (W.drewN n) := h.call (Below.drewN (Below.refl _ W) n)
theorem Env.read {w W : World} {b : Bo} {bs : List Bo} {old new : World → Prop} (h : Env w (b :: bs) old new W) : Env w bs old (fun V => Blk V b.g b.t b.cs ∧ new V) W := by
 have h0 := h.bx b (List.mem_cons_self ..)
 have hne := (List.pairwise_cons.1 h.nd).1
 refine ⟨fun x hx => h.bx x (List.mem_cons_of_mem _ hx), h.rso.mono fun n hn x hx => hn x (List.mem_cons_of_mem _ hx), Rests.and ⟨h0, fun _ hw => (hw b.g ⟨h.own b (List.mem_cons_self ..), fun x hx e => hne x hx e.symm⟩ h0.lt).trans h0⟩ (h.rsn.mono fun n hn => ⟨hn.1, fun x hx => hn.2 x (List.mem_cons_of_mem _ hx)⟩), h.bel, fun x hx => h.own x (List.mem_cons_of_mem _ hx), (List.pairwise_cons.1 h.nd).2⟩
def plq (t : TeV) : Int × Rat := (t.pl, t.q)
def RetVec (us : List (Int × Rat)) (w : World) (e : Ending) (w' : World) : Prop :=
 ∃ A c ts, e = .returned (.slice A (List.length ts) c) ∧ ts.length ≤ c ∧ ts.map plq = us ∧ Rests w' (w.heap.size ≤ ·) (LsR 5 tecells teN A ts) ∧ Below w.heap.size w w'
def nzP (p : Int × Rat) : Bool := !(p.2.num.sign == 0)
theorem zdL (l : List TeV) : (l.filter nzT).map plq = (l.map plq).filter nzP := by
 induction l with
 | nil => rfl
 | cons t l ih =>
  have e : nzP (plq t) = nzT t := rfl
  by_cases h : nzT t = true
  ·simp [e, h, ih]
  ·simp [e, h, ih]
theorem GL.appT {w W W' : World} {ls : List Ow} {bs : List Bo} {old new old' new' : World → Prop} {t : TypeId} (ht : Tryz.prog.underlying t = some (.slice 45)) {A : Option Addr} {c : Nat} {os : List TeV} (h : GL w (⟨45, 5, .slice A os.length c, os.map tecells⟩ :: ls) old new W) (he : Env W bs old' new' W') (x : TeV) (hl : os.length ≤ 1000000) :
 ∃ A' c' w', (Builtin.append_ #[t, t] t #[.slice A os.length c, .slice (some ⟨W'.heap.size, 0, none⟩) 1 1]).run Tryz.prog (W'.alloc (.cells (tecells x) 45)) = .ok (.slice A' (os ++ [x]).length c') w' ∧ GL w (⟨45, 5, .slice A' (os ++ [x]).length c', (os ++ [x]).map tecells⟩ :: ls) old (fun V => new' V ∧ new V) w' := by
 obtain ⟨v', w', hrun, hG⟩ := GL.app (P := Tryz.prog) ht zbz rfl (by decide) h he (tecells x) rfl (zcr x) (by simp; omega) (by simp [maxLen]; omega)
 obtain ⟨A', c', hv, -⟩ := (hG.own _ (List.mem_cons_self ..)).form
 have hv' : v' = .slice A' (os ++ [x]).length c' := by rw [show v' = _ from hv]; simp
 subst hv'
 refine ⟨A', c', w', hrun, ?_⟩
 have e : (os ++ [x]).map tecells = os.map tecells ++ [tecells x] := by simp
 rw [e]; exact hG
end Go.Proofs.YtikmgoefjbhcjaaGreatDoor
