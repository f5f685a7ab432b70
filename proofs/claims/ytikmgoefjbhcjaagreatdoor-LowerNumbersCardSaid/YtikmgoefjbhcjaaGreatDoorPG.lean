/-
 Lists of the call's own at any place among others, and boxes among them.
-/
import Derived.Test.YtikmgoefjbhcjaaGreatDoorPA
import Derived.Test.YtikmgoefjbhcjaaGreatDoorKJ
namespace Go.Proofs.YtikmgoefjbhcjaaGreatDoor
open Go.RowKit

theorem zce : Tryz.prog.underlying 32 = some (.slice 43) := by kernel_rfl
theorem zd6 : (Tryz.prog.info? 43).map (fun i => (i.zero, i.size, i.bytes)) = some (some (.slice none 0 0), 1, 24) := by kernel_rfl
theorem zpz {P : Program} {a : Act} {w w' : World} {K : Act → World → Prop} {Q : Exit → Act → World → Prop} {o : Oper} (l c : Operand) (t : TypeId) (hop : o.op = Op.makeSlice t l c) {vl vc v : Value} (hl : a.eval l = vl) (hc : a.eval c = vc) (hrun : (Instr.makeSlice t vl vc).run P w = .ok v w') (h : K (a.put o.dst v) w') : Oper.wp P o a w K Q := by
 subst hl; subst hc
 unfold Oper.wp
 simp [execOp, hop, hrun, Result.andThen]
 exact h
theorem zgH {z : Array Value} {sz : Nat} (hz : z.size = sz) (hsz : 0 < sz) (n : Nat) : madeCells z (n * sz) = (zaM (List.replicate n z)).toArray := by
 have hs : ∀ c ∈ List.replicate n z, c.size = sz := fun c hc => by rw [List.eq_of_mem_replicate hc]; exact hz
 have hl := zaR hs
 rw [List.length_replicate] at hl
 apply Array.toList_inj.1
 apply List.ext_getElem?
 intro k
 by_cases hk : k < n * sz
 ·obtain ⟨a, b, rfl, hb⟩ : ∃ a b, k = a * sz + b ∧ b < sz := ⟨k / sz, k % sz, by rw [Nat.mul_comm, Nat.div_add_mod], Nat.mod_lt _ hsz⟩
  have ha : a < n := by
   rcases Nat.lt_or_ge a n with h | h
   ·exact h
   ·have := Nat.mul_le_mul_right sz h; omega
  rw [zbn hs a b (by simpa using ha) hb, List.getElem_replicate]
  have e : (madeCells z (n * sz)).toList[a * sz + b]? = some (z[(a * sz + b) % z.size]!) := by
   simp [madeCells, hk]
  have e2 : (a * sz + b) % z.size = b := by
   rw [hz, Nat.add_comm, Nat.add_mul_mod_self_right, Nat.mod_eq_of_lt hb]
  rw [e, e2]
  simp [hz, hb]
 ·rw [List.getElem?_eq_none (by rw [Array.length_toList, size_madeCells]; omega), List.getElem?_eq_none (by rw [List.toList_toArray, hl]; omega)]
theorem OwnE.of_blk {W : World} {B : Nat} {e : TypeId} {sz g : Nat} {cs : List (Array Value)} (hB : B ≤ g) (hs : ∀ c ∈ cs, c.size = sz) (hl : cs.length ≤ maxLen) (hb : Blk W g e (zaM cs).toArray) : OwnE W B e sz (.slice (some ⟨g, 0, none⟩) cs.length cs.length) cs := by
 have h1 := zaR hs
 exact ⟨hs, by rw [h1], .inr ⟨g, cs.length, (zaM cs).toArray, rfl, hB, hb, Nat.le_refl _, hl, by rw [List.size_toArray, h1], by rw [List.toList_toArray, List.take_of_length_le (Nat.le_of_eq h1)]⟩⟩
section
variable {w W W' : World} {ls : List Ow} {bs : List Bo} {old new φ ψ : World → Prop}
theorem zim {α : Type} {l : List α} {k : Nat} (hk : k < l.length) : (l[k] :: l.eraseIdx k).Perm l := by
 conv => rhs; rw [← List.take_append_drop k l, List.drop_eq_getElem_cons hk]
 rw [List.eraseIdx_eq_take_drop_succ]
 exact List.perm_middle.symm
theorem GL.goAt {k : Nat} {o o' : Ow} {X : World} (h : GL w ls old new W) (hk : ls[k]? = some o) (he : Rests X (fun n => W.heap.size ≤ n) ψ) (hX : Below W.heap.size W X) (ho : OwnE W' w.heap.size o'.e o'.sz o'.v o'.cs) (hb : Below w.heap.size X W')
 (hkk : ∀ b, b < X.heap.size → o.v.ownBlock ≠ some b → W'.heap[b]? = X.heap[b]?) (hs : X.heap.size ≤ W'.heap.size) (hor : o'.v.ownBlock = o.v.ownBlock ∨ ∃ b, o'.v.ownBlock = some b ∧ X.heap.size ≤ b) :
 GL w (ls.set k o') old (fun V => ψ V ∧ new V) W' := by
 obtain ⟨hk', rfl⟩ := List.getElem?_eq_some_iff.1 hk
 have p1 : (ls[k] :: ls.eraseIdx k).Perm ls := zim hk'
 have p2 : (ls.set k o').Perm (o' :: ls.eraseIdx k) := by
  have := (zim (l := ls.set k o') (k := k) (by simpa using hk')).symm
  rwa [List.getElem_set_self, List.eraseIdx_set_eq] at this
 exact ((h.perm p1).go he hX ho hb hkk hs hor).perm p2
theorem GL.call (h : GL w ls old new W) (hk : Rests W' (fun n => W.heap.size ≤ n) ψ) (hb : Below W.heap.size W W') : GL w ls old (fun V => ψ V ∧ new V) W' := h.keep hk hb
theorem GL.drew (h : GL w ls old new W) : GL w ls old new W.drew := ⟨fun o ho => (h.own o ho).drew, h.nd, h.rso.drew, h.rsn.drew, h.bel.drew⟩
theorem GL.box (h : GL w ls old new W) (t : TypeId) (cs : Array Value) : GL w ls old (fun V => Blk V W.heap.size t cs ∧ new V) (W.alloc (.cells cs t)) :=
 h.keep ⟨Blk.new W t cs, fun w' hw => (hw W.heap.size (Nat.le_refl _) (by simp)).trans (Blk.new W t cs)⟩ ((Below.refl _ W).alloc (Nat.le_refl _) _)
theorem GL.setg {k i j : Nat} {e : TypeId} {sz g n cap : Nat} {cs : List (Array Value)} (h : GL w ls old new W) (hk : ls[k]? = some ⟨e, sz, .slice (some ⟨g, 0, none⟩) n cap, cs⟩) (hi : i < cs.length) (hj : j < sz) (u : Value) :
 GL w (ls.set k ⟨e, sz, .slice (some ⟨g, 0, none⟩) n cap, cs.set i ((cs[i]).setIfInBounds j u)⟩) old new (W.setCell ⟨g, i * sz + j, none⟩ u) := by
 have ho : OwnE W w.heap.size e sz (.slice (some ⟨g, 0, none⟩) n cap) cs := h.own _ (List.mem_of_getElem? hk)
 have hg := ho.lt g rfl
 refine (GL.goAt (ψ := fun _ => True) h hk (.pure trivial _ _) (Below.refl _ _) (o' := ⟨e, sz, .slice (some ⟨g, 0, none⟩) n cap, cs.set i ((cs[i]).setIfInBounds j u)⟩) (ho.set1 i j hi hj u) ((Below.refl _ W).setCell (show w.heap.size ≤ (⟨g, i * sz + j, none⟩ : Addr).block from hg.1) u) (fun b _ hne => ?_) ?_ (.inl rfl)).imp (fun _ h => h) fun _ h => h.2
 ·exact Below.heap_setCell W _ u b fun e' => hne (by rw [e']; rfl)
 ·simp [World.setCell]
theorem zaQ {α : Type} (l : List α) (k : Nat) (a b : α) (h : l[k]? = some a) : (l.set k b)[k]? = some b := by
 obtain ⟨h1, -⟩ := List.getElem?_eq_some_iff.1 h
 rw [List.getElem?_set_self h1]
theorem GL.set1 {k i : Nat} {e : TypeId} {g n cap : Nat} {A : Option Addr} (hA : A = some ⟨g, 0, none⟩) {cs : List (Array Value)} (h : GL w ls old new W) (hk : ls[k]? = some ⟨e, 1, .slice A n cap, cs⟩) (hi : i < cs.length) (u : Value) :
 GL w (ls.set k ⟨e, 1, .slice A n cap, cs.set i #[u]⟩) old new (W.setCell (adr A i) u) := by
 subst hA
 obtain ⟨x, hx⟩ : ∃ x, x = cs[i] := ⟨_, rfl⟩
 have hxs : x.size = 1 := by rw [hx]; exact (h.own _ (List.mem_of_getElem? hk)).1 _ (List.getElem_mem hi)
 have h0 := h.setg hk hi (j := 0) (by decide) u
 rw [← hx, show x.setIfInBounds 0 u = #[u] from by
  obtain ⟨l⟩ := x
  match l, hxs with
  | [_], _ => rfl] at h0
 rw [za4, Nat.zero_add]
 simpa using h0
theorem zjy (x : Array Value) (hx : x.size = 4) (a b c d : Value) : (((x.setIfInBounds 0 a).setIfInBounds 1 b).setIfInBounds 2 c).setIfInBounds 3 d = #[a, b, c, d] := by
 obtain ⟨l⟩ := x
 match l, hx with
 | [_, _, _, _], _ => rfl
theorem GL.set4 {k i : Nat} {e : TypeId} {g n cap : Nat} {A : Option Addr} (hA : A = some ⟨g, 0, none⟩) {cs : List (Array Value)} (h : GL w ls old new W) (hk : ls[k]? = some ⟨e, 4, .slice A n cap, cs⟩) (hi : i < cs.length) (a b c d : Value) :
 GL w (ls.set k ⟨e, 4, .slice A n cap, cs.set i #[a, b, c, d]⟩) old new ((((W.setCell (adr A (i * 4)) a).setCell (adr A (i * 4 + 1)) b).setCell (adr A (i * 4 + 2)) c).setCell (adr A (i * 4 + 3)) d) := by
 subst hA
 have e0 : ∀ k, adr (some ⟨g, 0, none⟩) k = ⟨g, k, none⟩ := fun k => by rw [za4, Nat.zero_add]
 simp only [e0]
 obtain ⟨x, hx⟩ : ∃ x, x = cs[i] := ⟨_, rfl⟩
 have hxs : x.size = 4 := by rw [hx]; exact (h.own _ (List.mem_of_getElem? hk)).1 _ (List.getElem_mem hi)
 have h0 := h.setg hk hi (j := 0) (by decide) a
 have h1 := h0.setg (zaQ _ _ _ _ hk) (i := i) (by simpa using hi) (j := 1) (by decide) b
 have h2 := h1.setg (zaQ _ _ _ _ (zaQ _ _ _ _ hk)) (i := i) (by simpa using hi) (j := 2) (by decide) c
 have h3 := h2.setg (zaQ _ _ _ _ (zaQ _ _ _ _ (zaQ _ _ _ _ hk))) (i := i) (by simpa using hi) (j := 3) (by decide) d
 simp only [List.getElem_set_self, List.set_set, ← hx] at h3
 rw [zjy x hxs] at h3
 exact h3
theorem GL.cell {k i j : Nat} {e : TypeId} {sz n cap : Nat} {A : Option Addr} {cs : List (Array Value)} (h : GL w ls old new W) (hk : ls[k]? = some ⟨e, sz, .slice A n cap, cs⟩) (hi : i < cs.length) (hj : j < sz) : W.cell? (adr A (i * sz + j)) = (cs[i])[j]? :=
 ((h.own _ (List.mem_of_getElem? hk)).el).1.cell i hi j hj
theorem GL.free {k : Nat} {e : TypeId} {sz g n cap : Nat} {A : Option Addr} (hA : A = some ⟨g, 0, none⟩) {cs : List (Array Value)} (h : GL w ls old new W) (hk : ls[k]? = some ⟨e, sz, .slice A n cap, cs⟩) (i : Nat) : W.frozen? (adr A i) = false :=
 (h.own _ (List.mem_of_getElem? hk)).free hA i
theorem GL.add {e : TypeId} {sz : Nat} {cs : List (Array Value)} (h : GL w ls old new W) (hs : ∀ c ∈ cs, c.size = sz) (hl : cs.length ≤ maxLen) : GL w (⟨e, sz, .slice (some ⟨W.heap.size, 0, none⟩) cs.length cs.length, cs⟩ :: ls) old new (W.alloc (.cells (zaM cs).toArray e)) := by
 refine (GL.go (X := W) (ψ := fun _ => True) (o' := ⟨e, sz, .slice (some ⟨W.heap.size, 0, none⟩) cs.length cs.length, cs⟩) (h.new_ e sz) (.pure trivial _ _) (Below.refl _ _) (OwnE.of_blk h.bel.size hs hl (Blk.new W e _)) ((Below.refl _ W).alloc h.bel.size _) (fun b hb _ => Below.heap_alloc W _ b hb) (by simp) (.inr ⟨W.heap.size, rfl, Nat.le_refl _⟩)).imp (fun _ h => h) fun _ h => h.2
theorem GL.addz {e : TypeId} {sz : Nat} {z : Array Value} (h : GL w ls old new W) (hz : z.size = sz) (hsz : 0 < sz) (L : Nat) (hl : L ≤ maxLen) : GL w (⟨e, sz, .slice (some ⟨W.heap.size, 0, none⟩) L L, List.replicate L z⟩ :: ls) old new (W.alloc (.cells (madeCells z (L * sz)) e)) := by
 have h1 := h.add (e := e) (sz := sz) (cs := List.replicate L z) (fun c hc => by rw [List.eq_of_mem_replicate hc]; exact hz) (by simpa using hl)
 rw [← zgH hz hsz L, List.length_replicate] at h1
 exact h1
theorem GL.addb (h : GL w ls old new W) (e : TypeId) (c : Array Value) : GL w (⟨e, c.size, .slice (some ⟨W.heap.size, 0, none⟩) 1 1, [c]⟩ :: ls) old new (W.alloc (.cells c e)) := by
 have h1 := h.add (e := e) (sz := c.size) (cs := [c]) (fun x hx => by rw [List.mem_singleton.1 hx]) (by simp [maxLen])
 rw [show (zaM [c]).toArray = c from by simp [zaM]] at h1
 exact h1
theorem GL.nils (h : GL w ls old new W) (e : TypeId) (sz : Nat) : ∀ k, GL w (ls ++ List.replicate k ⟨e, sz, .slice none 0 0, []⟩) old new W
 | 0 => by simpa using h
 | k + 1 => (GL.new_ (GL.nils h e sz k) e sz).perm (by
     rw [List.replicate_succ]
     exact List.perm_middle)
theorem GL.appAt {P : Program} {t e : TypeId} {k sz bytes : Nat} {z v : Value} {cs : List (Array Value)} (ht : P.underlying t = some (.slice e)) (hinfo : (P.info? e).map (fun i => (i.zero, i.size, i.bytes)) = some (some z, sz, bytes)) (hz : z.cells.size = sz) (hsz : 0 < sz)
 (h : GL w ls old new W) (hk : ls[k]? = some ⟨e, sz, v, cs⟩) {b of : Nat} {d : Array Value} {c : Nat} (hd : El W sz (some ⟨b, of, none⟩) [d]) (h1 : ∀ u ∈ d.toList, u.oneCell' = true) (hlen : (cs.length + 1) * bytes ≤ 140737488355328) (hl : cs.length + 1 ≤ maxLen) :
 ∃ v' w', (Builtin.append_ #[t, t] t #[v, .slice (some ⟨b, of, none⟩) 1 c]).run P W = .ok v' w' ∧ GL w (ls.set k ⟨e, sz, v', cs ++ [d]⟩) old new w' ∧ Below w.heap.size W w' ∧ (∃ A n cap, v' = .slice A n cap) := by
 have hown : OwnE W w.heap.size e sz v cs := h.own _ (List.mem_of_getElem? hk)
 obtain ⟨v', w', hrun, ho, hb, hkk, hs, hor⟩ := OwnE.apps ht hinfo hz hsz hown (c := c) (ds := [d]) hd (fun d' hd' u hu => by
  rw [List.mem_singleton.1 hd'] at hu
  exact h1 u hu) hlen hl h.bel.size
 obtain ⟨A, cap, hv, -⟩ := ho.form
 refine ⟨v', w', hrun, (GL.goAt (ψ := fun _ => True) (o' := ⟨e, sz, v', cs ++ [d]⟩) h hk (.pure trivial _ _) (Below.refl _ _) ho hb hkk hs ?_).imp (fun _ h => h) (fun _ h => h.2), hb, A, _, cap, hv⟩
 rcases hor with e | e
 ·exact .inl e
 ·exact .inr ⟨_, e, Nat.le_refl _⟩
@[reducible] def bow (g : Nat) (t : TypeId) (sz : Nat) (c : Array Value) : Ow := ⟨t, sz, .slice (some ⟨g, 0, none⟩) 1 1, [c]⟩
theorem GL.ofEnv {bs1 bs2 : List Bo} (h : Env w (bs1 ++ bs2) old new W) : GL w (bs1.map fun b => bow b.g b.t b.cs.size b.cs) (fun V => (∀ b ∈ bs2, Blk V b.g b.t b.cs) ∧ old V) new W := by
 have hnd := List.pairwise_append.1 h.nd
 have hn : ∀ n, (∀ b ∈ bs1 ++ bs2, b.g ≠ n) → ∀ o ∈ bs1.map (fun b => bow b.g b.t b.cs.size b.cs), o.v.ownBlock ≠ some n := fun n hn o ho e => by
  obtain ⟨b, hb, rfl⟩ := List.mem_map.1 ho
  injection e with e
  exact hn b (List.mem_append_left _ hb) e
 refine ⟨fun o ho => ?_, ?_, ?_, h.rsn.mono fun n hn' => ⟨hn'.1, hn n hn'.2⟩, h.bel⟩
 ·obtain ⟨b, hb, rfl⟩ := List.mem_map.1 ho
  exact OwnE.of_blk (cs := [b.cs]) (h.own b (List.mem_append_left _ hb)) (fun x hx => by rw [List.mem_singleton.1 hx]) (by simp [maxLen]) (by rw [show (zaM [b.cs]).toArray = b.cs from by simp [zaM]]; exact h.bx b (List.mem_append_left _ hb))
 ·refine List.pairwise_map.2 (hnd.1.imp fun {a b} hab k ha hb => ?_)
  injection ha with ha
  injection hb with hb
  exact hab (ha.trans hb.symm)
 ·refine Rests.and (Rests.all (φ := fun (b : Bo) V => Blk V b.g b.t b.cs) fun b hb => ⟨h.bx b (List.mem_append_right _ hb), fun w' hw => (hw b.g (fun o ho e => ?_) (h.bx b (List.mem_append_right _ hb)).lt).trans (h.bx b (List.mem_append_right _ hb))⟩) (h.rso.mono hn)
  obtain ⟨a, ha, rfl⟩ := List.mem_map.1 ho
  injection e with e
  exact hnd.2.2 a ha b hb e
theorem OwnE.blk {B : Nat} {t : TypeId} {sz g : Nat} {c : Array Value} (h : OwnE W B t sz (.slice (some ⟨g, 0, none⟩) 1 1) [c]) : Blk W g t c := by
 obtain ⟨hs, hl, h1 | ⟨g', cap', cur, hv, hg, hh, hn, hm, hsz, ht⟩⟩ := h
 ·cases h1.1
 ·obtain ⟨rfl, -, rfl⟩ : g = g' ∧ 1 = [c].length ∧ 1 = cap' := by simpa using hv
  have e : cur = c := by
   apply Array.toList_inj.1
   rw [List.take_of_length_le (by rw [Array.length_toList, hsz]; simp)] at ht
   rw [ht]; simp [zaM]
  rw [← e]; exact hh
theorem GL.drop_ {t : TypeId} {sz g : Nat} {c : Array Value} (h : GL w (⟨t, sz, .slice (some ⟨g, 0, none⟩) 1 1, [c]⟩ :: ls) old new W) : GL w ls old (fun V => Blk V g t c ∧ new V) W := by
 have ho : OwnE W w.heap.size t sz (.slice (some ⟨g, 0, none⟩) 1 1) [c] := h.own _ (List.mem_cons_self ..)
 have hB := ho.blk
 have hg := ho.lt g rfl
 have hnd := List.pairwise_cons.1 h.nd
 refine ⟨fun o ho => h.own o (List.mem_cons_of_mem _ ho), hnd.2, h.rso.mono fun n hn o ho => hn o (List.mem_cons_of_mem _ ho), Rests.and ⟨hB, fun w' hw => (hw g ⟨hg.1, fun o ho e => ?_⟩ hg.2).trans hB⟩ (h.rsn.mono fun n hn => ⟨hn.1, fun o ho => hn.2 o (List.mem_cons_of_mem _ ho)⟩), h.bel⟩
 exact hnd.1 o ho g rfl e
theorem GL.cb {k g : Nat} {t : TypeId} {sz : Nat} {c : Array Value} (h : GL w ls old new W) (hk : ls[k]? = some (bow g t sz c)) : CB g c W := (OwnE.blk (h.own _ (List.mem_of_getElem? hk))).cb
theorem GL.put4 {k : Nat} {e : TypeId} {g : Nat} {c0 : Array Value} (h : GL w ls old new W) (hk : ls[k]? = some (bow g e 4 c0)) (u0 u1 u2 u3 : Value) :
 GL w (ls.set k (bow g e 4 #[u0, u1, u2, u3])) old new ((((W.setCell ⟨g, 0, none⟩ u0).setCell ⟨g, 1, none⟩ u1).setCell ⟨g, 2, none⟩ u2).setCell ⟨g, 3, none⟩ u3) := by
 have h0 := h.set4 (i := 0) rfl hk (by simp) u0 u1 u2 u3
 simp only [Nat.zero_mul, Nat.zero_add, za4, List.set_cons_zero] at h0
 exact h0
theorem GL.al (h : GL w ls old new W) (t : TypeId) (cs : Array Value) : ∃ W' g, W.alloc (.cells cs t) = W' ∧ W.heap.size = g ∧ Hid (GL w ls old (fun V => Blk V g t cs ∧ new V) W') := ⟨_, _, rfl, rfl, zmZ (h.box t cs)⟩
theorem zeC {P : Program} {w w' : World} {o : Oper} {a : Act} {K : Act → World → Prop} {Q : Exit → Act → World → Prop} (s x : Operand) (t : TypeId) (v y v' : Value)
 (ho : o.op = .call { callee := .builtin .append, args := #[s, x], argTypes := #[t, t] }) (hs : a.eval s = v) (hx : a.eval x = y)
 (hrun : (Builtin.append_ #[t, t] o.type #[v, y]).run P w = .ok v' w')
 (h : K (a.put o.dst v') w') : Oper.wp P o a w K Q := by
 unfold Oper.wp execOp
 simp only [ho, resolve, invoke, builtin, Sem.run_bind, Sem.run_pure, Result.andThen_ok, List.map_toArray, List.map_cons, List.map_nil, hs, hx, hrun]
 exact h
@[reducible] def znA (v : VeV) : Ow := ⟨45, 5, .slice v.A v.ts.length v.c, v.ts.map tecells⟩
theorem GL.rc {k i : Nat} {e : TypeId} {n cap : Nat} {A : Option Addr} {l : List (RV × Rat)} (h : GL w ls old new W) (hk : ls[k]? = some ⟨e, 4, .slice A n cap, l.map rtcells⟩) (hi : i < l.length) : RC A i l[i] W := by
 have hc := fun j hj => h.cell (i := i) (j := j) hk (by simpa using hi) hj
 rw [List.getElem_map] at hc
 exact ⟨hc 0 (by decide), hc 1 (by decide), hc 2 (by decide), hc 3 (by decide)⟩
theorem GL.vc {k i : Nat} {e : TypeId} {n cap : Nat} {A : Option Addr} {l : List VeV} (h : GL w ls old new W) (hk : ls[k]? = some ⟨e, 1, .slice A n cap, l.map vecells⟩) (hi : i < l.length) : W.cell? (adr A i) = some (.slice (l[i]).A (l[i]).ts.length (l[i]).c) := by
 have hc := h.cell (i := i) (j := 0) hk (by simpa using hi) (by decide)
 rw [List.getElem_map, Nat.mul_one, Nat.add_zero] at hc
 exact hc
theorem GL.putR {k i : Nat} {e : TypeId} {g n cap : Nat} {A : Option Addr} (hA : A = some ⟨g, 0, none⟩) {l : List (RV × Rat)} (h : GL w ls old new W) (hk : ls[k]? = some ⟨e, 4, .slice A n cap, l.map rtcells⟩) (hi : i < l.length) (r : RV) (q : Rat) :
 GL w (ls.set k ⟨e, 4, .slice A n cap, (l.set i (r, q)).map rtcells⟩) old new ((((W.setCell (adr A (i * 4)) (.bool r.num.neg)).setCell (adr A (i * 4 + 1)) (.slice r.num.A r.num.k r.num.c)).setCell (adr A (i * 4 + 2)) (.bool r.den.neg)).setCell (adr A (i * 4 + 3)) (.slice r.den.A r.den.k r.den.c)) := by
 have h0 := GL.set4 hA h hk (by simpa using hi) (.bool r.num.neg) (.slice r.num.A r.num.k r.num.c) (.bool r.den.neg) (.slice r.den.A r.den.k r.den.c)
 rw [show (l.set i (r, q)).map rtcells = (l.map rtcells).set i (rtcells (r, q)) from List.map_set ..]
 exact h0
theorem GL.putV {k i : Nat} {e : TypeId} {g n cap : Nat} {A : Option Addr} (hA : A = some ⟨g, 0, none⟩) {l : List VeV} (h : GL w ls old new W) (hk : ls[k]? = some ⟨e, 1, .slice A n cap, l.map vecells⟩) (hi : i < l.length) (v : VeV) :
 GL w (ls.set k ⟨e, 1, .slice A n cap, (l.set i v).map vecells⟩) old new (W.setCell (adr A i) (.slice v.A v.ts.length v.c)) := by
 have h0 := GL.set1 hA h hk (by simpa using hi) (.slice v.A v.ts.length v.c)
 rw [show (l.set i v).map vecells = (l.map vecells).set i (vecells v) from List.map_set ..]
 exact h0
end
end Go.Proofs.YtikmgoefjbhcjaaGreatDoor
