/-
  Lists of elements of more than one cell: read, made by append. Lists of tokens in memory. tokens.Tokens.
-/
import Derived.Test.YtcinoicpibleoaaGreatDoorVal
import Derived.Test.YtcinoicpibleoaaGreatDoorOwn
import Derived.Maps.AppendAt
import Derived.Test.YtcinoicpibleoaaGreatDoorTK
namespace Go.Proofs.YtcinoicpibleoaaGreatDoor
open Go.RowKit

/-- elements of sz cells at the places of a slice that begins at A -/
structure El (w : World) (sz : Nat) (A : Option Addr) (cs : List (Array Value)) : Prop where
  sl : Sl A cs.length
  size : ∀ i, (h : i < cs.length) → (cs[i]).size = sz
  cell : ∀ i, (h : i < cs.length) → ∀ j, j < sz → w.cell? (adr A (i * sz + j)) = (cs[i])[j]?
theorem El.nil_ (w : World) (sz : Nat) (A : Option Addr) : El w sz A [] := ⟨fun h => absurd h (by simp), fun i h => absurd h (by simp), fun i h => absurd h (by simp)⟩
theorem El.lt {w : World} {sz : Nat} {A : Option Addr} {cs : List (Array Value)} (h : El w sz A cs) (i : Nat) (hi : i < cs.length) (j : Nat) (hj : j < sz) : (adr A (i * sz + j)).block < w.heap.size := by
  have h1 := h.cell i hi j hj
  have h2 : j < (cs[i]).size := by rw [h.size i hi]; exact hj
  rw [Array.getElem?_eq_getElem h2] at h1
  exact World.block_lt_of_cell? w _ h1
theorem El.keep {w w' : World} {sz : Nat} {A : Option Addr} {cs : List (Array Value)} (h : El w sz A cs) (hk : ∀ p : Addr, p.block < w.heap.size → p.block = (adr A 0).block → w'.cell? p = w.cell? p) : El w' sz A cs :=
  ⟨h.sl, h.size, fun i hi j hj => (hk _ (h.lt i hi j hj) rfl).trans (h.cell i hi j hj)⟩
theorem El.below {w w' : World} {sz : Nat} {A : Option Addr} {cs : List (Array Value)} (h : El w sz A cs) (hb : Below w.heap.size w w') : El w' sz A cs := h.keep fun _ hp _ => hb.cell hp
theorem El.alloc {w : World} {sz : Nat} {A : Option Addr} {cs : List (Array Value)} (h : El w sz A cs) (o : Obj) : El (w.alloc o) sz A cs := h.keep fun p hp _ => World.cell?_alloc_lt w o p hp
theorem El.drew {w : World} {sz : Nat} {A : Option Addr} {cs : List (Array Value)} (h : El w sz A cs) : El w.drew sz A cs := ⟨h.sl, h.size, h.cell⟩
theorem El.take {w : World} {sz : Nat} {A : Option Addr} {cs : List (Array Value)} (h : El w sz A cs) (n : Nat) : El w sz A (cs.take n) := by
  have hl : (cs.take n).length ≤ cs.length := by simp; omega
  refine ⟨h.sl.mono hl, fun i hi => ?_, fun i hi j hj => ?_⟩
  · rw [List.getElem_take]; exact h.size i (by omega)
  · rw [List.getElem_take]; exact h.cell i (by omega) j hj
/-- all cells, one after the other -/
def flatC (cs : List (Array Value)) : List Value := cs.flatMap Array.toList
theorem flatC_len {sz : Nat} {cs : List (Array Value)} (h : ∀ c ∈ cs, c.size = sz) : (flatC cs).length = cs.length * sz := by
  induction cs with
  | nil => simp [flatC]
  | cons c cs ih =>
    have := ih (fun x hx => h x (by simp [hx]))
    unfold flatC at this ⊢
    simp only [List.flatMap_cons, List.length_append, this, Array.length_toList, h c (by simp), List.length_cons, Nat.add_mul, Nat.one_mul]
    omega
theorem flatC_get {sz : Nat} {cs : List (Array Value)} (h : ∀ c ∈ cs, c.size = sz) (i j : Nat) (hi : i < cs.length) (hj : j < sz) : (flatC cs)[i * sz + j]? = (cs[i])[j]? := by
  induction cs generalizing i with
  | nil => simp at hi
  | cons c cs ih =>
    have hc : c.size = sz := h c (by simp)
    unfold flatC
    rw [List.flatMap_cons]
    match i with
    | 0 =>
      rw [List.getElem?_append_left (by rw [Array.length_toList, hc]; omega)]
      simp
    | i + 1 =>
      rw [List.getElem?_append_right (by rw [Array.length_toList, hc, Nat.add_mul]; omega), Array.length_toList, hc, show (i + 1) * sz + j - sz = i * sz + j from by rw [Nat.add_mul]; omega]
      exact ih (fun x hx => h x (by simp [hx])) i (by simpa using hi)
theorem El.flat {w : World} {sz : Nat} {A : Option Addr} {cs : List (Array Value)} (hsz : 0 < sz) (h : El w sz A cs) : ∀ j u, (flatC cs)[j]? = some u → w.cell? (adr A j) = some u := by
  intro j u hu
  have hc : ∀ c ∈ cs, c.size = sz := fun c hc => by obtain ⟨i, hi, rfl⟩ := List.mem_iff_getElem.1 hc; exact h.size i hi
  have hl := flatC_len hc
  have hj : j < cs.length * sz := by rw [← hl]; exact (List.getElem?_eq_some_iff.1 hu).1
  have h1 : j / sz < cs.length := (Nat.div_lt_iff_lt_mul hsz).2 hj
  have h2 : j % sz < sz := Nat.mod_lt _ hsz
  have e : j / sz * sz + j % sz = j := by rw [Nat.mul_comm]; exact Nat.div_add_mod _ _
  have := h.cell _ h1 _ h2
  rw [← flatC_get hc _ _ h1 h2, e] at this
  rw [this, hu]

/-- pv is a list of elements of the call's own, in blocks from B on -/
def OwnE (w : World) (B : Nat) (e : TypeId) (sz : Nat) (pv : Value) (cs : List (Array Value)) : Prop := (∀ c ∈ cs, c.size = sz) ∧ w.ownsRow B e sz pv cs.length (flatC cs)
theorem OwnE.nil_ (w : World) (B : Nat) (e : TypeId) (sz : Nat) : OwnE w B e sz (.slice none 0 0) [] := ⟨by simp, World.ownsRow_nil _ _ _ _⟩
theorem OwnE.form {w : World} {B : Nat} {e : TypeId} {sz : Nat} {pv : Value} {cs : List (Array Value)} (h : OwnE w B e sz pv cs) : ∃ A c, pv = .slice A cs.length c ∧ cs.length ≤ c ∧ c ≤ maxLen ∧ El w sz A cs ∧ (∀ b, pv.ownBlock = some b → B ≤ b) := by
  obtain ⟨hs, h⟩ := h
  have hs' : ∀ i, (h : i < cs.length) → (cs[i]).size = sz := fun i hi => hs _ (List.getElem_mem hi)
  rcases h.2 with ⟨h1, h2⟩ | ⟨g, cap, cur, hv, hg, hh, hn, hm, hsz, ht⟩
  · have : cs = [] := List.eq_nil_of_length_eq_zero h2
    subst this
    exact ⟨none, 0, h1, Nat.le_refl _, by simp [maxLen], El.nil_ _ _ _, by rw [h1]; intro b hb; cases hb⟩
  · refine ⟨some ⟨g, 0, none⟩, cap, hv, hn, hm, ⟨Sl.some_ _ _ _, hs', fun i hi j hj => ?_⟩, ?_⟩
    · have hlt : i * sz + j < cs.length * sz := by
        have : (i + 1) * sz ≤ cs.length * sz := Nat.mul_le_mul_right _ hi
        rw [Nat.add_mul] at this; omega
      have hc : w.cell? (adr (some ⟨g, 0, none⟩) (i * sz + j)) = cur[i * sz + j]? := by simp [World.cell?, adr, hh]
      have h2 : (cur.toList.take (cs.length * sz))[i * sz + j]? = cur[i * sz + j]? := by rw [List.getElem?_take, if_pos hlt]; simp
      rw [hc, ← h2, ht]
      exact flatC_get hs i j hi hj
    · rw [hv]; intro b hb; cases hb; exact hg
theorem OwnE.keep {w w' : World} {B : Nat} {e : TypeId} {sz : Nat} {pv : Value} {cs : List (Array Value)} (h : OwnE w B e sz pv cs) (hk : ∀ b, b < w.heap.size → pv.ownBlock = some b → w'.heap[b]? = w.heap[b]?) : OwnE w' B e sz pv cs := by
  refine ⟨h.1, h.2.1, ?_⟩
  rcases h.2.2 with h2 | ⟨g, cap, cur, hv, hg, hh, r⟩
  · exact .inl h2
  · exact .inr ⟨g, cap, cur, hv, hg, by rw [hk g (Array.getElem?_eq_some_iff.1 hh).1 (by rw [hv]; rfl)]; exact hh, r⟩
theorem OwnE.below {w w' : World} {B : Nat} {e : TypeId} {sz : Nat} {pv : Value} {cs : List (Array Value)} (h : OwnE w B e sz pv cs) (hb : Below w.heap.size w w') : OwnE w' B e sz pv cs := h.keep fun b hlt _ => hb.block b hlt
theorem OwnE.alloc {w : World} {B : Nat} {e : TypeId} {sz : Nat} {pv : Value} {cs : List (Array Value)} (h : OwnE w B e sz pv cs) (o : Obj) : OwnE (w.alloc o) B e sz pv cs := h.keep fun b hlt _ => Below.heap_alloc w o b hlt
theorem OwnE.drew {w : World} {B : Nat} {e : TypeId} {sz : Nat} {pv : Value} {cs : List (Array Value)} (h : OwnE w B e sz pv cs) : OwnE w.drew B e sz pv cs := h
theorem OwnE.lt {w : World} {B : Nat} {e : TypeId} {sz : Nat} {pv : Value} {cs : List (Array Value)} (h : OwnE w B e sz pv cs) : ∀ b, pv.ownBlock = some b → B ≤ b ∧ b < w.heap.size := fun b hb => World.ownsRow.lt h.2 b hb
theorem flatC_add (cs ds : List (Array Value)) : flatC (cs ++ ds) = flatC cs ++ flatC ds := by simp [flatC]
/-- elements more, out of a list that is there -/
theorem OwnE.apps {P : Program} {W : World} {B : Nat} {t e : TypeId} {sz bytes : Nat} {pv z : Value} {cs ds : List (Array Value)} (ht : P.underlying t = some (.slice e)) (hinfo : (P.info? e).map (fun i => (i.zero, i.size, i.bytes)) = some (some z, sz, bytes)) (hz : z.cells.size = sz) (hsz : 0 < sz)
    (hown : OwnE W B e sz pv cs) {b o c : Nat} (hd : El W sz (some ⟨b, o, none⟩) ds) (h1 : ∀ d ∈ ds, ∀ u ∈ d.toList, u.oneCell' = true) (hlen : (cs.length + ds.length) * bytes ≤ 140737488355328) (hl : cs.length + ds.length ≤ maxLen) (hB : B ≤ W.heap.size) :
    ∃ v' w', (Builtin.append_ #[t, t] t #[pv, .slice (some ⟨b, o, none⟩) ds.length c]).run P W = .ok v' w' ∧ OwnE w' B e sz v' (cs ++ ds) ∧ Below B W w' ∧
      (∀ k, k < W.heap.size → pv.ownBlock ≠ some k → w'.heap[k]? = W.heap[k]?) ∧ W.heap.size ≤ w'.heap.size ∧ (v'.ownBlock = pv.ownBlock ∨ v'.ownBlock = some W.heap.size) := by
  obtain ⟨i0, hi0, hz0, hz1, hz2⟩ := info_parts hinfo
  have hds : ∀ d ∈ ds, d.size = sz := fun c hc => by obtain ⟨i, hi, rfl⟩ := List.mem_iff_getElem.1 hc; exact hd.size i hi
  obtain ⟨v', w', hrun, h2, h3, -, h5⟩ := run_append_own_at (P := P) W B t t e i0 z sz bytes ht hi0 hz0 hz1 hz2 hz hsz pv cs.length (flatC cs) hown.2
    ⟨b, o, none⟩ ds.length c (flatC ds) (flatC_len hds) (fun j u hu => by have := hd.flat hsz j u hu; rwa [adr_some, ← add_one_cell] at this) (fun u hu => by
      obtain ⟨d, hd, hu⟩ := List.mem_flatMap.1 hu
      exact h1 d hd u hu) hl hlen hB
  have hlt := hown.lt
  refine ⟨v', w', hrun, ⟨fun c hc => ?_, ?_⟩, ?_, ?_, h3.size, h5⟩
  · rcases List.mem_append.1 hc with h | h
    · exact hown.1 c h
    · exact hds c h
  · rw [List.length_append, flatC_add]; exact h2
  · exact (Below.refl _ _).grown h3 hB (fun b hb => (hlt b hb).1)
  · intro k hk hne
    exact h3.block k hk (fun e => hne e.symm)

/-- indexing a slice of elements of any size -/
@[go_sem] theorem run_indexAt_el {P : Program} (w : World) (t : TypeId) (A : Option Addr) (len cap : Nat) (k : IntKind) (i : Int) (hs : Sl A len)
    (h : P.underlying t = some (.slice (P.elem t))) (h1 : (sizeOf (P.elem t)).run P w = .ok 7 w) :
    (Instr.indexAt t (.slice A len cap) (.int k i)).run P w =
      if 0 ≤ i ∧ i < len then .ok (.pointer (some (adr A (i.toNat * 7)))) w else (boundsPanic k i len .index).run P w := by
  rcases A with _ | a
  · have h0 : len = 0 := by
      rcases Nat.eq_zero_or_pos len with h | h
      · exact h
      · obtain ⟨_, _, h⟩ := hs h; cases h
    subst h0
    rw [if_neg (by omega)]
    simp [Instr.indexAt, run_underlying h, asIntOf]
  · rw [run_indexAt_slice w t a len cap k i h]
    split
    · rename_i hi
      obtain ⟨b, o, e⟩ := hs (by omega)
      cases e
      rw [h1]
      simp only [Result.andThen_ok, add_one_cell, adr_some]
    · rfl
theorem adr_add (A : Option Addr) (n j : Nat) : (adr A n).add j = adr A (n + j) := by
  unfold adr; rw [add_one_cell, Nat.add_assoc]

theorem Rests.lt {w : World} {F : Nat → Prop} {φ : World → Prop} (h : Rests w F φ) : Rests w (fun b => F b ∧ b < w.heap.size) φ := ⟨h.now, fun w' hw => h.lift w' fun b hF hb => hw b ⟨hF, hb⟩ hb⟩
end Go.Proofs.YtcinoicpibleoaaGreatDoor
namespace Go.Proofs.YtcinoicpibleoaaGreatDoor
open Go.RowKit

theorem size_tok (w : World) : (sizeOf (Tryz.prog.elem 22)).run Tryz.prog w = .ok 7 w := by kernel_rfl
theorem under_tok : Tryz.prog.underlying 22 = some (.slice 33) := by kernel_rfl
def tokZ : Value := .agg #[.int .u8 0, .string ⟨#[]⟩, .bool false, .slice none 0 0, .bool false, .slice none 0 0, .int .i64 0]
theorem info_tok : (Tryz.prog.info? 33).map (fun i => (i.zero, i.size, i.bytes)) = some (some tokZ, 7, 96) := by kernel_rfl

/-- tokens and where their numbers lie -/
def cellsT (ps : List (Tk × RV)) : List (Array Value) := ps.map fun p => tcells p.1 p.2
/-- tokens in memory of the call's own -/
structure TokO (w : World) (B : Nat) (v : Value) (ps : List (Tk × RV)) : Prop where
  own : OwnE w B 33 7 v (cellsT ps)
  num : ∀ p ∈ ps, Rests w (fun b => B ≤ b ∧ some b ≠ v.ownBlock) (RatN p.2 p.1.x)
theorem TokO.nil_ (w : World) (B : Nat) : TokO w B (.slice none 0 0) [] := ⟨OwnE.nil_ _ _ _ _, by simp⟩
theorem TokO.below {w w' : World} {B : Nat} {v : Value} {ps : List (Tk × RV)} (h : TokO w B v ps) (hb : Below w.heap.size w w') : TokO w' B v ps := ⟨h.own.below hb, fun p hp => (h.num p hp).below hb⟩
theorem TokO.alloc {w : World} {B : Nat} {v : Value} {ps : List (Tk × RV)} (h : TokO w B v ps) (o : Obj) : TokO (w.alloc o) B v ps := ⟨h.own.alloc o, fun p hp => (h.num p hp).alloc o⟩
theorem TokO.drew {w : World} {B : Nat} {v : Value} {ps : List (Tk × RV)} (h : TokO w B v ps) : TokO w.drew B v ps := ⟨h.own, fun p hp => (h.num p hp).drew⟩
theorem tcells_one (k : Tk) (r : RV) : ∀ u ∈ (tcells k r).toList, u.oneCell' = true := by
  intro u hu
  simp only [tcells, List.mem_cons, List.not_mem_nil, or_false] at hu
  rcases hu with rfl | rfl | rfl | rfl | rfl | rfl | rfl <;> rfl
/-- tokens more -/
theorem TokO.apps {W : World} {B : Nat} {v : Value} {ps qs : List (Tk × RV)} {b o c : Nat} (h : TokO W B v ps) (hd : El W 7 (some ⟨b, o, none⟩) (cellsT qs)) (hq : ∀ q ∈ qs, Rests W (fun b => B ≤ b ∧ some b ≠ v.ownBlock) (RatN q.2 q.1.x)) (hl : ps.length + qs.length ≤ 1000000) (hB : B ≤ W.heap.size) :
    ∃ v' w', (Builtin.append_ #[22, 22] 22 #[v, .slice (some ⟨b, o, none⟩) qs.length c]).run Tryz.prog W = .ok v' w' ∧ TokO w' B v' (ps ++ qs) ∧ Below B W w' ∧
      (∀ k, k < W.heap.size → v.ownBlock ≠ some k → w'.heap[k]? = W.heap[k]?) ∧ W.heap.size ≤ w'.heap.size ∧ (∀ φ : World → Prop, Rests W (fun b => B ≤ b ∧ some b ≠ v.ownBlock) φ → Rests w' (fun b => B ≤ b ∧ some b ≠ v'.ownBlock) φ) := by
  have e1 : (cellsT ps).length = ps.length := by simp [cellsT]
  have e2 : (cellsT qs).length = qs.length := by simp [cellsT]
  obtain ⟨v', w', hrun, ho, hb, hk, hs, hor⟩ := h.own.apps (P := Tryz.prog) (c := c) under_tok info_tok rfl (by decide) hd (fun d hd u hu => by
    obtain ⟨q, _, rfl⟩ := List.mem_map.1 hd
    exact tcells_one _ _ u hu) (by rw [e1, e2]; omega) (by rw [e1, e2]; simp only [maxLen]; omega) hB
  rw [e2] at hrun
  have key : ∀ φ : World → Prop, Rests W (fun b => B ≤ b ∧ some b ≠ v.ownBlock) φ → Rests w' (fun b => B ≤ b ∧ some b ≠ v'.ownBlock) φ := fun φ hp => by
    have h1 := hp.lt
    have h2 : ∀ b, ((B ≤ b ∧ some b ≠ v.ownBlock) ∧ b < W.heap.size) → w'.heap[b]? = W.heap[b]? := fun b hb => hk b hb.2 (fun e => hb.1.2 e.symm)
    have h3 : ∀ b, ((B ≤ b ∧ some b ≠ v.ownBlock) ∧ b < W.heap.size) → B ≤ b ∧ some b ≠ v'.ownBlock := fun b hb => by
      refine ⟨hb.1.1, ?_⟩
      rcases hor with e | e
      · rw [e]; exact hb.1.2
      · rw [e]; intro e; injection e; omega
    refine ⟨h1.lift w' fun b hb _ => h2 b hb, fun w'' hw => h1.lift w'' fun b hb hlt => ?_⟩
    exact (hw b (h3 b hb) (Nat.lt_of_lt_of_le hlt hs)).trans (h2 b hb)
  refine ⟨v', w', hrun, ⟨?_, fun p hp => ?_⟩, hb, hk, hs, key⟩
  · have : cellsT (ps ++ qs) = cellsT ps ++ cellsT qs := by simp [cellsT]
    rw [this]; exact ho
  · rcases List.mem_append.1 hp with hp | hp
    · exact key _ (h.num p hp)
    · exact key _ (hq p hp)
theorem TokO.set_ {w : World} {B : Nat} {v : Value} {ps : List (Tk × RV)} (h : TokO w B v ps) {a : Addr} (ha : a.block < B) (u : Value) : TokO (w.setCell a u) B v ps :=
  ⟨h.own.keep fun b _ hb => Below.heap_setCell w a u b (fun e => by have := (h.own.lt b hb).1; omega), fun p hp => (h.num p hp).set (a := a) (fun hF => by have := hF.1; omega) u⟩
theorem TokO.mono {w : World} {B C : Nat} {v : Value} {ps : List (Tk × RV)} (h : TokO w B v ps) (hB : C ≤ B) : TokO w C v ps := by
  refine ⟨⟨h.own.1, h.own.2.1, ?_⟩, fun p hp => (h.num p hp).mono fun b hb => ⟨Nat.le_trans hB hb.1, hb.2⟩⟩
  rcases h.own.2.2 with h2 | ⟨g, cap, cur, hv, hg, r⟩
  · exact .inl h2
  · exact .inr ⟨g, cap, cur, hv, Nat.le_trans hB hg, r⟩
/-- one token more, laid in a block of its own -/
theorem TokO.app {W : World} {B : Nat} {v : Value} {ps : List (Tk × RV)} (h : TokO W B v ps) (k : Tk) (r : RV) (hr : Rests W (fun b => B ≤ b ∧ some b ≠ v.ownBlock) (RatN r k.x)) (hl : ps.length + 1 ≤ 1000000) (hB : B ≤ W.heap.size) :
    ∃ v' w', (Builtin.append_ #[22, 22] 22 #[v, .slice (some ⟨W.heap.size, 0, none⟩) 1 1]).run Tryz.prog (W.alloc (.cells (tcells k r) 33)) = .ok v' w' ∧ TokO w' B v' (ps ++ [(k, r)]) ∧ Below B W w' ∧
      (∀ k, k < W.heap.size → v.ownBlock ≠ some k → w'.heap[k]? = W.heap[k]?) ∧ W.heap.size ≤ w'.heap.size ∧ (∀ φ : World → Prop, Rests W (fun b => B ≤ b ∧ some b ≠ v.ownBlock) φ → Rests w' (fun b => B ≤ b ∧ some b ≠ v'.ownBlock) φ) := by
  have hn := Blk.new W 33 (tcells k r)
  obtain ⟨v', w', hrun, ho, hb, hk, hs, hφ⟩ := (h.alloc (.cells (tcells k r) 33)).apps (qs := [(k, r)]) (b := W.heap.size) (o := 0) (c := 1)
    ⟨Sl.some_ _ _ _, fun i hi => by
      have : i = 0 := by simpa [cellsT] using hi
      subst this; rfl, fun i hi j hj => by
      have : i = 0 := by simpa [cellsT] using hi
      subst this
      rw [adr_some, Nat.zero_mul, Nat.zero_add, Nat.zero_add]
      exact hn.cell j⟩ (fun q hq => by
      have : q = (k, r) := by simpa using hq
      subst this
      exact hr.alloc _) hl (by simp; omega)
  refine ⟨v', w', hrun, ho, ((Below.refl B W).alloc hB _).trans hb, fun k hk' hne => ?_, ?_, fun φ hp => hφ φ (hp.alloc _)⟩
  · rw [hk k (by simp; omega) hne, Below.heap_alloc _ _ _ hk']
  · simp at hs; omega

/-- tokens that can be read -/
structure TokR (w : World) (A : Option Addr) (ps : List (Tk × RV)) : Prop where
  el : El w 7 A (cellsT ps)
  num : ∀ p ∈ ps, RatN p.2 p.1.x w
theorem TokO.read {w : World} {B : Nat} {v : Value} {ps : List (Tk × RV)} (h : TokO w B v ps) : ∃ A c, v = .slice A ps.length c ∧ ps.length ≤ c ∧ TokR w A ps := by
  obtain ⟨A, c, hv, hc, _, he, _⟩ := h.own.form
  have e1 : (cellsT ps).length = ps.length := by simp [cellsT]
  rw [e1] at hv hc
  exact ⟨A, c, hv, hc, he, fun p hp => (h.num p hp).now⟩
theorem TokR.rests {w : World} {B : Nat} {v : Value} {ps : List (Tk × RV)} {A : Option Addr} {c : Nat} (h : TokO w B v ps) (hv : v = .slice A ps.length c) (hr : TokR w A ps) : Rests w (B ≤ ·) (fun W => TokR W A ps) := by
  refine ⟨hr, fun w' hw => ⟨⟨hr.el.sl, hr.el.size, fun i hi j hj => ?_⟩, fun p hp => (h.num p hp).lift w' fun b hb hl => hw b hb.1 hl⟩⟩
  have hlt := hr.el.lt i hi j hj
  obtain ⟨b, o, rfl⟩ := hr.el.sl (by omega)
  have hB := (h.own.lt b (by rw [hv]; rfl)).1
  rw [World.cell?_of_block (hw _ hB hlt)]
  exact hr.el.cell i hi j hj
theorem TokR.below {w w' : World} {A : Option Addr} {ps : List (Tk × RV)} (h : TokR w A ps) (hb : Below w.heap.size w w') : TokR w' A ps := ⟨h.el.below hb, fun p hp => (h.num p hp).below hb⟩
theorem TokR.drew {w : World} {A : Option Addr} {ps : List (Tk × RV)} (h : TokR w A ps) : TokR w.drew A ps := ⟨h.el.drew, fun p hp => (h.num p hp).drew⟩
theorem TokR.alloc {w : World} {A : Option Addr} {ps : List (Tk × RV)} (h : TokR w A ps) (o : Obj) : TokR (w.alloc o) A ps := ⟨h.el.alloc o, fun p hp => ((h.num p hp).old.alloc o).now⟩
theorem TokR.sl {w : World} {A : Option Addr} {ps : List (Tk × RV)} (h : TokR w A ps) : Sl A ps.length := by have := h.el.sl; rwa [show (cellsT ps).length = ps.length from by simp [cellsT]] at this
theorem TokR.cells {w : World} {A : Option Addr} {ps : List (Tk × RV)} (h : TokR w A ps) (i : Nat) (hi : i < ps.length) :
    w.cell? (adr A (i * 7)) = some (.int .u8 ((ps[i]).1.kind : Nat)) ∧ w.cell? (adr A (i * 7 + 1)) = some (.string ⟨(ps[i]).1.s.toArray⟩) ∧ w.cell? (adr A (i * 7 + 2)) = some (.bool (ps[i]).2.num.neg) ∧ w.cell? (adr A (i * 7 + 3)) = some (.slice (ps[i]).2.num.A (ps[i]).2.num.k (ps[i]).2.num.c) ∧
    w.cell? (adr A (i * 7 + 4)) = some (.bool (ps[i]).2.den.neg) ∧ w.cell? (adr A (i * 7 + 5)) = some (.slice (ps[i]).2.den.A (ps[i]).2.den.k (ps[i]).2.den.c) ∧ w.cell? (adr A (i * 7 + 6)) = some (.int .i64 ((ps[i]).1.line : Nat)) := by
  have hi' : i < (cellsT ps).length := by simpa [cellsT] using hi
  have e : (cellsT ps)[i] = tcells (ps[i]).1 (ps[i]).2 := by simp [cellsT]
  have hc := h.el.cell i hi'
  rw [e] at hc
  exact ⟨hc 0 (by decide), hc 1 (by decide), hc 2 (by decide), hc 3 (by decide), hc 4 (by decide), hc 5 (by decide), hc 6 (by decide)⟩
end Go.Proofs.YtcinoicpibleoaaGreatDoor
namespace Go.Proofs.YtcinoicpibleoaaGreatDoor
open Go.RowKit

theorem toks_skip {P : List UInt8 → Nat × Rat} {f : Nat} {l l' : List UInt8} {n n' : Nat} (h : skipG false l n = skipG false l' n') : toks P f l n = toks P f l' n' := by
  cases f with
  | zero => rfl
  | succ f => simp only [toks, h]
theorem skip_idem (r : Bool) (l : List UInt8) (n : Nat) : skipG false (skipG r l n).1 (skipG r l n).2 = skipG r l n := by
  induction l generalizing r n with
  | nil => rfl
  | cons b t ih =>
    by_cases h1 : b = 10
    · have : skipG r (b :: t) n = skipG false t (n + 1) := by simp [skipG, h1]
      rw [this]; exact ih _ _
    · by_cases h2 : (r || isBlank b || b == 35) = true
      · have : skipG r (b :: t) n = skipG (r || b == 35) t n := by conv => lhs; unfold skipG
                                                                   rw [if_neg h1, if_pos h2]
        rw [this]; exact ih _ _
      · have : skipG r (b :: t) n = (b :: t, n) := by conv => lhs; unfold skipG
                                                      rw [if_neg h1, if_neg h2]
        rw [this]
        have h3 : ¬ (false || isBlank b || b == 35) = true := by cases r <;> simp_all
        show skipG false (b :: t) n = _
        conv => lhs; unfold skipG
        rw [if_neg h1, if_neg h3]
/-- in the middle of Tokens: what comes out, by what is told so far and what is left -/
structure TtI (s : ByteArray) (T : Nat × Nat × List Tk) (k m : Nat) (ps : List (Tk × RV)) : Prop where
  at_ : skipG false (s.data.toList.drop k) m = (s.data.toList.drop k, m)
  le : k ≤ s.size
  ln : m ≤ 1 + k
  ct : ps.length ≤ k
  eq : T = glue (ps.map Prod.fst) (toks parseR (s.size + 1 - k) (s.data.toList.drop k) m)
theorem skipPL (s : ByteArray) (p n : Nat) (hp : p ≤ s.size) : skipG false (s.data.toList.drop p) n = (s.data.toList.drop (skipP s p n), skipL s p n) := by
  rw [skipP_drop s p n hp]; rfl
theorem skipP_ge (s : ByteArray) (p n : Nat) (hp : p ≤ s.size) : p ≤ skipP s p n := by
  unfold skipP
  have := skip_len false (s.data.toList.drop p) n
  have h2 : (s.data.toList.drop p).length = s.size - p := by simp
  omega
theorem skipL_le2 (s : ByteArray) (p n : Nat) (hp : p ≤ s.size) : skipL s p n + p ≤ n + skipP s p n := by
  have h1 := skip_end false (s.data.toList.drop p) n
  have h4 := skipPL s p n hp
  rw [h4] at h1
  simp only at h1
  obtain ⟨t, ht⟩ := skip_suf false (s.data.toList.drop p) n
  rw [h4] at ht
  simp only at ht
  have h5 := congrArg (List.count (10 : UInt8)) ht
  rw [List.count_append] at h5
  have h6 := List.count_le_length (a := (10 : UInt8)) (l := t)
  have h7 := congrArg List.length ht
  have h8 := skipP_ge s p n hp
  have h9 := skipP_le s p n
  simp at h7
  omega
theorem TtI.start (s : ByteArray) : TtI s (toks parseR (s.size + 1) s.data.toList 1) (skipP s 0 1) (skipL s 0 1) [] := by
  have h := skipPL s 0 1 (Nat.zero_le _)
  have h2 := skipL_le2 s 0 1 (Nat.zero_le _)
  have h3 := skipP_le s 0 1
  have hi := skip_idem false (s.data.toList.drop 0) 1
  rw [h] at hi
  refine ⟨hi, h3, by omega, Nat.zero_le _, ?_⟩
  have e : toks parseR (s.size + 1 - skipP s 0 1) (s.data.toList.drop (skipP s 0 1)) (skipL s 0 1) = toks parseR (s.size + 1) s.data.toList 1 := by
    rw [toks_fuel _ (s.size + 1) _ _ (by simp; omega) (by simp; omega)]
    refine toks_skip ?_
    rw [hi, ← h, List.drop_zero]
  rw [e]
  generalize hT : toks parseR (s.size + 1) s.data.toList 1 = T
  unfold glue
  split
  · rename_i h0
    have hz := toks_zero (P := parseR) (s.size + 1) s.data.toList 1 (by rw [hT]; exact h0)
    rw [hT] at hz
    obtain ⟨a, b, c⟩ := T
    simp at h0 hz
    simp [h0, hz]
  · rfl
theorem TtI.done {s : ByteArray} {T : Nat × Nat × List Tk} {k m : Nat} {ps : List (Tk × RV)} (h : TtI s T k m ps) (hk : ¬ k < s.size) : T = (0, 0, ps.map Prod.fst ++ [⟨1, [], 0, m⟩]) := by
  have := h.le
  rw [h.eq, List.drop_eq_nil_of_le (by simp; omega), show s.size + 1 - k = 1 from by omega]
  rfl
theorem TtI.tok {s : ByteArray} {T : Nat × Nat × List Tk} {k m : Nat} {ps : List (Tk × RV)} (h : TtI s T k m ps) (hk : k < s.size) :
    T = glue (ps.map Prod.fst) (if (tokAt s k hk).1 = 0 then cons1 (upT m (tokAt s k hk).2.1) (toks parseR (s.size - k) (tokAt s k hk).2.2 m) else ((tokAt s k hk).1, m, [])) := by
  have ha := h.at_
  rw [h.eq, show s.size + 1 - k = (s.size - k) + 1 from by omega]
  conv => lhs; arg 2; unfold toks
  rw [ha, drop_at hk]
  have e := tok1_line (P := parseR) s[k] (s.data.toList.drop (k + 1)) 0 m
  rw [Nat.zero_add] at e
  simp only [e]
  rfl
theorem TtI.fault {s : ByteArray} {T : Nat × Nat × List Tk} {k m : Nat} {ps : List (Tk × RV)} (h : TtI s T k m ps) (hk : k < s.size) (he : (tokAt s k hk).1 ≠ 0) : T = ((tokAt s k hk).1, m, []) := by
  rw [h.tok hk, if_neg he]
  unfold glue
  rw [if_neg he]
theorem TtI.next {s : ByteArray} {T : Nat × Nat × List Tk} {k m en : Nat} {ps : List (Tk × RV)} {r : RV} (h : TtI s T k m ps) (hk : k < s.size) (he : (tokAt s k hk).1 = 0) (hd : s.data.toList.drop en = (tokAt s k hk).2.2) (hgt : k < en) (hle : en ≤ s.size) :
    TtI s T (skipP s en m) (skipL s en m) (ps ++ [(upT m (tokAt s k hk).2.1, r)]) := by
  have h1 := skipPL s en m hle
  have h2 := skipL_le2 s en m hle
  have h3 := skipP_le s en m
  have h4 := skipP_ge s en m hle
  have hl := h.ln
  have hc := h.ct
  have hi := skip_idem false (s.data.toList.drop en) m
  rw [h1] at hi
  refine ⟨hi, h3, by omega, by simp; omega, ?_⟩
  rw [h.tok hk, if_pos he, ← hd]
  have e : toks parseR (s.size + 1 - skipP s en m) (s.data.toList.drop (skipP s en m)) (skipL s en m) = toks parseR (s.size - k) (s.data.toList.drop en) m := by
    rw [toks_fuel _ (s.size - k) _ _ (by simp; omega) (by simp; omega)]
    refine toks_skip ?_
    rw [hi, ← h1]
  rw [e]
  generalize toks parseR (s.size - k) (s.data.toList.drop en) m = R
  unfold glue cons1
  by_cases h0 : R.1 = 0 <;> simp [h0]
/-- what Tokens tells -/
def RetToks (T : Nat × Nat × List Tk) (w : World) (E : Ending) (w' : World) : Prop :=
  ∃ v ps, E = .returned (.tuple #[v, .agg #[.int .i64 (T.1 : Nat), .int .i64 (T.2.1 : Nat)]]) ∧ ps.map Prod.fst = T.2.2 ∧ TokO w' w.heap.size v ps ∧ (T.1 ≠ 0 → v = .slice none 0 0) ∧ Below w.heap.size w w'
section
variable {w : World} {g : Nat} {a b u0 u1 : Value} {t : TypeId}
/-- both cells of a box are set -/
def set2 (w : World) (g : Nat) (a b : Value) : World := (w.setCell ⟨g, 0, none⟩ a).setCell ⟨g, 1, none⟩ b
theorem set2_eq : (w.setCell ⟨g, 0, none⟩ a).setCell ⟨g, 1, none⟩ b = set2 w g a b := rfl
theorem set2_blk (H : Blk w g t #[u0, u1]) : Blk (set2 w g a b) g t #[a, b] := (H.set_ 0 a).set_ 1 b
theorem set2_c0 (H : Blk w g t #[u0, u1]) : (set2 w g a b).cell? ⟨g, 0, none⟩ = some a := (set2_blk H).cell 0
theorem set2_c1 (H : Blk w g t #[u0, u1]) : (set2 w g a b).cell? ⟨g, 1, none⟩ = some b := (set2_blk H).cell 1
theorem set2_below {B : Nat} {w0 : World} (H : Below B w0 w) (hg : B ≤ g) : Below B w0 (set2 w g a b) := (H.setCell (p := ⟨g, 0, none⟩) hg a).setCell (p := ⟨g, 1, none⟩) hg b
end
/-- the tokens so far, the fault's box -/
structure Tt (w W : World) (v : Value) (ps : List (Tk × RV)) : Prop where
  tok : TokO W (w.heap.size + 1) v ps
  box : Blk W w.heap.size 40 #[.int .i64 0, .int .i64 0]
  below : Below w.heap.size w W
theorem Tt.start (w : World) : Tt w (w.alloc (.cells #[.int .i64 0, .int .i64 0] 40)) (.slice none 0 0) [] :=
  ⟨TokO.nil_ _ _, Blk.new _ _ _, Below.of_alloc _ _⟩
theorem Tt.after {w W W' : World} {v : Value} {ps : List (Tk × RV)} (h : Tt w W v ps) (hb : Below W.heap.size W W') : Tt w W' v ps :=
  ⟨h.tok.below hb, h.box.below hb h.box.lt, Below.after h.below hb⟩
theorem Tt.drew {w W : World} {v : Value} {ps : List (Tk × RV)} (h : Tt w W v ps) : Tt w W.drew v ps := ⟨h.tok.drew, h.box, h.below.drew⟩
theorem tz_after {w W : World} (h : Tz w) (hb : Below w.heap.size w W) : Tz W := (h.old.below hb).now
theorem tok_line0 (s : ByteArray) (k : Nat) (h : k < s.size) : (tokAt s k h).2.1.line = 0 := by
  unfold tokAt tok1
  split
  · rfl
  · split
    · rfl
    · split <;> rfl
theorem upT_at {tk : Tk} (h : tk.line = 0) (m : Nat) : upT m tk = ⟨tk.kind, tk.s, tk.x, m⟩ := by
  unfold upT; rw [h, Nat.zero_add]
theorem Tt.app {w W : World} {v : Value} {ps : List (Tk × RV)} (h : Tt w W v ps) (k : Tk) (r : RV) (hr : Rests W (fun b => w.heap.size + 1 ≤ b ∧ some b ≠ v.ownBlock) (RatN r k.x)) (hl : ps.length + 1 ≤ 1000000) :
    ∃ v' w', (Builtin.append_ #[22, 22] 22 #[v, .slice (some ⟨W.heap.size, 0, none⟩) 1 1]).run Tryz.prog (W.alloc (.cells (tcells k r) 33)) = .ok v' w' ∧ Tt w w' v' (ps ++ [(k, r)]) := by
  have hlt := h.box.lt
  obtain ⟨v', w', hrun, ho, hb, -, -, -⟩ := h.tok.app k r hr hl (by omega)
  exact ⟨v', w', hrun, ho, h.box.below hb (Nat.lt_succ_self _), h.below.trans (hb.mono (by omega))⟩

set_option maxRecDepth 100000 in
set_option maxHeartbeats 1000000 in
theorem tokens_long (s : ByteArray) (w : World) (h : 262144 < s.size) :
    Calls Tryz.prog 9 #[.string s] w (RetToks (3, 0, []) w) := by
  have H0 := Lib.hid (Tt.start w)
  have t : (262144 : Int) < (s.size : Int) := by omega
  obtain ⟨f0, f1⟩ := Blk.f2 H0.out.box
  obtain ⟨x0, x1⟩ := Blk.c2 H0.out.box
  clear h
  go_enter Tryz.func9, Tryz.ntmps9
  have HN := Blk.new w 40 #[.int .i64 3, .int .i64 0]
  go_wp2_with fail
  exact bodyPost_ret (v := .tuple #[.slice none 0 0, .agg #[.int .i64 3, .int .i64 0]]) (by simp [results, Tryz.results9, go_sem, HN.cell 0, HN.cell 1]) rfl
    ⟨_, [], rfl, rfl, TokO.nil_ _ _, fun _ => rfl, Below.of_alloc _ _⟩

set_option maxRecDepth 100000 in
set_option maxHeartbeats 4000000 in
theorem tokens_short (s : ByteArray) (w : World) (hs : s.size ≤ 262144) (hT : Tz w) :
    Calls Tryz.prog 9 #[.string s] w (RetToks (toks parseR (s.size + 1) s.data.toList 1) w) := by
  have H0 := Lib.hid (Tt.start w)
  have HT := Lib.hid hT
  have HI0 := Lib.hid (TtI.start s)
  have t0 : ¬ (262144 : Int) < (s.size : Int) := by omega
  generalize hTT : toks parseR (s.size + 1) s.data.toList 1 = T at *
  clear hT hTT
  go_enter Tryz.func9, Tryz.ntmps9
  go_wp2_with fail
  refine (skip_any s 0 1 _ (Nat.zero_le _) (by omega) (by omega)).mono ?_
  rintro e w1 ⟨rfl, hb⟩
  have H1 := Lib.hid (H0.out.after hb)
  clear hb H0
  go_wp2_with fail
  go_loopw [4, 5, 6] (fun ov av lv wr => ∃ v k m ps, v = ov ∧ av = .int .i64 (k : Nat) ∧ lv = .int .i64 (m : Nat) ∧ k ≤ s.size ∧ m ≤ 1 + k ∧ Hid (TtI s T k m ps) ∧ Hid (Tt w wr v ps)) (fun _ av _ _ => s.size - (intOf av).toNat)
  case atStart => exact ⟨_, _, _, [], rfl, rfl, rfl, HI0.out.le, HI0.out.ln, HI0, H1⟩
  case round =>
    clear HI0 H1
    obtain ⟨v, k, m, ps, rfl, rfl, rfl, hk, hm, hI, hO⟩ := hrel
    by_cases hlt : k < s.size
    · go_wp2_with fail
      refine (token_any s k _ hlt (by omega) (tz_after HT.out hO.out.below)).mono ?_
      rintro e w1 ⟨r, en, rfl, hr, hb, hto⟩
      have hl0 := tok_line0 s k hlt
      have HO := Lib.hid (hO.out.after hb)
      have hsz := hb.size
      have hbx := hO.out.box.lt
      have Hr : Rests w1 (fun b => w.heap.size + 1 ≤ b ∧ some b ≠ v.ownBlock) (RatN r (tokAt s k hlt).2.1.x) := hr.mono fun b hb' => ⟨by omega, fun e => by have := (hO.out.tok.own.lt b e.symm).2; omega⟩
      by_cases he : (tokAt s k hlt).1 = 0
      · obtain ⟨hd, hgt, hle⟩ := hto he
        have HN := hI.out.next (r := r) hlt he hd hgt hle
        rw [upT_at hl0] at HN
        replace HN := Lib.hid HN
        have te : (((tokAt s k hlt).1 : Int) != 0) = false := by rw [he]; rfl
        have hct := hI.out.ct
        clear hd hto hr hb hO hI he
        generalize (tokAt s k hlt).1 = E at *
        generalize (tokAt s k hlt).2.1 = tk at *
        simp only [tcells]
        replace Hr := Lib.hid Hr
        clear hl0
        go_upto_region 10 with fail
        have HB2 := Lib.hid (Blk.new w1 33 #[.int .u8 (tk.kind : Nat), .string ⟨tk.s.toArray⟩, .bool r.num.neg, .slice r.num.A r.num.k r.num.c, .bool r.den.neg, .slice r.den.A r.den.k r.den.c, .int .i64 (m : Nat)])
        have HO2 := Lib.hid (HO.out.after (Below.of_alloc w1 (.cells #[.int .u8 (tk.kind : Nat), .string ⟨tk.s.toArray⟩, .bool r.num.neg, .slice r.num.A r.num.k r.num.c, .bool r.den.neg, .slice r.den.A r.den.k r.den.c, .int .i64 (m : Nat)] 33)))
        have Hr2 := Hr.out.alloc (.cells #[.int .u8 (tk.kind : Nat), .string ⟨tk.s.toArray⟩, .bool r.num.neg, .slice r.num.A r.num.k r.num.c, .bool r.den.neg, .slice r.den.A r.den.k r.den.c, .int .i64 (m : Nat)] 33)
        generalize hW2 : w1.alloc (.cells #[.int .u8 (tk.kind : Nat), .string ⟨tk.s.toArray⟩, .bool r.num.neg, .slice r.num.A r.num.k r.num.c, .bool r.den.neg, .slice r.den.A r.den.k r.den.c, .int .i64 (m : Nat)] 33) = W2 at *
        generalize hg2 : w1.heap.size = g2 at *
        obtain ⟨v', w', hrun, hO'⟩ := HO2.out.app ⟨tk.kind, tk.s, tk.x, m⟩ r Hr2 (by omega)
        have Hrun := Lib.hid hrun
        replace HO := Lib.hid hO'
        obtain ⟨x0, x1, x2, x3, x4, x5, x6⟩ := Blk.c7 HB2.out
        clear hW2 hg2 hrun hO' HO2 Hr2 Hr HB2
        go_wp2_with (at_builtin; refine wpList_append_eq rfl (.tmp 37) (.tmp 39) 22 _ _ _ rfl rfl rfl Hrun.out ?_)
        clear Hrun x0 x1 x2 x3 x4 x5 x6
        refine (skip_any s en m _ hle (by omega) (by omega)).mono ?_
        rintro e w3 ⟨rfl, hb3⟩
        replace HO := Lib.hid (HO.out.after hb3)
        clear hb3
        have h1 := skipP_le s en m
        have h2 := skipL_le2 s en m hle
        have h3 := skipP_ge s en m hle
        generalize skipP s en m = k' at *
        generalize skipL s en m = m' at *
        go_wp2_with fail
        go_roundw
        case rel => exact ⟨v', k', m', _, rfl, rfl, rfl, h1, by omega, HN, HO⟩
        case measure => simp [intOf]; omega
      · have HF := Lib.hid (hI.out.fault hlt he)
        have te : (((tokAt s k hlt).1 : Int) != 0) = true := by simpa using he
        clear hto hr hb hO hI he Hr hl0
        generalize (tokAt s k hlt).1 = E at *
        generalize (tokAt s k hlt).2.1 = tk at *
        simp only [tcells]
        go_upto_region 8 with fail
        have HO2 := Lib.hid (HO.out.after (Below.of_alloc w1 (.cells #[.int .u8 (tk.kind : Nat), .string ⟨tk.s.toArray⟩, .bool r.num.neg, .slice r.num.A r.num.k r.num.c, .bool r.den.neg, .slice r.den.A r.den.k r.den.c, .int .i64 (tk.line : Nat)] 33)))
        generalize w1.alloc (.cells #[.int .u8 (tk.kind : Nat), .string ⟨tk.s.toArray⟩, .bool r.num.neg, .slice r.num.A r.num.k r.num.c, .bool r.den.neg, .slice r.den.A r.den.k r.den.c, .int .i64 (tk.line : Nat)] 33) = W2 at *
        obtain ⟨f0, f1⟩ := Blk.f2 HO2.out.box
        obtain ⟨x0, x1⟩ := Blk.c2 HO2.out.box
        go_wp2_with fail
        rw [set2_eq]
        exact bodyPost_ret (v := .tuple #[.slice none 0 0, .agg #[.int .i64 E, .int .i64 m]]) (by simp [results, Tryz.results9, go_sem, set2_c0 HO2.out.box, set2_c1 HO2.out.box]) rfl
          ⟨_, [], by rw [HF.out], by rw [HF.out]; rfl, TokO.nil_ _ _, fun _ => rfl, set2_below HO2.out.below (Nat.le_refl _)⟩
    · have HF := Lib.hid (hI.out.done hlt)
      have hct := hI.out.ct
      clear hI
      obtain ⟨v', w', hrun, hO'⟩ := hO.out.app ⟨1, [], 0, m⟩ zeroR ⟨zeroRN _, fun _ _ => zeroRN _⟩ (by omega)
      have Hrun := Lib.hid hrun
      replace hO := Lib.hid hO'
      obtain ⟨f0, f1⟩ := Blk.f2 hO.out.box
      obtain ⟨x0, x1⟩ := Blk.c2 hO.out.box
      clear hrun hO'
      go_wp2_with (at_builtin; refine wpList_append_eq rfl (.tmp 48) (.tmp 51) 22 _ _ _ rfl rfl rfl Hrun.out ?_)
      rw [set2_eq]
      exact bodyPost_ret (v := .tuple #[v', .agg #[.int .i64 0, .int .i64 0]]) (by simp [results, Tryz.results9, go_sem, set2_c0 hO.out.box, set2_c1 hO.out.box]) rfl
        ⟨v', _, by rw [HF.out]; rfl, by rw [HF.out]; simp, ((hO.out.tok.set_ (a := ⟨w.heap.size, 0, none⟩) (Nat.lt_succ_self _) _).set_ (a := ⟨w.heap.size, 1, none⟩) (Nat.lt_succ_self _) _).mono (Nat.le_succ _), fun h => absurd (by rw [HF.out]) h, set2_below hO.out.below (Nat.le_refl _)⟩
theorem tokens_any (s : ByteArray) (w : World) (hs : s.size ≤ 9223372036854775807) (hT : Tz w) :
    Calls Tryz.prog 9 #[.string s] w (RetToks (tokens parseR s.data.toList) w) := by
  unfold tokens
  have e : s.data.toList.length = s.size := by simp
  rw [e]
  split
  · exact tokens_long s w (by assumption)
  · exact tokens_short s w (by omega) hT
end Go.Proofs.YtcinoicpibleoaaGreatDoor
