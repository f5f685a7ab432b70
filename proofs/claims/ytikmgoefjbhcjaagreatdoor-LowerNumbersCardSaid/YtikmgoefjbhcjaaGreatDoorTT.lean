/-
 Lists of elements of more than one cell: read, made by append. Lists of tokens in memory. tokens.Tokens.
-/
import Derived.Test.YtikmgoefjbhcjaaGreatDoorVal
import Derived.Test.YtikmgoefjbhcjaaGreatDoorOwn
import Derived.Test.YtikmgoefjbhcjaaGreatDoorTK
import Derived.Maps.AppendAt
namespace Go.Proofs.YtikmgoefjbhcjaaGreatDoor
open Go.RowKit

structure El (w : World) (sz : Nat) (A : Option Addr) (cs : List (Array Value)) : Prop where
 sl : Sl A cs.length
 size : ∀ i, (h : i < cs.length) → (cs[i]).size = sz
 cell : ∀ i, (h : i < cs.length) → ∀ j, j < sz → w.cell? (adr A (i * sz + j)) = (cs[i])[j]?
theorem El.nil_ (w : World) (sz : Nat) (A : Option Addr) : El w sz A [] := ⟨fun h => absurd h (by simp), fun i h => absurd h (by simp), fun i h => absurd h (by simp)⟩
theorem El.lt {w : World} {sz : Nat} {A : Option Addr} {cs : List (Array Value)} (h : El w sz A cs) (i : Nat) (hi : i < cs.length) (j : Nat) (hj : j < sz) : (adr A (i * sz + j)).block < w.heap.size := by
 have h1 := h.cell i hi j hj
 have h2 : j < (cs[i]).size := by rw [h.size i hi]; exact hj
 rw [Array.getElem?_eq_getElem h2] at h1
 exact World.block_lt_of_cell? w _ h1
theorem El.keep {w w' : World} {sz : Nat} {A : Option Addr} {cs : List (Array Value)} (h : El w sz A cs) (hk : ∀ p : Addr, p.block < w.heap.size → p.block = (adr A 0).block → w'.cell? p = w.cell? p) : El w' sz A cs :=
 ⟨h.sl, h.size, fun i hi j hj => (hk _ (h.lt i hi j hj) rfl).trans (h.cell i hi j hj)⟩
theorem El.alloc {w : World} {sz : Nat} {A : Option Addr} {cs : List (Array Value)} (h : El w sz A cs) (o : Obj) : El (w.alloc o) sz A cs := h.keep fun p hp _ => World.cell?_alloc_lt w o p hp
def zaM (cs : List (Array Value)) : List Value := cs.flatMap Array.toList
theorem zaR {sz : Nat} {cs : List (Array Value)} (h : ∀ c ∈ cs, c.size = sz) : (zaM cs).length = cs.length * sz := by
 induction cs with
 | nil => simp [zaM]
 | cons c cs ih =>
  have := ih (fun x hx => h x (by simp [hx]))
  unfold zaM at this ⊢
  simp only [List.flatMap_cons, List.length_append, this, Array.length_toList, h c (by simp), List.length_cons, Nat.add_mul, Nat.one_mul]
  omega
theorem zbn {sz : Nat} {cs : List (Array Value)} (h : ∀ c ∈ cs, c.size = sz) (i j : Nat) (hi : i < cs.length) (hj : j < sz) : (zaM cs)[i * sz + j]? = (cs[i])[j]? := by
 induction cs generalizing i with
 | nil => simp at hi
 | cons c cs ih =>
  have hc : c.size = sz := h c (by simp)
  unfold zaM
  rw [List.flatMap_cons]
  match i with
  | 0 =>
   rw [List.getElem?_append_left (by rw [Array.length_toList, hc]; omega)]
   simp
  | i + 1 =>
   rw [List.getElem?_append_right (by rw [Array.length_toList, hc, Nat.add_mul]; omega), Array.length_toList, hc, show (i + 1) * sz + j - sz = i * sz + j from by rw [Nat.add_mul]; omega]
   exact ih (fun x hx => h x (by simp [hx])) i (by simpa using hi)
theorem El.flat {w : World} {sz : Nat} {A : Option Addr} {cs : List (Array Value)} (hsz : 0 < sz) (h : El w sz A cs) : ∀ j u, (zaM cs)[j]? = some u → w.cell? (adr A j) = some u := by
 intro j u hu
 have hc : ∀ c ∈ cs, c.size = sz := fun c hc => by obtain ⟨i, hi, rfl⟩ := List.mem_iff_getElem.1 hc; exact h.size i hi
 have hl := zaR hc
 have hj : j < cs.length * sz := by rw [← hl]; exact (List.getElem?_eq_some_iff.1 hu).1
 have h1 : j / sz < cs.length := (Nat.div_lt_iff_lt_mul hsz).2 hj
 have h2 : j % sz < sz := Nat.mod_lt _ hsz
 have e : j / sz * sz + j % sz = j := by rw [Nat.mul_comm]; exact Nat.div_add_mod _ _
 have := h.cell _ h1 _ h2
 rw [← zbn hc _ _ h1 h2, e] at this
 rw [this, hu]

def OwnE (w : World) (B : Nat) (e : TypeId) (sz : Nat) (pv : Value) (cs : List (Array Value)) : Prop := (∀ c ∈ cs, c.size = sz) ∧ w.ownsRow B e sz pv cs.length (zaM cs)
theorem OwnE.nil_ (w : World) (B : Nat) (e : TypeId) (sz : Nat) : OwnE w B e sz (.slice none 0 0) [] := ⟨by simp, World.ownsRow_nil _ _ _ _⟩
theorem OwnE.form {w : World} {B : Nat} {e : TypeId} {sz : Nat} {pv : Value} {cs : List (Array Value)} (h : OwnE w B e sz pv cs) : ∃ A c, pv = .slice A cs.length c ∧ cs.length ≤ c ∧ c ≤ maxLen ∧ El w sz A cs ∧ (∀ b, pv.ownBlock = some b → B ≤ b) := by
 obtain ⟨hs, h⟩ := h
 have hs' : ∀ i, (h : i < cs.length) → (cs[i]).size = sz := fun i hi => hs _ (List.getElem_mem hi)
 rcases h.2 with ⟨h1, h2⟩ | ⟨g, cap, cur, hv, hg, hh, hn, hm, hsz, ht⟩
 ·have : cs = [] := List.eq_nil_of_length_eq_zero h2
  subst this
  exact ⟨none, 0, h1, Nat.le_refl _, by simp [maxLen], El.nil_ _ _ _, by rw [h1]; intro b hb; cases hb⟩
 ·refine ⟨some ⟨g, 0, none⟩, cap, hv, hn, hm, ⟨Sl.some_ _ _ _, hs', fun i hi j hj => ?_⟩, ?_⟩
  ·have hlt : i * sz + j < cs.length * sz := by
    have : (i + 1) * sz ≤ cs.length * sz := Nat.mul_le_mul_right _ hi
    rw [Nat.add_mul] at this; omega
   have hc : w.cell? (adr (some ⟨g, 0, none⟩) (i * sz + j)) = cur[i * sz + j]? := by simp [World.cell?, adr, hh]
   have h2 : (cur.toList.take (cs.length * sz))[i * sz + j]? = cur[i * sz + j]? := by rw [List.getElem?_take, if_pos hlt]; simp
   rw [hc, ← h2, ht]
   exact zbn hs i j hi hj
  ·rw [hv]; intro b hb; cases hb; exact hg
theorem OwnE.keep {w w' : World} {B : Nat} {e : TypeId} {sz : Nat} {pv : Value} {cs : List (Array Value)} (h : OwnE w B e sz pv cs) (hk : ∀ b, b < w.heap.size → pv.ownBlock = some b → w'.heap[b]? = w.heap[b]?) : OwnE w' B e sz pv cs := by
 refine ⟨h.1, h.2.1, ?_⟩
 rcases h.2.2 with h2 | ⟨g, cap, cur, hv, hg, hh, r⟩
 ·exact .inl h2
 ·exact .inr ⟨g, cap, cur, hv, hg, by rw [hk g (Array.getElem?_eq_some_iff.1 hh).1 (by rw [hv]; rfl)]; exact hh, r⟩
theorem OwnE.below {w w' : World} {B : Nat} {e : TypeId} {sz : Nat} {pv : Value} {cs : List (Array Value)} (h : OwnE w B e sz pv cs) (hb : Below w.heap.size w w') : OwnE w' B e sz pv cs := h.keep fun b hlt _ => hb.block b hlt
theorem OwnE.drew {w : World} {B : Nat} {e : TypeId} {sz : Nat} {pv : Value} {cs : List (Array Value)} (h : OwnE w B e sz pv cs) : OwnE w.drew B e sz pv cs := h
theorem OwnE.lt {w : World} {B : Nat} {e : TypeId} {sz : Nat} {pv : Value} {cs : List (Array Value)} (h : OwnE w B e sz pv cs) : ∀ b, pv.ownBlock = some b → B ≤ b ∧ b < w.heap.size := fun b hb => World.ownsRow.lt h.2 b hb
theorem zeM (cs ds : List (Array Value)) : zaM (cs ++ ds) = zaM cs ++ zaM ds := by simp [zaM]
theorem OwnE.apps {P : Program} {W : World} {B : Nat} {t e : TypeId} {sz bytes : Nat} {pv z : Value} {cs ds : List (Array Value)} (ht : P.underlying t = some (.slice e)) (hinfo : (P.info? e).map (fun i => (i.zero, i.size, i.bytes)) = some (some z, sz, bytes)) (hz : z.cells.size = sz) (hsz : 0 < sz)
 (hown : OwnE W B e sz pv cs) {b o c : Nat} (hd : El W sz (some ⟨b, o, none⟩) ds) (h1 : ∀ d ∈ ds, ∀ u ∈ d.toList, u.oneCell' = true) (hlen : (cs.length + ds.length) * bytes ≤ 140737488355328) (hl : cs.length + ds.length ≤ maxLen) (hB : B ≤ W.heap.size) :
 ∃ v' w', (Builtin.append_ #[t, t] t #[pv, .slice (some ⟨b, o, none⟩) ds.length c]).run P W = .ok v' w' ∧ OwnE w' B e sz v' (cs ++ ds) ∧ Below B W w' ∧
  (∀ k, k < W.heap.size → pv.ownBlock ≠ some k → w'.heap[k]? = W.heap[k]?) ∧ W.heap.size ≤ w'.heap.size ∧ (v'.ownBlock = pv.ownBlock ∨ v'.ownBlock = some W.heap.size) := by
 obtain ⟨i0, hi0, hz0, hz1, hz2⟩ := info_parts hinfo
 have hds : ∀ d ∈ ds, d.size = sz := fun c hc => by obtain ⟨i, hi, rfl⟩ := List.mem_iff_getElem.1 hc; exact hd.size i hi
 obtain ⟨v', w', hrun, h2, h3, -, h5⟩ := run_append_own_at (P := P) W B t t e i0 z sz bytes ht hi0 hz0 hz1 hz2 hz hsz pv cs.length (zaM cs) hown.2
  ⟨b, o, none⟩ ds.length c (zaM ds) (zaR hds) (fun j u hu => by have := hd.flat hsz j u hu; rwa [za4, ← zac] at this) (fun u hu => by
   obtain ⟨d, hd, hu⟩ := List.mem_flatMap.1 hu
   exact h1 d hd u hu) hl hlen hB
 have hlt := hown.lt
 refine ⟨v', w', hrun, ⟨fun c hc => ?_, ?_⟩, ?_, ?_, h3.size, h5⟩
 ·rcases List.mem_append.1 hc with h | h
  ·exact hown.1 c h
  ·exact hds c h
 ·rw [List.length_append, zeM]; exact h2
 ·exact (Below.refl _ _).grown h3 hB (fun b hb => (hlt b hb).1)
 ·intro k hk hne
  exact h3.block k hk (fun e => hne e.symm)

@[go_sem] theorem run_indexAt_el {P : Program} (w : World) (t : TypeId) (A : Option Addr) (len cap : Nat) (k : IntKind) (i : Int) (hs : Sl A len)
 (h : P.underlying t = some (.slice (P.elem t))) (h1 : (sizeOf (P.elem t)).run P w = .ok 7 w) :
 (Instr.indexAt t (.slice A len cap) (.int k i)).run P w =
  if 0 ≤ i ∧ i < len then .ok (.pointer (some (adr A (i.toNat * 7)))) w else (boundsPanic k i len .index).run P w := by
 rcases A with _ | a
 ·have h0 : len = 0 := by
   rcases Nat.eq_zero_or_pos len with h | h
   ·exact h
   ·obtain ⟨_, _, h⟩ := hs h; cases h
  subst h0
  rw [if_neg (by omega)]
  simp [Instr.indexAt, run_underlying h, asIntOf]
 ·rw [run_indexAt_slice w t a len cap k i h]
  split
  ·rename_i hi
   obtain ⟨b, o, e⟩ := hs (by omega)
   cases e
   rw [h1]
   simp only [Result.andThen_ok, zac, za4]
  ·rfl
theorem za3 (A : Option Addr) (n j : Nat) : (adr A n).add j = adr A (n + j) := by
 unfold adr; rw [zac, Nat.add_assoc]

theorem Rests.lt {w : World} {F : Nat → Prop} {φ : World → Prop} (h : Rests w F φ) : Rests w (fun b => F b ∧ b < w.heap.size) φ := ⟨h.now, fun w' hw => h.lift w' fun b hF hb => hw b ⟨hF, hb⟩ hb⟩

section
variable {w : World} {g : Nat} {a b u0 u1 : Value} {t : TypeId}
end
end Go.Proofs.YtikmgoefjbhcjaaGreatDoor
