/-
  digits.Parse.
-/
import Derived.Test.YtcinoicpibleoaaGreatDoorPar
namespace Go.Proofs.YtcinoicpibleoaaGreatDoor
open Go.RowKit

/-- what digits say to the base ten, the highest first -/
def decVal (l : List UInt8) : Nat := l.foldl (fun v c => 10 * v + (c.toNat - 48)) 0

/-- what Parse tells: an error's number, or a sign and a size -/
def parseN (s : List UInt8) : Nat × Bool × Nat :=
  let neg := Lib.hasPrefix s [45]
  let body := Lib.trimPrefix s [45]
  if numB body neg = false then (11, false, 0) else if 600 < body.length then (3, false, 0) else (0, neg, decVal body)

/-- a whole number told: an error's number, a sign, a size -/
def RetInt (r : Nat × Bool × Nat) (w : World) (e : Ending) (w' : World) : Prop :=
  ∃ A c, e = .returned (.tuple #[.agg #[.bool r.2.1, .slice A (digs B64 r.2.2).length c], .int .i64 (r.1 : Nat)]) ∧ (digs B64 r.2.2).length ≤ c ∧ Rd w' .u64 A (digs B64 r.2.2) ∧ Below w.heap.size w w'

theorem ten_pow {n : Nat} (k : Nat) (hk : 0 < k) (h : n ≤ 6 * k) : 10 ^ n < B64 ^ k := by
  have h1 : 10 ^ n ≤ 10 ^ (6 * k) := Nat.pow_le_pow_right (by omega) h
  rw [Nat.pow_mul] at h1
  exact Nat.lt_of_le_of_lt h1 (Nat.pow_lt_pow_left (by decide) (by omega))
theorem decVal_snoc (l : List UInt8) (c : UInt8) : decVal (l ++ [c]) = 10 * decVal l + (c.toNat - 48) := by simp [decVal, List.foldl_append]
theorem decVal_lt : ∀ (l : List UInt8), (∀ c ∈ l, isDig c = true) → decVal l < 10 ^ l.length := by
  intro l h
  have key : ∀ (l : List UInt8) (n : Nat), (∀ c ∈ l, isDig c = true) → l.length = n → decVal l < 10 ^ n := by
    intro l n
    induction n generalizing l with
    | zero => intro _ hl; rw [List.eq_nil_of_length_eq_zero hl]; simp [decVal]
    | succ n ih =>
      intro h hl
      obtain ⟨a, c, rfl⟩ : ∃ a c, l = a ++ [c] := by
        have hne : l ≠ [] := by intro e; rw [e] at hl; simp at hl
        exact ⟨l.dropLast, l.getLast hne, (List.dropLast_concat_getLast hne).symm⟩
      have h1 := ih a (fun x hx => h x (by simp [hx])) (by simpa using hl)
      have h2 : 48 ≤ c.toNat ∧ c.toNat ≤ 57 := by simpa [isDig] using h c (by simp)
      rw [decVal_snoc, Nat.pow_succ]
      omega
  exact key l l.length h rfl

/-- in the middle of reading a numeral: what lies where -/
structure PMem (w1 wr : World) (body : ByteArray) (ip v pt sc : Nat) : Prop where
  it : wr.heap[w1.heap.size + 1 + 1 + 1]? = some (.stringIter body ip)
  size : ∃ A c, wr.cell? ⟨w1.heap.size, 0, none⟩ = some (.slice A (digs B64 v).length c) ∧ (digs B64 v).length ≤ c ∧ Rd wr .u64 A (digs B64 v) ∧ Fr (w1.heap.size + 1 + 1 + 1 + 1) A (digs B64 v)
  scale : wr.cell? ⟨w1.heap.size + 1 + 1, 0, none⟩ = some (.int .u64 (sc : Int))
  part : wr.cell? ⟨w1.heap.size + 1, 0, none⟩ = some (.int .u64 (pt : Int))
  f1 : wr.frozen? ⟨w1.heap.size, 0, none⟩ = false
  f2 : wr.frozen? ⟨w1.heap.size + 1 + 1, 0, none⟩ = false
  f3 : wr.frozen? ⟨w1.heap.size + 1, 0, none⟩ = false
  below : Below w1.heap.size w1 wr
theorem PMem.lt {w1 wr : World} {body : ByteArray} {ip v pt sc : Nat} (h : PMem w1 wr body ip v pt sc) : w1.heap.size + 1 + 1 + 1 < wr.heap.size := (Array.getElem?_eq_some_iff.1 h.it).1
theorem PMem.iter {w1 wr : World} {body : ByteArray} {ip v pt sc : Nat} (h : PMem w1 wr body ip v pt sc) (ip' : Nat) : PMem w1 (wr.iterAt (w1.heap.size + 1 + 1 + 1) body ip') body ip' v pt sc := by
  have ho : ∀ k, k ≠ w1.heap.size + 1 + 1 + 1 → (wr.iterAt (w1.heap.size + 1 + 1 + 1) body ip').heap[k]? = wr.heap[k]? := fun k hk => Lib.iterAt_other _ _ _ _ _ hk
  have hc : ∀ a : Addr, a.block ≠ w1.heap.size + 1 + 1 + 1 → (wr.iterAt (w1.heap.size + 1 + 1 + 1) body ip').cell? a = wr.cell? a := fun a ha => World.cell?_of_block (ho _ ha)
  have hf : ∀ a : Addr, a.block ≠ w1.heap.size + 1 + 1 + 1 → (wr.iterAt (w1.heap.size + 1 + 1 + 1) body ip').frozen? a = wr.frozen? a := fun a ha => World.frozen?_of_block (ho _ ha)
  have g1 : w1.heap.size ≠ w1.heap.size + 1 + 1 + 1 := by omega
  have g2 : w1.heap.size + 1 ≠ w1.heap.size + 1 + 1 + 1 := by omega
  have g3 : w1.heap.size + 1 + 1 ≠ w1.heap.size + 1 + 1 + 1 := by omega
  obtain ⟨A, c, h1, h2, h3, h4⟩ := h.size
  exact ⟨Lib.iterAt_heap _ _ _ _ _ h.it, ⟨A, c, (hc _ g1).trans h1, h2, ⟨h3.sl, fun i hi => (hc _ (by have := h4 i hi; omega)).trans (h3.cell i hi)⟩, h4⟩, (hc _ g3).trans h.scale, (hc _ g2).trans h.part,
    (hf _ g1).trans h.f1, (hf _ g3).trans h.f2, (hf _ g2).trans h.f3, ⟨h.below.os, h.below.tape, h.below.output, by simpa [World.iterAt] using h.below.size, fun k hk => (ho k (by omega)).trans (h.below.block k hk)⟩⟩
theorem PMem.put {w1 wr : World} {body : ByteArray} {ip v pt sc : Nat} (h : PMem w1 wr body ip v pt sc) (pt' sc' : Nat) :
    PMem w1 ((wr.setCell ⟨w1.heap.size + 1, 0, none⟩ (.int .u64 (pt' : Int))).setCell ⟨w1.heap.size + 1 + 1, 0, none⟩ (.int .u64 (sc' : Int))).drew body ip v pt' sc' := by
  have g1 : ∀ x : Nat, x ≠ w1.heap.size + 1 → ∀ o, (⟨w1.heap.size + 1, 0, none⟩ : Addr) ≠ ⟨x, o, none⟩ := fun x hx o e => hx (by injection e with e; exact e.symm)
  have g2 : ∀ x : Nat, x ≠ w1.heap.size + 1 + 1 → ∀ o, (⟨w1.heap.size + 1 + 1, 0, none⟩ : Addr) ≠ ⟨x, o, none⟩ := fun x hx o e => hx (by injection e with e; exact e.symm)
  have hh : ∀ k, k ≠ w1.heap.size + 1 → k ≠ w1.heap.size + 1 + 1 → ((wr.setCell ⟨w1.heap.size + 1, 0, none⟩ (.int .u64 (pt' : Int))).setCell ⟨w1.heap.size + 1 + 1, 0, none⟩ (.int .u64 (sc' : Int))).heap[k]? = wr.heap[k]? := fun k a b => by
    rw [Below.heap_setCell _ _ _ _ (by show k ≠ w1.heap.size + 1 + 1; exact b), Below.heap_setCell _ _ _ _ (by show k ≠ w1.heap.size + 1; exact a)]
  obtain ⟨A, c, h1, h2, h3, h4⟩ := h.size
  have k1 : (wr.setCell ⟨w1.heap.size + 1, 0, none⟩ (.int .u64 (pt' : Int))).cell? ⟨w1.heap.size + 1 + 1, 0, none⟩ = some (.int .u64 (sc : Int)) := by rw [World.cell?_setCell_other _ _ _ _ (g1 _ (by omega) 0)]; exact h.scale
  refine ⟨(hh _ (by omega) (by omega)).trans h.it, ⟨A, c, ?_, h2, ⟨h3.sl, fun i hi => ?_⟩, h4⟩, World.cell?_setCell_same _ _ _ k1, ?_, ?_, ?_, ?_, ?_⟩
  · exact (World.cell?_of_block (hh _ (by show w1.heap.size ≠ _; omega) (by show w1.heap.size ≠ _; omega))).trans h1
  · have := h4 i hi
    exact (World.cell?_of_block (hh _ (by omega) (by omega))).trans (h3.cell i hi)
  · show ((wr.setCell ⟨w1.heap.size + 1, 0, none⟩ (.int .u64 (pt' : Int))).setCell ⟨w1.heap.size + 1 + 1, 0, none⟩ (.int .u64 (sc' : Int))).cell? ⟨w1.heap.size + 1, 0, none⟩ = _
    rw [World.cell?_setCell_other _ _ _ _ (g2 _ (by omega) 0)]
    exact World.cell?_setCell_same _ _ _ h.part
  · show ((wr.setCell _ _).setCell _ _).frozen? _ = false
    rw [frozen_set, frozen_set]; exact h.f1
  · show ((wr.setCell _ _).setCell _ _).frozen? _ = false
    rw [frozen_set, frozen_set]; exact h.f2
  · show ((wr.setCell _ _).setCell _ _).frozen? _ = false
    rw [frozen_set, frozen_set]; exact h.f3
  · exact Below.drew ((h.below.setCell (p := ⟨w1.heap.size + 1, 0, none⟩) (by show _ ≤ w1.heap.size + 1; omega) _).setCell (p := ⟨w1.heap.size + 1 + 1, 0, none⟩) (by show _ ≤ w1.heap.size + 1 + 1; omega) _)
theorem PMem.join {w1 wr w3 : World} {body : ByteArray} {ip v pt sc : Nat} (h : PMem w1 wr body ip v pt sc) (hj : Joined wr w3 w1.heap.size (w1.heap.size + 1 + 1) (w1.heap.size + 1) (v * sc + pt)) : PMem w1 w3 body ip (v * sc + pt) 0 1 := by
  have hlt := h.lt
  obtain ⟨A, c, h1, h2, h3, h4⟩ := hj.size
  exact ⟨(hj.but.block _ hlt (by omega) (by omega) (by omega)).trans h.it, ⟨A, c, h1, h2, h3, fun i hi => by have := h4 i hi; omega⟩, hj.scale, hj.part, hj.f1, hj.f2, hj.f3,
    ⟨hj.but.os.trans h.below.os, hj.but.tape.trans h.below.tape, hj.but.output.trans h.below.output, Nat.le_trans h.below.size hj.but.size, fun k hk => (hj.but.block k (by omega) (by omega) (by omega) (by omega)).trans (h.below.block k hk)⟩⟩
theorem PMem.call {w1 wr : World} {body : ByteArray} {ip v pt sc : Nat} (h : PMem w1 wr body ip v pt sc) (hv : v < B64 ^ 100) (h1 : sc < B64) (h2 : pt < B64) :
    Calls Tryz.prog 139 #[.pointer (some ⟨w1.heap.size, 0, none⟩), .pointer (some ⟨w1.heap.size + 1 + 1, 0, none⟩), .pointer (some ⟨w1.heap.size + 1, 0, none⟩)] wr fun e w' => e = .returned (.tuple #[]) ∧ Hid (PMem w1 w' body ip (v * sc + pt) 0 1) := by
  obtain ⟨A, c, k1, k2, k3, k4⟩ := h.size
  exact (join_any wr w1.heap.size (w1.heap.size + 1 + 1) (w1.heap.size + 1) A c v sc pt 100 k1 k3 h.scale h.part h.f1 h.f2 h.f3 h1 h2 (digs_length_lt hv) (by omega) (by omega) (by omega) (by omega)).mono fun e w' ⟨he, hj⟩ => ⟨he, h.join hj⟩

set_option maxRecDepth 100000 in
set_option maxHeartbeats 4000000 in
theorem parse_any (s : ByteArray) (w : World) (hs : s.size ≤ 1048576) :
    Calls Tryz.prog 95 #[.string s] w (RetInt (parseN s.data.toList) w) := by
  obtain ⟨neg, hneg⟩ : ∃ neg, neg = Lib.hasPrefix s.data.toList [45] := ⟨_, rfl⟩
  obtain ⟨body, hbody⟩ : ∃ body : ByteArray, body = ⟨(Lib.trimPrefix s.data.toList [45]).toArray⟩ := ⟨_, rfl⟩
  have hbs : body.size = (Lib.trimPrefix s.data.toList [45]).length := by rw [hbody]; exact size_str _
  have hbl : body.size ≤ 1048576 := by
    rw [hbs]
    have h1 : (Lib.trimPrefix s.data.toList [45]).length ≤ s.data.toList.length := by
      unfold Lib.trimPrefix; split
      · simp
      · exact Nat.le_refl _
    have h2 : s.data.toList.length = s.size := by simp
    omega
  have hcp := Tryz.strings_CutPrefix s ⟨#[45]⟩
  rw [← hbody, show (ByteArray.mk #[45]).data.toList = [45] from rfl, ← hneg] at hcp
  have Hcp := Lib.hid hcp
  have Hpn := Lib.hid (show parseN s.data.toList = if numB body.data.toList neg = false then (11, false, 0) else if 600 < body.size then (3, false, 0) else (0, neg, decVal body.data.toList) by
    unfold parseN; rw [hbs, hbody, hneg])
  clear hcp hneg hbody hbs
  go_enter Tryz.func95, Tryz.ntmps95
  go_wp2_with fail
  refine (Hcp.out _).mono ?_
  rintro e w' ⟨rfl, hw'⟩
  subst hw'
  go_wp2_with fail
  refine (numeral_any body neg _ (by omega)).mono ?_
  rintro e w1 ⟨rfl, hb1⟩
  have hB : Blk w1 w.heap.size 29 #[.bool false, .slice none 0 0] := (Blk.new w 29 #[.bool false, .slice none 0 0]).below hb1 (by simp)
  have hbw : Below w.heap.size w w1 := (Below.of_alloc _ _).trans (hb1.mono (by simp))
  have hc0 : w1.cell? ⟨w.heap.size, 0, none⟩ = some (.bool false) := hB.cell 0
  have hc1 : w1.cell? ⟨w.heap.size, 1, none⟩ = some (.slice none 0 0) := hB.cell 1
  have hf0 : w1.frozen? ⟨w.heap.size, 0, none⟩ = false := hB.frozen 0
  have hf1 : w1.frozen? ⟨w.heap.size, 1, none⟩ = false := hB.frozen 1
  have HB := Lib.hid hB; have Hbw := Lib.hid hbw
  clear hB hbw hb1
  by_cases hnum : numB body.data.toList neg = false
  · rw [hnum]
    rw [if_pos hnum] at Hpn
    go_wp2_with fail
    have hB2 := (HB.out.set_ 0 (.bool false)).set_ 1 (.slice none 0 0)
    have hb2 := (Hbw.out.setCell (p := ⟨w.heap.size, 0, none⟩) (Nat.le_refl _) (.bool false)).setCell (p := ⟨w.heap.size, 1, none⟩) (Nat.le_refl _) (.slice none 0 0)
    clear hc0 hc1 hf0 hf1
    generalize ((w1.setCell ⟨w.heap.size, 0, none⟩ (.bool false)).setCell ⟨w.heap.size, 1, none⟩ (.slice none 0 0)) = W at *
    have q0 : W.cell? ⟨w.heap.size, 0, none⟩ = some (.bool false) := hB2.cell 0
    have q1 : W.cell? ⟨w.heap.size, 1, none⟩ = some (.slice none 0 0) := hB2.cell 1
    refine bodyPost_ret (v := .tuple #[.agg #[.bool false, .slice none 0 0], .int .i64 11]) (by simp [results, Tryz.results95, go_sem, q0, q1]) rfl ?_
    rw [Hpn.out]
    exact ⟨none, 0, rfl, Nat.le_refl _, Rd.nil_ _ _, hb2⟩
  · rw [if_neg hnum] at Hpn
    have hnum2 : numB body.data.toList neg = true := by simpa using hnum
    rw [hnum2]
    have Hnum := Lib.hid hnum2
    clear hnum hnum2
    by_cases hlong : 600 < body.size
    · rw [if_pos hlong] at Hpn
      go_wp2_with fail
      have hB2 := (HB.out.set_ 0 (.bool false)).set_ 1 (.slice none 0 0)
      have hb2 := (Hbw.out.setCell (p := ⟨w.heap.size, 0, none⟩) (Nat.le_refl _) (.bool false)).setCell (p := ⟨w.heap.size, 1, none⟩) (Nat.le_refl _) (.slice none 0 0)
      clear hc0 hc1 hf0 hf1
      generalize ((w1.setCell ⟨w.heap.size, 0, none⟩ (.bool false)).setCell ⟨w.heap.size, 1, none⟩ (.slice none 0 0)) = W at *
      have q0 : W.cell? ⟨w.heap.size, 0, none⟩ = some (.bool false) := hB2.cell 0
      have q1 : W.cell? ⟨w.heap.size, 1, none⟩ = some (.slice none 0 0) := hB2.cell 1
      refine bodyPost_ret (v := .tuple #[.agg #[.bool false, .slice none 0 0], .int .i64 3]) (by simp [results, Tryz.results95, go_sem, q0, q1]) rfl ?_
      rw [Hpn.out]
      exact ⟨none, 0, rfl, Nat.le_refl _, Rd.nil_ _ _, hb2⟩
    · rw [if_neg hlong] at Hpn
      have hlong2 : decide ((600 : Int) < (body.size : Int)) = false := by simp; omega
      have hb600 : body.size ≤ 600 := by omega
      clear hlong
      go_wp2_with fail
      have Hall := Lib.hid (show ∀ c ∈ body.data.toList, isDig c = true by
        have h := Hnum.out
        unfold numB at h
        simp only [Bool.and_eq_true, List.all_eq_true] at h
        exact h.1.2)
      go_loopg [] body.size (fun g wr => ∃ pos v pt sc, pos ≤ body.size ∧ g = body.size - pos ∧ PMem w1 wr body pos v pt sc ∧ Hid (∃ j, j < 19 ∧ sc = 10 ^ j ∧ pt < 10 ^ j) ∧ Hid (v * sc + pt = decVal (body.data.toList.take pos)))
      case atStart =>
        refine ⟨0, 0, 0, 1, Nat.zero_le _, rfl, ?_, ⟨0, by omega, rfl, by omega⟩, rfl⟩
        have b0 := (((Blk.new w1 27 #[.slice none 0 0]).alloc (.cells #[.int .u64 0] 101)).alloc (.cells #[.int .u64 1] 101)).alloc (.stringIter body 0)
        have b1 := ((Blk.new (w1.alloc (.cells #[.slice none 0 0] 27)) 101 #[.int .u64 0]).alloc (.cells #[.int .u64 1] 101)).alloc (.stringIter body 0)
        have b2 := (Blk.new ((w1.alloc (.cells #[.slice none 0 0] 27)).alloc (.cells #[.int .u64 0] 101)) 101 #[.int .u64 1]).alloc (.stringIter body 0)
        simp only [World.size_alloc] at b1 b2
        refine ⟨?_, ⟨none, 0, b0.cell 0, Nat.le_refl _, Rd.nil_ _ _, Fr.none_ _ _⟩, b2.cell 0, b1.cell 0, b0.frozen 0, b2.frozen 0, b1.frozen 0, ?_⟩
        · have := World.iter_heap (((w1.alloc (.cells #[.slice none 0 0] 27)).alloc (.cells #[.int .u64 0] 101)).alloc (.cells #[.int .u64 1] 101)) body 0
          simp only [World.size_alloc] at this
          exact this
        · exact ((((Below.refl _ _).alloc (Nat.le_refl _) _).alloc (by simp) _).alloc (by simp; omega) _).alloc (by simp; omega) _
      case round =>
        obtain ⟨pos, v, pt, sc, hpos, hg, hI, hpow, heq⟩ := hrel
        have Hg := Lib.hid hg; clear hg
        have Hv := Lib.hid (show v < B64 ^ 100 by
          have h1 := decVal_lt (body.data.toList.take pos) (fun c hc => Hall.out c (List.mem_of_mem_take hc))
          have h2 := ten_pow (n := (body.data.toList.take pos).length) 100 (by omega) (by simp; omega)
          have h3 := heq.out
          obtain ⟨j, _, hj, _⟩ := hpow.out
          have h4 : v * 1 ≤ v * sc := Nat.mul_le_mul_left _ (by rw [hj]; exact Nat.one_le_pow _ _ (by omega))
          generalize B64 ^ 100 = big at *
          omega)
        by_cases hlt : pos < body.size
        · have hdig : isDig body[pos] = true := Hall.out _ (List.mem_iff_getElem.2 ⟨pos, by simpa using hlt, rfl⟩)
          have hd2 : 48 ≤ body[pos].toNat ∧ body[pos].toNat ≤ 57 := by simpa [isDig] using hdig
          have Hdv := Lib.hid (show decVal (body.data.toList.take (pos + 1)) = 10 * decVal (body.data.toList.take pos) + (body[pos].toNat - 48) by
            rw [List.take_succ_eq_append_getElem (by simpa using hlt), decVal_snoc]; rfl)
          have hnx : ∀ ty, (Instr.next (.pointer (some ⟨w1.heap.size + 1 + 1 + 1, 0, none⟩)) true ty).run Tryz.prog wr = _ := fun ty => Lib.run_next_ascii_at wr _ body pos ty hI.it hlt (by omega)
          have hI1 := hI.iter (pos + 1)
          clear hI hdig
          obtain ⟨hd3, hd4⟩ := hd2
          generalize body[pos].toNat = cc at *
          go_wp2_with fail
          generalize wr.iterAt (w1.heap.size + 1 + 1 + 1) body (pos + 1) = W at *
          clear hnx
          have hcs := hI1.scale; have hcp := hI1.part; have hff2 := hI1.f2; have hff3 := hI1.f3
          obtain ⟨jj, hj19, hsc, hptj⟩ := hpow.out
          have h10 : (10 : Nat) ^ jj ≤ 10 ^ 18 := Nat.pow_le_pow_right (by omega) (by omega)
          have e1 : IntKind.u64.wrap (10 * (pt : Int)) = ((10 * pt : Nat) : Int) := by rw [IntKind.wrap_u64]; omega
          have e2 : IntKind.i32.wrap ((cc : Int) - 48) = ((cc - 48 : Nat) : Int) := by rw [IntKind.wrap_i32]; omega
          have e3 : IntKind.u64.wrap ((cc - 48 : Nat) : Int) = ((cc - 48 : Nat) : Int) := by rw [IntKind.wrap_u64]; omega
          have e4 : IntKind.u64.wrap (((10 * pt : Nat) : Int) + ((cc - 48 : Nat) : Int)) = ((10 * pt + (cc - 48) : Nat) : Int) := by rw [IntKind.wrap_u64]; omega
          have e5 : IntKind.u64.wrap (10 * (sc : Int)) = ((10 * sc : Nat) : Int) := by rw [IntKind.wrap_u64, hsc]; omega
          have b1 : 10 * pt + (cc - 48) < B64 := by simp only [B64]; omega
          have b2 : 10 * sc < B64 := by simp only [B64]; omega
          have b3 : 10 * pt + (cc - 48) < 10 ^ (jj + 1) := by rw [Nat.pow_succ]; omega
          have b4 : 10 * sc = 10 ^ (jj + 1) := by rw [Nat.pow_succ, hsc]; omega
          have b5 : v * (10 * sc) + (10 * pt + (cc - 48)) = decVal (body.data.toList.take (pos + 1)) := by
            rw [Hdv.out, ← heq.out]; grind
          have HP := Lib.hid (hI1.put (10 * pt + (cc - 48)) (10 * sc))
          have HC := Lib.hid ((hI1.put (10 * pt + (cc - 48)) (10 * sc)).call Hv.out b2 b1)
          have B3 := Lib.hid b3; have B4 := Lib.hid b4; have B5 := Lib.hid b5
          have Hgl := Lib.hid (show body.size - (pos + 1) < gk by rw [Hg.out]; omega)
          clear hI1 hsc hptj hpow heq Hdv b1 b2 b3 b4 b5 h10
          generalize 10 * pt + (cc - 48) = pt' at *
          generalize cc - 48 = dd at *
          generalize 10 * pt = pt10 at *
          generalize 10 * sc = sc' at *
          by_cases hq : ((sc' : Int) == 10000000000000000000) = true
          · go_region
            all_goals
              go_wp2_with fail
              refine HC.out.mono ?_
              rintro e w3 ⟨rfl, H3⟩
              go_wp2_with fail
              go_roundg (body.size - (pos + 1))
              case measure => exact Hgl.out
              case rel => exact ⟨pos + 1, v * sc' + pt', 0, 1, by omega, rfl, H3.out, ⟨0, by omega, rfl, by omega⟩, (show (v * sc' + pt') * 1 + 0 = _ by rw [← B5.out]; omega)⟩
          · have hq2 : ((sc' : Int) == 10000000000000000000) = false := by simpa using hq
            have Hj := Lib.hid (show jj + 1 < 19 by
              rcases Nat.lt_or_ge (jj + 1) 19 with h | h
              · exact h
              · exfalso
                have e : jj + 1 = 19 := by omega
                have := B4.out
                rw [e] at this
                exact hq (by rw [this]; rfl))
            clear hq
            go_region
            all_goals
              go_wp2_with fail
              go_roundg (body.size - (pos + 1))
              case measure => exact Hgl.out
              case rel => exact ⟨pos + 1, v, pt', sc', by omega, rfl, HP.out, ⟨jj + 1, Hj.out, B4.out, B3.out⟩, B5.out⟩
        · have hpp : pos = body.size := by omega
          have Hlen : Hid (body.data.toList.length = body.size) := (show body.data.toList.length = body.size by simp)
          have Heq := Lib.hid (show v * sc + pt = decVal body.data.toList by rw [heq.out, hpp, ← Hlen.out, List.take_length])
          have hnx : ∀ ty, (Instr.next (.pointer (some ⟨w1.heap.size + 1 + 1 + 1, 0, none⟩)) true ty).run Tryz.prog wr = _ := fun ty => Lib.run_next_end_at wr _ body pos ty hI.it hlt
          obtain ⟨jj, hj19, hsc, hptj⟩ := hpow.out
          have h10 : (10 : Nat) ^ jj ≤ 10 ^ 18 := Nat.pow_le_pow_right (by omega) (by omega)
          have HC := Lib.hid (hI.call Hv.out (by simp only [B64]; omega) (by simp only [B64]; omega))
          rw [Heq.out] at HC
          clear hpp hI hsc hptj hpow heq h10 hlt hpos
          go_wp2_with fail
          refine HC.out.mono ?_
          rintro e w3 ⟨rfl, H3⟩
          obtain ⟨A3, c3, k1, k2, k3, k4⟩ := H3.out.size
          have hlw : w.heap.size < w1.heap.size := HB.out.lt
          have hB3 := HB.out.below H3.out.below hlw
          have Hb3 := Lib.hid (Hbw.out.trans (H3.out.below.mono Hbw.out.size))
          have p0 : w3.cell? ⟨w.heap.size, 0, none⟩ = some (.bool false) := hB3.cell 0
          have p1 : w3.cell? ⟨w.heap.size, 1, none⟩ = some (.slice none 0 0) := hB3.cell 1
          have p2 : w3.frozen? ⟨w.heap.size, 0, none⟩ = false := hB3.frozen 0
          have p3 : w3.frozen? ⟨w.heap.size, 1, none⟩ = false := hB3.frozen 1
          have HB3 := Lib.hid hB3; have K2 := Lib.hid k2; have K3 := Lib.hid k3; have K4 := Lib.hid k4
          clear hB3 k2 k3 k4 hnx HC
          generalize hgd : decVal body.data.toList = D at *
          have Hgd := Lib.hid hgd; clear hgd
          go_wp2_with fail
          have hB4 := (HB3.out.set_ 0 (.bool neg)).set_ 1 (.slice A3 (digs B64 D).length c3)
          have hb4 := (Hb3.out.setCell (p := ⟨w.heap.size, 0, none⟩) (Nat.le_refl _) (.bool neg)).setCell (p := ⟨w.heap.size, 1, none⟩) (Nat.le_refl _) (.slice A3 (digs B64 D).length c3)
          have hr4 : Rd ((w3.setCell ⟨w.heap.size, 0, none⟩ (.bool neg)).setCell ⟨w.heap.size, 1, none⟩ (.slice A3 (digs B64 D).length c3)) .u64 A3 (digs B64 D) := by
            refine ⟨K3.out.sl, fun i hi => ?_⟩
            have hh := K4.out i hi
            rw [World.cell?_setCell_other _ _ _ _ (fun e => by rw [← e] at hh; simp at hh; omega), World.cell?_setCell_other _ _ _ _ (fun e => by rw [← e] at hh; simp at hh; omega)]
            exact K3.out.cell i hi
          clear p0 p1 p2 p3 k1
          generalize ((w3.setCell ⟨w.heap.size, 0, none⟩ (.bool neg)).setCell ⟨w.heap.size, 1, none⟩ (.slice A3 (digs B64 D).length c3)) = W at *
          have q0 : W.cell? ⟨w.heap.size, 0, none⟩ = some (.bool neg) := hB4.cell 0
          have q1 : W.cell? ⟨w.heap.size, 1, none⟩ = some (.slice A3 (digs B64 D).length c3) := hB4.cell 1
          refine bodyPost_ret (v := .tuple #[.agg #[.bool neg, .slice A3 (digs B64 D).length c3], .int .i64 0]) (by simp [results, Tryz.results95, go_sem, q0, q1]) rfl ?_
          rw [Hpn.out]
          exact ⟨A3, c3, rfl, K2.out, hr4, hb4⟩
end Go.Proofs.YtcinoicpibleoaaGreatDoor
