/-
 What a network without Conv says: the plain law. What the layers say: sizes, and the layers without Conv. The network without Conv: what it says, its sizes; it may be. The network without Conv may be, and is its own. What LowerSays calls.
-/
import Derived.Test.YtplhmeiciiajcaaGreatDoorYG
import Derived.Test.YtplhmeiciiajcaaGreatDoorMI
namespace Go.Proofs.YtplhmeiciiajcaaGreatDoor
open Go.RowKit

theorem mul_den9 (q : Rat) : q * (q.den : Rat) = (q.num : Rat) := by
 have h := Rat.mkRat_self q
 rw [Rat.mkRat_eq_div] at h
 have h2 : ((q.den : Nat) : Rat) ≠ 0 := fun e => q.den_nz (by
  have h3 : ((q.den : Int) : Rat) = ((0 : Int) : Rat) := e
  have := Rat.intCast_inj.1 h3
  omega)
 have h4 := Rat.div_mul_cancel (a := (q.num : Rat)) h2
 rwa [h] at h4
def Cd (D M : Nat) (q : Rat) : Prop := ∃ z : Int, q * (D : Rat) = (z : Rat) ∧ z.natAbs ≤ M
section
variable {D E M M' V : Nat} {p q : Rat}
theorem Cd.zero (D M : Nat) : Cd D M 0 := ⟨0, by rw [Rat.zero_mul]; rfl, Nat.zero_le _⟩
theorem Cd.le (h : Cd D M q) (hM : M ≤ M') : Cd D M' q := by
 obtain ⟨z, h1, h2⟩ := h
 exact ⟨z, h1, Nat.le_trans h2 hM⟩
theorem Cd.mul (h : Cd D M p) (h' : Cd E V q) : Cd (D * E) (M * V) (p * q) := by
 obtain ⟨x, h1, h2⟩ := h
 obtain ⟨y, h3, h4⟩ := h'
 refine ⟨x * y, ?_, ?_⟩
 ·rw [Rat.natCast_mul, Rat.intCast_mul, ← h1, ← h3]; grind
 ·rw [Int.natAbs_mul]; exact Nat.mul_le_mul h2 h4
theorem Cd.one (E : Nat) : Cd E E 1 := ⟨(E : Int), by rw [Rat.one_mul]; rfl, Nat.le_refl _⟩
theorem Cd.up (h : Cd D M q) (E : Nat) : Cd (D * E) (M * E) q := by
 have := h.mul (Cd.one E)
 rwa [Rat.mul_one] at this
theorem Cd.upl (h : Cd E V q) (D : Nat) : Cd (D * E) (D * V) q := by
 have := (Cd.one D).mul h
 rwa [Rat.one_mul] at this
theorem Cd.add (h : Cd D M p) (h' : Cd D M' q) : Cd D (M + M') (p + q) := by
 obtain ⟨x, h1, h2⟩ := h
 obtain ⟨y, h3, h4⟩ := h'
 refine ⟨x + y, by rw [Rat.add_mul, h1, h3, Rat.intCast_add], ?_⟩
 have := Int.natAbs_add_le x y
 omega
theorem Cd.max (h : Cd D M p) (h' : Cd D M q) : Cd D M (maxQ p q) := by
 unfold maxQ
 split <;> assumption
theorem Cd.sz {N : Nat} (h : Cd D M q) (hD : 0 < D) (hDM : D ≤ M) (hN : M < B64 ^ N) : Sz q N := by
 obtain ⟨z, h1, h2⟩ := h
 have h3 : (q.num : Rat) * ((D : Int) : Rat) = (z : Rat) * ((q.den : Int) : Rat) := by
  have h4 := mul_den9 q
  have e1 : ((D : Int) : Rat) = (D : Rat) := rfl
  have e2 : ((q.den : Int) : Rat) = (q.den : Rat) := rfl
  rw [e1, e2, ← h1, ← h4]; grind
 have h5 : q.num * (D : Int) = z * (q.den : Int) := by
  rw [← Rat.intCast_mul, ← Rat.intCast_mul] at h3
  exact Rat.intCast_inj.1 h3
 have h6 : q.num.natAbs * D = z.natAbs * q.den := by
  have := congrArg Int.natAbs h5
  rwa [Int.natAbs_mul, Int.natAbs_mul, Int.natAbs_natCast, Int.natAbs_natCast] at this
 have h7 : q.den ∣ D := (Nat.Coprime.symm q.reduced).dvd_of_dvd_mul_left (by rw [h6]; exact Nat.dvd_mul_left _ _)
 have h8 : q.den ≤ D := Nat.le_of_dvd hD h7
 refine ⟨?_, by omega⟩
 have h9 : q.num.natAbs * D ≤ z.natAbs * D := by rw [h6]; exact Nat.mul_le_mul_left _ h8
 have := Nat.le_of_mul_le_mul_right h9 hD
 omega
end
theorem Cd.of {q : Rat} {E : Nat} (h : q.den ∣ E) (hs : Sz q 1) : Cd E (B64 * E) q := by
 obtain ⟨k, rfl⟩ := h
 refine ⟨q.num * (k : Int), ?_, ?_⟩
 ·rw [Rat.natCast_mul, Rat.intCast_mul, ← mul_den9 q]
  have e1 : ((k : Int) : Rat) = (k : Rat) := rfl
  rw [e1]; grind
 ·rw [Int.natAbs_mul, Int.natAbs_natCast]
  have h1 : q.num.natAbs ≤ B64 := Nat.le_of_lt (by simpa using hs.1)
  exact Nat.mul_le_mul h1 (Nat.le_mul_of_pos_left _ q.den_pos)
def dprod : List Rat → Nat
 | [] => 1
 | q :: qs => q.den * dprod qs
theorem dprod_pos : ∀ qs, 0 < dprod qs
 | [] => Nat.one_pos
 | q :: qs => Nat.mul_pos q.den_pos (dprod_pos qs)
theorem dprod_mem {q : Rat} : ∀ {qs : List Rat}, q ∈ qs → q.den ∣ dprod qs
 | x :: qs, h => by
  rcases List.mem_cons.1 h with rfl | h
  ·exact Nat.dvd_mul_right _ _
  ·exact Nat.dvd_trans (dprod_mem h) (Nat.dvd_mul_left _ _)
theorem dprod_le : ∀ {qs : List Rat}, (∀ q ∈ qs, Sz q 1) → dprod qs ≤ B64 ^ qs.length
 | [], _ => by decide
 | q :: qs, h => by
  rw [dprod, List.length_cons, Nat.pow_succ, Nat.mul_comm]
  have h1 : q.den ≤ B64 := Nat.le_of_lt (by have := (h q (List.mem_cons_self ..)).2; simpa using this)
  exact Nat.mul_le_mul (dprod_le fun x hx => h x (List.mem_cons_of_mem _ hx)) h1
def LQ.all (q : LQ) : List Rat := q.kern ++ (q.bias ++ q.rows.flatMap fun r => r.map Prod.snd)
structure LQ.Cd (q : LQ) (E V : Nat) : Prop where
 rows : ∀ r ∈ q.rows, r.length ≤ 1000 ∧ ∀ p ∈ r, Go.Proofs.YtplhmeiciiajcaaGreatDoor.Cd E V p.2
 bias : ∀ x ∈ q.bias, Go.Proofs.YtplhmeiciiajcaaGreatDoor.Cd E V x
 kern : ∀ x ∈ q.kern, Go.Proofs.YtplhmeiciiajcaaGreatDoor.Cd E V x
theorem LQ.cd {q : LQ} (h : q.Sz' 1) (hl : ∀ r ∈ q.rows, r.length ≤ 1000) : q.Cd (dprod q.all) (B64 * dprod q.all) := by
 refine ⟨fun r hr => ⟨hl r hr, fun p hp => .of (dprod_mem ?_) (h.rows r hr p hp)⟩, fun x hx => .of (dprod_mem ?_) (h.bias x hx), fun x hx => .of (dprod_mem ?_) (h.kern x hx)⟩
 ·exact List.mem_append.2 (.inr (List.mem_append.2 (.inr (List.mem_flatMap.2 ⟨r, hr, List.mem_map_of_mem hp⟩))))
 ·exact List.mem_append.2 (.inr (List.mem_append.2 (.inl hx)))
 ·exact List.mem_append.2 (.inl hx)
theorem getD_cd {qs : List Rat} {E V : Nat} (h : ∀ q ∈ qs, Cd E V q) (i : Nat) : Cd E V ((qs[i]?).getD 0) := by
 cases e : qs[i]? with
 | none => exact .zero _ _
 | some q => exact h q (List.mem_of_getElem? e)
section
variable {D E M V : Nat} {xs : List Rat}
theorem vec_cd (h : ∀ x ∈ xs, Cd D M x) (a : Int) : Cd D M (getQ (vecR xs) a) := by
 unfold vecR
 rw [getQ_filter, range_get]
 split
 ·exact getD_cd h _
 ·exact .zero _ _
theorem dot_cd (h : ∀ x ∈ xs, Cd D M x) : ∀ {r : List (Int × Rat)}, (∀ p ∈ r, Cd E V p.2) → Cd (D * E) (r.length * (M * V)) (dotQ r (vecR xs))
 | [], _ => .zero _ _
 | p :: r, hr => by
  have h1 := ((vec_cd h p.1).mul (hr p (List.mem_cons_self ..))).add (dot_cd h fun p hp => hr p (List.mem_cons_of_mem _ hp))
  rw [show dotQ (p :: r) (vecR xs) = p.2 * getQ (vecR xs) p.1 + dotQ r (vecR xs) from rfl, Rat.mul_comm p.2]
  refine h1.le ?_
  rw [List.length_cons, Nat.add_mul, Nat.one_mul]; omega
theorem sumK_cd {pl : Nat → Option Int} {K : Nat → Rat} (hK : ∀ k, Cd E V (K k)) (h : ∀ x ∈ xs, Cd D M x) (m : Nat) (hm : ∀ k a, m ≤ k → pl k = some a → xQ xs a = 0) : ∀ j, Cd (D * E) (min j m * (M * V)) (sumK pl K (xQ xs) j)
 | 0 => .zero _ _
 | j + 1 => by
  have ih := sumK_cd hK h m hm j
  rw [sumK]
  cases e : pl j with
  | none =>
   show Cd _ _ (sumK pl K (xQ xs) j + 0)
   rw [Rat.add_zero]
   exact ih.le (Nat.mul_le_mul_right _ (by omega))
  | some a =>
   show Cd _ _ (sumK pl K (xQ xs) j + K j * xQ xs a)
   by_cases hj : j < m
   ·rw [Rat.mul_comm (K j)]
    refine (ih.add ((getD_cd h _).mul (hK j))).le ?_
    rw [show min (j + 1) m = min j m + 1 by omega, Nat.add_mul, Nat.one_mul]
    exact Nat.le_refl _
   ·rw [hm j a (by omega) e, Rat.mul_zero, Rat.add_zero, show min (j + 1) m = min j m by omega]
    exact ih
end
theorem plK_out {ch kh kw : Nat} {high wide row col : Int} {k : Nat} {a : Int} (hk : ch * kh * kw ≤ k) (h0 : 0 < kh) (h1 : 0 < kw) (e : plK kh kw high wide row col k = some a) : (ch : Int) * high * wide ≤ a := by
 unfold plK at e
 split at e
 ·rename_i hb
  injection e with e
  subst e
  have hp : ch ≤ k / kw / kh := (Nat.le_div_iff_mul_le h0).2 ((Nat.le_div_iff_mul_le h1).2 hk)
  generalize k / kw / kh = P at hp ⊢
  generalize row + ((k / kw % kh : Nat) : Int) = R at hb ⊢
  generalize col + ((k % kw : Nat) : Int) = C at hb ⊢
  obtain ⟨h1, h2, h3, h4⟩ := hb
  have g1 : (ch : Int) * high ≤ (P : Int) * high := Int.mul_le_mul_of_nonneg_right (by omega) (by omega)
  have g2 : (ch : Int) * high * wide ≤ ((P : Int) * high + R) * wide := Int.mul_le_mul_of_nonneg_right (by omega) (by omega)
  omega
 ·cases e
theorem xQ_out {xs : List Rat} {a : Int} (h : (xs.length : Int) ≤ a) : xQ xs a = 0 := by
 unfold xQ
 rw [List.getElem?_eq_none (by omega)]; rfl
theorem dotQ_nz (Y : List (Int × Rat)) : ∀ l : List (Int × Rat), dotQ (l.filter nzP) Y = dotQ l Y
 | [] => rfl
 | p :: l => by
  by_cases h : nzP p = true
  ·rw [List.filter_cons, if_pos h]
   show p.2 * _ + dotQ (l.filter nzP) Y = p.2 * _ + dotQ l Y
   rw [dotQ_nz Y l]
  ·have h0 := nzP_zero (p := p) (by simpa using h)
   rw [List.filter_cons, if_neg h]
   show dotQ (l.filter nzP) Y = p.2 * _ + dotQ l Y
   rw [dotQ_nz Y l, h0, Rat.zero_mul, Rat.zero_add]

section
variable {D E M V : Nat} {xs : List Rat} {q : LQ}
structure ConvL (q : LQ) (n : Nat) : Prop where
 h : 0 < dN q 4
 w : 0 < dN q 5
 n : dN q 0 * dN q 1 * dN q 2 = n
 e : dN q 0 * dN q 4 * dN q 5 ≤ 1000
theorem le1 (M V k : Nat) (h : k ≤ 1000) : k * (M * V) + M * V ≤ 1001 * (M * V) := by
 have := Nat.mul_le_mul_right (M * V) h
 omega
theorem convK_cd (hq : q.Cd E V) (hD : D ≤ M) (hx : ∀ x ∈ xs, Cd D M x) (hc : ConvL q xs.length) (k j : Nat) : Cd (D * E) (1001 * (M * V)) (convK q xs k j) := by
 unfold convK convP
 rw [Rat.add_comm]
 have h1 := sumK_cd (pl := plC (dN q 4) (dN q 5) (dN q 1) (dN q 2) (dN q 6) (dN q 7) (qR q) (qC q) k) (K := kq q.kern (dN q 0 * dN q 4 * dN q 5) (k / qC q / qR q)) (fun k => getD_cd hq.kern _) hx (dN q 0 * dN q 4 * dN q 5) (fun k a hk e => xQ_out (by
  have h2 := plK_out hk hc.h hc.w (show plK _ _ _ _ _ _ k = some a from e)
  have h3 := hc.n
  have h4 : ((dN q 0 * dN q 1 * dN q 2 : Nat) : Int) = (dN q 0 : Int) * (dN q 1 : Int) * (dN q 2 : Int) := by simp only [Int.natCast_mul]
  omega)) j
 have h2 : Cd (D * E) (D * V) (biasF (qR q) (qC q) q.bias k) := (show Cd E V _ from getD_cd hq.bias _).upl D
 refine (h1.add h2).le ?_
 have h3 : D * V ≤ M * V := Nat.mul_le_mul_right _ hD
 have h4 := le1 M V (min j (dN q 0 * dN q 4 * dN q 5)) (by have := hc.e; omega)
 omega
theorem aff_cd (hq : q.Cd E V) (hD : D ≤ M) (hx : ∀ x ∈ xs, Cd D M x) (i : Nat) : Cd (D * E) (1001 * (M * V)) (affR q xs i) := by
 unfold affR
 have hr : ((q.rows[i]?).getD []).length ≤ 1000 ∧ ∀ p ∈ (q.rows[i]?).getD [], Cd E V p.2 := by
  cases e : q.rows[i]? with
  | none => exact ⟨Nat.zero_le _, fun p hp => by cases hp⟩
  | some r => exact hq.rows r (List.mem_of_getElem? e)
 refine ((dot_cd hx hr.2).add ((getD_cd hq.bias i).upl D)).le ?_
 have h3 : D * V ≤ M * V := Nat.mul_le_mul_right _ hD
 have h4 := le1 M V _ hr.1
 omega
theorem pool_cd (hx : ∀ x ∈ xs, Cd D M x) (g : List Int) : ∀ k, Cd D M (poolK xs g k)
 | 0 => getD_cd hx _
 | k + 1 => (pool_cd hx g k).max (getD_cd hx _)
theorem says_cd (hq : q.Cd E V) (hEV : E ≤ V) (hD : D ≤ M) (hx : ∀ x ∈ xs, Cd D M x) (hc : q.kind = 2 → ConvL q xs.length) : ∀ y ∈ saysR q xs, Cd (D * E) (1001 * (M * V)) y := by
 have hup : ∀ z, Cd D M z → Cd (D * E) (1001 * (M * V)) z := fun z hz => (hz.up E).le (by
  have := Nat.mul_le_mul_left M hEV
  omega)
 intro y hy
 unfold saysR at hy
 split at hy
 ·obtain ⟨i, -, rfl⟩ := List.mem_map.1 hy
  exact aff_cd hq hD hx i
 ·split at hy
  ·rename_i h2
   obtain ⟨k, -, rfl⟩ := List.mem_map.1 hy
   exact convK_cd hq hD hx (hc h2) _ _
  ·split at hy
   ·obtain ⟨i, -, rfl⟩ := List.mem_map.1 hy
    exact hup _ (pool_cd hx _ _)
   ·obtain ⟨i, -, rfl⟩ := List.mem_map.1 hy
    exact hup _ ((getD_cd hx _).max (.zero _ _))
end
structure QOk (q : LQ) (n : Nat) : Prop where
 a : q.kind = 1 → q.rows.length = q.bias.length ∧ q.rows.length ≤ 1000 ∧ ∀ r ∈ q.rows, r.Pairwise (fun x y => x.1 < y.1) ∧ r.length ≤ 100
 p : q.kind = 4 → q.grs.length ≤ 1000 ∧ ∀ g ∈ q.grs, g ≠ [] ∧ (∀ z ∈ g, 0 ≤ z ∧ z < (n : Int)) ∧ g.length ≤ 1000
section
variable {D E M V N : Nat} {xs : List Rat} {l : LaV}
theorem QOk.st (h : QOk l.q xs.length) (hl : xs.length ≤ 1000) (hG : CapG l) (hC : l.kind = 2 → ConvS l ∧ (xs.length : Int) = l.ch * l.high * l.wide ∧ ConvL l.q xs.length) (hq : l.q.Cd E V) (hE : 0 < E) (hEV : E ≤ V) (hD : 0 < D) (hDM : D ≤ M) (hx : ∀ x ∈ xs, Cd D M x) (hN : 1001 * (M * V) < B64 ^ N) : StOk N l xs := by
 have hDE : 0 < D * E := Nat.mul_pos hD hE
 have hDV : D * E ≤ M * V := Nat.mul_le_mul hDM hEV
 have hMV : M ≤ M * V := Nat.le_mul_of_pos_right _ (by omega)
 have hsz : ∀ {K : Nat} {z : Rat}, K ≤ 1001 * (M * V) → Cd (D * E) K z → Sz z N := fun hK hz => (hz.le hK).sz hDE (by omega) hN
 refine ⟨hl, fun z hz => (hx z hz).sz hD hDM (by omega), fun hk => ?_, fun hk => ?_, fun hk => ?_⟩
 ·obtain ⟨h1, h2, h3⟩ := h.a hk
  have e1 : l.q.rows.length = l.rows.length := List.length_map _
  have e2 : l.q.bias.length = l.bias.length := List.length_map _
  refine ⟨by omega, by omega, fun v hv => ?_, fun r hr => ?_⟩
  ·obtain ⟨h4, h5⟩ := h3 (v.ts.map plq) (List.mem_map_of_mem (f := fun v : VeV => v.ts.map plq) hv)
   rw [List.length_map] at h5
   exact ⟨(List.pairwise_map (f := plq) (R := fun p q : Int × Rat => p.1 < q.1)).1 h4, h5⟩
  ·refine hsz ?_ (dot_cd hx (hq.rows r hr).2)
   have := Nat.mul_le_mul_right (M * V) (hq.rows r hr).1
   omega
 ·obtain ⟨h1, h2, h3⟩ := hC hk
  refine ⟨h1, h2, fun k j => hsz (Nat.le_refl _) (convK_cd hq hDM hx h3 k j), fun i a => ?_⟩
  rw [Rat.mul_comm]
  exact hsz (by omega) ((getD_cd hx _).mul (getD_cd hq.kern i))
 ·obtain ⟨h1, h2⟩ := h.p hk
  have e1 : l.q.grs.length = l.grs.length := List.length_map _
  refine ⟨by omega, fun g hg => ?_⟩
  obtain ⟨h3, h4, h5⟩ := h2 g.l (List.mem_map_of_mem (f := GrV.l) hg)
  exact ⟨⟨h3, h4⟩, hG g hg, by omega⟩
theorem conv_un {w : World} {n : Int} (h : ConvP w l n) : ((dN l.q 3 * qR l.q * qC l.q : Nat) : Int) = l.out * rowsQ l * colsQ l ∧ ((dN l.q 0 * dN l.q 1 * dN l.q 2 : Nat) : Int) = l.ch * l.high * l.wide ∧ ((dN l.q 3 * (dN l.q 0 * dN l.q 4 * dN l.q 5) : Nat) : Int) = l.out * (l.ch * l.kh * l.kw) ∧ 0 < dN l.q 4 ∧ 0 < dN l.q 5 ∧ 0 < dN l.q 3 := by
 have hz := h.s
 have hp := h.pad
 have hh := h.h
 unfold side at hz
 obtain ⟨C, hC⟩ := nat_of (z := l.ch) (by omega)
 obtain ⟨H, hH⟩ := nat_of (z := l.high) (by omega)
 obtain ⟨W, hW⟩ := nat_of (z := l.wide) (by omega)
 obtain ⟨O, hO⟩ := nat_of (z := l.out) (by omega)
 obtain ⟨KH, hKH⟩ := nat_of (z := l.kh) (by omega)
 obtain ⟨KW, hKW⟩ := nat_of (z := l.kw) (by omega)
 obtain ⟨ST, hST⟩ := nat_of (z := l.st) (by omega)
 obtain ⟨PD, hPD⟩ := nat_of (z := l.pad) (by omega)
 have e0 : dN l.q 0 = C := by show l.ch.toNat = C; rw [hC, Int.toNat_natCast]
 have e1 : dN l.q 1 = H := by show l.high.toNat = H; rw [hH, Int.toNat_natCast]
 have e2 : dN l.q 2 = W := by show l.wide.toNat = W; rw [hW, Int.toNat_natCast]
 have e3 : dN l.q 3 = O := by show l.out.toNat = O; rw [hO, Int.toNat_natCast]
 have e4 : dN l.q 4 = KH := by show l.kh.toNat = KH; rw [hKH, Int.toNat_natCast]
 have e5 : dN l.q 5 = KW := by show l.kw.toNat = KW; rw [hKW, Int.toNat_natCast]
 have e6 : dN l.q 6 = ST := by show l.st.toNat = ST; rw [hST, Int.toNat_natCast]
 have e7 : dN l.q 7 = PD := by show l.pad.toNat = PD; rw [hPD, Int.toNat_natCast]
 unfold rowsQ colsQ qR qC
 rw [e0, e1, e2, e3, e4, e5, e6, e7, hC, hH, hW, hO, hKH, hKW, hST, hPD]
 rw [hH, hW, hKH, hKW, hPD] at hh
 have h8 : ((H + 2 * PD - KH : Nat) : Int) = (H : Int) + 2 * (PD : Int) - (KH : Int) := by omega
 have h9 : ((W + 2 * PD - KW : Nat) : Int) = (W : Int) + 2 * (PD : Int) - (KW : Int) := by omega
 refine ⟨?_, by simp only [Int.natCast_mul], by simp only [Int.natCast_mul], by omega, by omega, by omega⟩
 rw [Int.natCast_mul, Int.natCast_mul, Int.natCast_add, Int.natCast_add, Int.natCast_ediv, Int.natCast_ediv, h8, h9]; rfl
theorem conv_L {w : World} (h : ConvP w l (xs.length : Int)) (hk : l.kern.length ≤ 1000) : ConvL l.q xs.length := by
 obtain ⟨-, h2, h3, h4, h5, h6⟩ := conv_un h
 have h7 := h.n
 have h8 := h.k
 refine ⟨h4, h5, by omega, ?_⟩
 have h9 : dN l.q 3 * (dN l.q 0 * dN l.q 4 * dN l.q 5) = l.kern.length := by omega
 have := Nat.mul_le_mul_right (dN l.q 0 * dN l.q 4 * dN l.q 5) (show 1 ≤ dN l.q 3 from h6)
 omega
theorem says_len {w : World} {n : Int} (h : Fits w l n) (hx : (xs.length : Int) = n) : ((saysR l.q xs).length : Int) = unitsQ l n := by
 unfold saysR unitsQ
 rcases h with ⟨hk, h⟩ | ⟨hk, h⟩ | ⟨hk, h⟩ | ⟨hk, h⟩
 ·rw [if_pos (show l.q.kind = 1 from hk), if_pos hk, List.length_map, List.length_range]
  show (((l.rows.map _).length : Nat) : Int) = _
  rw [List.length_map]
 ·rw [if_neg (show ¬ l.q.kind = 1 from fun e => by have : l.kind = 1 := e; omega), if_pos (show l.q.kind = 2 from hk), if_neg (by omega), if_pos hk]
  unfold convR
  rw [List.length_map, List.length_range]
  exact (conv_un h).1
 ·rw [if_neg (show ¬ l.q.kind = 1 from fun e => by have : l.kind = 1 := e; omega), if_neg (show ¬ l.q.kind = 2 from fun e => by have : l.kind = 2 := e; omega), if_neg (show ¬ l.q.kind = 4 from fun e => by have : l.kind = 4 := e; omega), if_neg (by omega), if_neg (by omega), if_pos hk, List.length_map, List.length_range]
  exact hx
 ·rw [if_neg (show ¬ l.q.kind = 1 from fun e => by have : l.kind = 1 := e; omega), if_neg (show ¬ l.q.kind = 2 from fun e => by have : l.kind = 2 := e; omega), if_pos (show l.q.kind = 4 from hk), if_neg (by omega), if_neg (by omega), if_neg (by omega), List.length_map, List.length_range]
  show (((l.grs.map _).length : Nat) : Int) = _
  rw [List.length_map]
theorem says_low {w : World} (h : Fits w l (xs.length : Int)) : saysR (lowQ l) xs = saysR l.q xs := by
 unfold lowQ
 by_cases hk : l.kind = 2
 ·rw [if_pos hk]
  have hc : ConvP w l (xs.length : Int) := by
   rcases h with ⟨h, -⟩ | ⟨-, h⟩ | ⟨h, -⟩ | ⟨h, -⟩
   ·omega
   ·exact h
   ·omega
   ·omega
  have hn := (conv_un hc).2.1
  have hn2 := hc.n
  have e1 : saysR l.q xs = convR l.q xs := by
   unfold saysR
   rw [if_neg (show ¬ l.q.kind = 1 from fun e => by have : l.kind = 1 := e; omega), if_pos (show l.q.kind = 2 from hk)]
  rw [e1]
  unfold saysR convR
  rw [if_pos (show (convQ l).kind = 1 from rfl)]
  have e2 : (convQ l).rows.length = dN l.q 3 * qR l.q * qC l.q := by
   show ((List.range _).map _).length = _
   rw [List.length_map, List.length_range]; rfl
  rw [e2]
  refine List.map_congr_left fun k hk => ?_
  have hk := List.mem_range.1 hk
  have e3 : ((convQ l).rows[k]?).getD [] = (spotQ (plC (dN l.q 4) (dN l.q 5) (dN l.q 1) (dN l.q 2) (dN l.q 6) (dN l.q 7) (qR l.q) (qC l.q) k) (kq l.q.kern (dN l.q 0 * dN l.q 4 * dN l.q 5) (k / qC l.q / qR l.q)) (dN l.q 0 * dN l.q 4 * dN l.q 5)).filter nzP := by
   show (((List.range (dN l.q 3 * qR l.q * qC l.q)).map _)[k]?).getD [] = _
   rw [List.getElem?_map, List.getElem?_range hk]; rfl
  have e4 : ((convQ l).bias[k]?).getD 0 = biasF (qR l.q) (qC l.q) l.q.bias k := by
   show (((List.range (dN l.q 3 * qR l.q * qC l.q)).map _)[k]?).getD 0 = _
   rw [List.getElem?_map, List.getElem?_range hk]; rfl
  unfold affR convK convP
  rw [e3, e4, dotQ_nz, ← sumK_dot, Rat.add_comm]
  congr 1
  refine sumK_congr _ _ _ fun k' a hk' e => ?_
  have h1 := plK_rng (ch := dN l.q 0) hk' (show plK _ _ _ _ _ _ k' = some a from e)
  have h2 : ((dN l.q 0 * dN l.q 1 * dN l.q 2 : Nat) : Int) = (dN l.q 0 : Int) * (dN l.q 1 : Int) * (dN l.q 2 : Int) := by simp only [Int.natCast_mul]
  unfold vecR
  rw [getQ_filter, range_get (fun k => xQ xs (k : Int)), if_pos (by omega)]
  rw [Int.toNat_of_nonneg h1.1]
 ·rw [if_neg hk]
  have e1 : ∀ i : Nat, ((sameQ l).rows[i]?).getD [] = (((l.q.rows[i]?).getD []).filter nzP) := fun i => by
   show ((l.rows.map fun v => (v.ts.map plq).filter nzP)[i]?).getD [] = (((l.rows.map fun v => v.ts.map plq)[i]?).getD []).filter nzP
   rw [List.getElem?_map, List.getElem?_map]
   cases l.rows[i]? <;> rfl
  have e2 : affR (sameQ l) xs = affR l.q xs := by
   funext i
   unfold affR
   rw [e1, dotQ_nz]; rfl
  have e3 : (sameQ l).rows.length = l.q.rows.length := by
   show (l.rows.map fun v => (v.ts.map plq).filter nzP).length = (l.rows.map fun v => v.ts.map plq).length
   rw [List.length_map, List.length_map]
  unfold saysR
  rw [e2, e3]
  rfl
end

theorem trAt_cons (q : LQ) (qs : List LQ) (xs : List Rat) : ∀ i, trAt (q :: qs) xs (i + 1) = trAt qs (saysR q xs) i
 | 0 => rfl
 | i + 1 => by
  rw [trAt, trAt_cons q qs xs i, List.getElem?_cons_succ, trAt]
theorem fits_tr {w : World} : ∀ {ls : List LaV} {xs : List Rat}, FitsL w ls (xs.length : Int) → xs.length ≤ 256 → ∀ i (hi : i < ls.length), Fits w ls[i] ((trAt (ls.map LaG.q) xs i).length : Int) ∧ (trAt (ls.map LaG.q) xs i).length ≤ 256 ∧ unitsQ ls[i] ((trAt (ls.map LaG.q) xs i).length : Int) ≤ 256
 | l :: ls, xs, h, hx, 0, _ => ⟨h.1, hx, h.2.1⟩
 | l :: ls, xs, h, hx, i + 1, hi => by
  have e := says_len h.1 rfl
  have h2 := h.2.2
  rw [← e] at h2
  have h3 := fits_tr (xs := saysR l.q xs) h2 (by have := h.2.1; omega) i (by simpa using hi)
  rw [List.map_cons, trAt_cons]
  exact h3
theorem tr_low {w : World} : ∀ {ls : List LaV} {xs : List Rat}, FitsL w ls (xs.length : Int) → ∀ i, trAt (ls.map lowQ) xs i = trAt (ls.map LaG.q) xs i
 | ls, xs, h, 0 => rfl
 | [], xs, h, i + 1 => rfl
 | l :: ls, xs, h, i + 1 => by
  rw [List.map_cons, List.map_cons, trAt_cons, trAt_cons, says_low h.1]
  refine tr_low (w := w) ?_ i
  rw [says_len h.1 rfl]; exact h.2.2
@[irreducible] def zE7 : Nat := 701
theorem zE7_e : zE7 = 701 := by unfold zE7; rfl
theorem pow_step {M V a : Nat} (hM : M < B64 ^ a) (hV : V ≤ B64 ^ zE7) : 1001 * (M * V) < B64 ^ (a + 703) := by
 have h1 : M * V ≤ M * B64 ^ zE7 := Nat.mul_le_mul_left _ hV
 have h2 : M * B64 ^ zE7 < B64 ^ a * B64 ^ zE7 := Nat.mul_lt_mul_of_pos_right hM (Nat.pow_pos B64_pos)
 have h3 : 1001 * (M * V) < 1001 * (B64 ^ a * B64 ^ zE7) := by omega
 have h4 : (1001 : Nat) ≤ B64 ^ 2 := by decide
 have h5 := Nat.mul_le_mul_right (B64 ^ a * B64 ^ zE7) h4
 rw [show a + 703 = 2 + (a + zE7) by rw [zE7_e]; omega, Nat.pow_add, Nat.pow_add (n := zE7)]
 omega
theorem flat_len {α β : Type} {f : α → List β} {k : Nat} : ∀ {l : List α}, (∀ x ∈ l, (f x).length ≤ k) → (l.flatMap f).length ≤ l.length * k
 | [], _ => by simp
 | x :: l, h => by
  rw [List.flatMap_cons, List.length_append, List.length_cons, Nat.add_mul, Nat.one_mul]
  have h1 := h x (List.mem_cons_self ..)
  have h2 := flat_len fun y hy => h y (List.mem_cons_of_mem _ hy)
  omega
structure SayOk (l : LaV) : Prop where
 sz : l.q.Sz' 1
 row : ∀ r ∈ l.q.rows, r.length ≤ 24
 rows : l.q.rows.length ≤ 24
 bias : l.q.bias.length ≤ 24
 kern : l.q.kern.length ≤ 96
 grs : l.q.grs.length ≤ 24
 gr : ∀ g ∈ l.q.grs, g.length ≤ 24
theorem SmL.say {l : LaV} {V : World} (h : SmL 24 1 l) (hl : LaD 1 l V) : SayOk l := by
 refine ⟨LaD.sz hl (Nat.le_refl _), fun r hr => ?_, ?_, ?_, ?_, ?_, fun g hg => ?_⟩
 ·obtain ⟨v, hv, rfl⟩ := List.mem_map.1 hr
  rw [List.length_map]; exact (h.rows.2 v hv).1
 ·have h1 := h.rows.1
  rwa [show l.q.rows.length = l.rows.length from List.length_map _]
 ·have h1 := h.bias.1
  rwa [show l.q.bias.length = l.bias.length from List.length_map _]
 ·have h1 := h.kern.1
  rw [show l.q.kern.length = l.kern.length from List.length_map _]; omega
 ·have h1 := h.grs
  rwa [show l.q.grs.length = l.grs.length from List.length_map _]
 ·obtain ⟨v, hv, rfl⟩ := List.mem_map.1 hg
  exact h.gr v hv
section
variable {l : LaV} {w : World}
theorem SayOk.cd (h : SayOk l) : l.q.Cd (dprod l.q.all) (B64 * dprod l.q.all) := LQ.cd h.sz fun r hr => by have := h.row r hr; omega
theorem SayOk.e (h : SayOk l) : B64 * dprod l.q.all ≤ B64 ^ zE7 := by
 have h1 : dprod l.q.all ≤ B64 ^ l.q.all.length := dprod_le fun q hq => by
  rcases List.mem_append.1 hq with hq | hq
  ·exact h.sz.kern q hq
  rcases List.mem_append.1 hq with hq | hq
  ·exact h.sz.bias q hq
  obtain ⟨r, hr, hq⟩ := List.mem_flatMap.1 hq
  obtain ⟨p, hp, rfl⟩ := List.mem_map.1 hq
  exact h.sz.rows r hr p hp
 have h2 : l.q.all.length ≤ 700 := by
  unfold LQ.all
  rw [List.length_append, List.length_append]
  have h3 := h.kern
  have h4 := h.bias
  have h5 := flat_len (f := fun r : List (Int × Rat) => r.map Prod.snd) (k := 24) (l := l.q.rows) fun r hr => by rw [List.length_map]; exact h.row r hr
  have h6 := Nat.mul_le_mul_right 24 h.rows
  omega
 obtain ⟨n9, hn9⟩ : ∃ n, n = 700 := ⟨_, rfl⟩
 rw [← hn9] at h2
 have h3 : dprod l.q.all ≤ B64 ^ n9 := Nat.le_trans h1 (Nat.pow_le_pow_right B64_pos h2)
 rw [show zE7 = n9 + 1 by rw [zE7_e]; omega, Nat.pow_succ, Nat.mul_comm]
 exact Nat.mul_le_mul_right _ h3
theorem convP_of {n : Int} (h : Fits w l n) (hk : l.kind = 2) : ConvP w l n := by
 rcases h with ⟨h, -⟩ | ⟨-, h⟩ | ⟨h, -⟩ | ⟨h, -⟩
 ·omega
 ·exact h
 ·omega
 ·omega
theorem kern_l (h : SayOk l) : l.kern.length ≤ 96 := by
 have h1 := h.kern
 rwa [show l.q.kern.length = l.kern.length from List.length_map _] at h1
theorem fits_q {n : Nat} (h : Fits w l (n : Int)) (hs : SayOk l) : QOk l.q n := by
 refine ⟨fun hk => ?_, fun hk => ?_⟩
 ·have hA : AffP w l n := by
   rcases h with ⟨-, h⟩ | ⟨h, -⟩ | ⟨h, -⟩ | ⟨h, -⟩
   ·exact h
   all_goals (have : l.kind = 1 := hk; omega)
  refine ⟨?_, by have := hs.rows; omega, fun r hr => ⟨?_, by have := hs.row r hr; omega⟩⟩
  ·show (l.rows.map _).length = (l.bias.map _).length
   rw [List.length_map, List.length_map]; exact hA.b
  ·obtain ⟨v, hv, rfl⟩ := List.mem_map.1 hr
   exact (List.pairwise_map (f := plq) (R := fun p q : Int × Rat => p.1 < q.1)).2 (hA.er v hv).rise
 ·have hA : PoolP l n := by
   rcases h with ⟨h, -⟩ | ⟨h, -⟩ | ⟨h, -⟩ | ⟨-, h⟩
   ·have : l.kind = 4 := hk
    omega
   ·have : l.kind = 4 := hk
    omega
   ·have : l.kind = 4 := hk
    omega
   ·exact h
  refine ⟨by have := hs.grs; omega, fun g hg => ?_⟩
  obtain ⟨v, hv, rfl⟩ := List.mem_map.1 hg
  obtain ⟨h1, h2, -⟩ := hA.eg v hv
  exact ⟨h1, h2, by have := hs.gr _ hg; omega⟩
theorem convQ_row {n : Int} (h : ConvP w l n) {r : List (Int × Rat)} (hr : r ∈ (convQ l).rows) : r.Pairwise (fun x y => x.1 < y.1) ∧ (∀ p ∈ r, 0 ≤ p.1 ∧ p.1 < n ∧ nzP p = true ∧ ∃ i : Nat, p.2 = (l.q.kern[i]?).getD 0) ∧ r.length ≤ dN l.q 0 * dN l.q 4 * dN l.q 5 := by
 obtain ⟨k, -, rfl⟩ := List.mem_map.1 hr
 refine ⟨List.Pairwise.filter _ (plC_rise k _ _), fun p hp => ?_, Nat.le_trans (List.length_filter_le _ _) (spotQ_len _ _ _)⟩
 obtain ⟨hp, hz⟩ := List.mem_filter.1 hp
 obtain ⟨i, hi, e1, e2⟩ := spotQ_mem hp
 have h1 := plK_rng (ch := l.ch.toNat) hi e1
 have h2 := (conv_un h).2.1
 have h3 := h.n
 have h4 : ((dN l.q 0 * dN l.q 1 * dN l.q 2 : Nat) : Int) = (l.ch.toNat : Int) * (l.high.toNat : Int) * (l.wide.toNat : Int) := by simp only [Int.natCast_mul]; rfl
 exact ⟨h1.1, by omega, hz, _, e2⟩
theorem convQ_len : (convQ l).rows.length = dN l.q 3 * qR l.q * qC l.q ∧ (convQ l).bias.length = dN l.q 3 * qR l.q * qC l.q := by
 constructor
 ·show ((List.range _).map _).length = _
  rw [List.length_map, List.length_range]; rfl
 ·show ((List.range _).map _).length = _
  rw [List.length_map, List.length_range]; rfl
theorem low_q {n : Nat} (h : Fits w l (n : Int)) (hu : unitsQ l n ≤ 256) (hs : SayOk l) : QOk (lowQ l) n := by
 have h0 := fits_q h hs
 unfold lowQ
 by_cases hk : l.kind = 2
 ·rw [if_pos hk]
  have hc := convP_of h hk
  refine ⟨fun _ => ⟨convQ_len.1.trans convQ_len.2.symm, ?_, fun r hr => ⟨(convQ_row hc hr).1, ?_⟩⟩, fun e => absurd (show (1 : Int) = 4 from e) (by decide)⟩
  ·rw [convQ_len.1]
   have h1 := (conv_un hc).1
   unfold unitsQ at hu
   rw [if_neg (by omega), if_pos hk] at hu
   omega
  ·have h1 := (convQ_row hc hr).2.2
   obtain ⟨-, -, h2, -, -, h3⟩ := conv_un hc
   have h4 := hc.k
   have h5 := kern_l hs
   have h6 := Nat.mul_le_mul_right (dN l.q 0 * dN l.q 4 * dN l.q 5) (show 1 ≤ dN l.q 3 from h3)
   omega
 ·rw [if_neg hk]
  refine ⟨fun e => ?_, h0.p⟩
  obtain ⟨h1, h2, h3⟩ := h0.a e
  have e1 : (sameQ l).rows.length = l.q.rows.length := by
   show (l.rows.map fun v => (v.ts.map plq).filter nzP).length = (l.rows.map fun v => v.ts.map plq).length
   rw [List.length_map, List.length_map]
  refine ⟨e1.trans h1, by omega, fun r hr => ?_⟩
  obtain ⟨v, hv, rfl⟩ := List.mem_map.1 hr
  obtain ⟨h4, h5⟩ := h3 (v.ts.map plq) (List.mem_map_of_mem (f := fun v : VeV => v.ts.map plq) hv)
  exact ⟨List.Pairwise.filter _ h4, Nat.le_trans (List.length_filter_le _ _) h5⟩
theorem low_cd {E V : Nat} {n : Int} (h : Fits w l n) (hs : SayOk l) (hq : l.q.Cd E V) : (lowQ l).Cd E V := by
 unfold lowQ
 by_cases hk : l.kind = 2
 ·rw [if_pos hk]
  have hc := convP_of h hk
  refine ⟨fun r hr => ⟨?_, fun p hp => ?_⟩, fun x hx => ?_, fun x hx => by cases hx⟩
  ·have h1 := (convQ_row hc hr).2.2
   obtain ⟨-, -, h2, -, -, h3⟩ := conv_un hc
   have h4 := hc.k
   have h5 := kern_l hs
   have h6 := Nat.mul_le_mul_right (dN l.q 0 * dN l.q 4 * dN l.q 5) (show 1 ≤ dN l.q 3 from h3)
   omega
  ·obtain ⟨-, -, -, i, e⟩ := (convQ_row hc hr).2.1 p hp
   rw [e]; exact getD_cd hq.kern i
  ·obtain ⟨k, -, rfl⟩ := List.mem_map.1 hx
   exact getD_cd hq.bias _
 ·rw [if_neg hk]
  refine ⟨fun r hr => ?_, hq.bias, hq.kern⟩
  obtain ⟨v, hv, rfl⟩ := List.mem_map.1 hr
  obtain ⟨h4, h5⟩ := hq.rows (v.ts.map plq) (List.mem_map_of_mem (f := fun v : VeV => v.ts.map plq) hv)
  exact ⟨Nat.le_trans (List.length_filter_le _ _) h4, fun p hp => h5 p (List.mem_filter.1 hp).1⟩
end
theorem tr_cd {w : World} {ls : List LaV} {xs : List Rat} (hF : FitsL w ls (xs.length : Int)) (hx : xs.length ≤ 256) (hs : ∀ l ∈ ls, SayOk l) {D0 M0 m : Nat} (h0 : 0 < D0) (h1 : D0 ≤ M0) (h2 : M0 < B64 ^ m) (h3 : ∀ x ∈ xs, Cd D0 M0 x) : ∀ i, i ≤ ls.length → ∃ D M, 0 < D ∧ D ≤ M ∧ M < B64 ^ (m + 703 * i) ∧ ∀ x ∈ trAt (ls.map LaG.q) xs i, Cd D M x
 | 0, _ => ⟨D0, M0, h0, h1, h2, h3⟩
 | i + 1, hi => by
  obtain ⟨D, M, k1, k2, k3, k4⟩ := tr_cd hF hx hs h0 h1 h2 h3 i (by omega)
  have hi2 : i < ls.length := by omega
  have hl := hs _ (List.getElem_mem hi2)
  have hft := fits_tr hF hx i hi2
  have hE := dprod_pos (ls[i]).q.all
  have hEV : dprod (ls[i]).q.all ≤ B64 * dprod (ls[i]).q.all := Nat.le_mul_of_pos_left _ B64_pos
  refine ⟨D * dprod (ls[i]).q.all, 1001 * (M * (B64 * dprod (ls[i]).q.all)), Nat.mul_pos k1 hE, ?_, ?_, ?_⟩
  ·have := Nat.mul_le_mul k2 hEV
   omega
  ·rw [show m + 703 * (i + 1) = (m + 703 * i) + 703 by omega]
   exact pow_step k3 hl.e
  ·rw [trAt_next (by rw [List.length_map]; exact hi2), List.getElem_map]
   exact says_cd hl.cd hEV k2 k4 fun hk => conv_L (convP_of hft.1 hk) (by have := kern_l hl; omega)

def FitsQ (q : LQ) (n : Int) : Prop := q.kern = [] ∧ q.dims = [0, 0, 0, 0, 0, 0, 0, 0] ∧
 ((q.kind = 1 ∧ q.grs = [] ∧ q.rows ≠ [] ∧ q.rows.length = q.bias.length ∧ ∀ r ∈ q.rows, (∀ p ∈ r, 0 ≤ p.1 ∧ p.1 < n ∧ nzP p = true) ∧ r.Pairwise fun x y => x.1 < y.1) ∨
  (q.kind = 3 ∧ q.rows = [] ∧ q.bias = [] ∧ q.grs = []) ∨
  (q.kind = 4 ∧ q.rows = [] ∧ q.bias = [] ∧ q.grs ≠ [] ∧ ∀ g ∈ q.grs, g ≠ [] ∧ (∀ z ∈ g, 0 ≤ z ∧ z < n) ∧ g.Pairwise (· < ·)))
def unitsq (q : LQ) (n : Int) : Int := if q.kind = 1 then q.rows.length else if q.kind = 3 then n else q.grs.length
def termsq (q : LQ) : Int := if q.kind = 1 then (q.rows.map fun r => (r.length : Int)).sum else if q.kind = 3 then 0 else (q.grs.map fun g => (g.length : Int)).sum
section
variable {w V : World} {l y : LaV} {n : Int}
theorem plain_q (h : PlainP l) : l.q.kern = [] ∧ l.q.dims = [0, 0, 0, 0, 0, 0, 0, 0] := by
 obtain ⟨h0, h1, h2, h3, h4, h5, h6, h7, h8⟩ := h
 refine ⟨?_, ?_⟩
 ·show l.kern.map _ = []
  rw [h0]; rfl
 ·show [l.ch, l.high, l.wide, l.out, l.kh, l.kw, l.st, l.pad] = _
  rw [h1, h2, h3, h4, h5, h6, h7, h8]
theorem plain_of (h : y.q.kern = []) (h' : y.q.dims = [0, 0, 0, 0, 0, 0, 0, 0]) : PlainP y := by
 have h1 : [y.ch, y.high, y.wide, y.out, y.kh, y.kw, y.st, y.pad] = [0, 0, 0, 0, 0, 0, 0, 0] := h'
 simp only [List.cons.injEq, and_true] at h1
 exact ⟨List.map_eq_nil_iff.1 h, h1⟩
theorem fitsq_y (h : FitsQ y.q n) (hN : LaN y V) : Fits V y n := by
 obtain ⟨h1, h2, h⟩ := h
 have hP := plain_of h1 h2
 rcases h with ⟨hk, hg, hr, hb, hr2⟩ | ⟨hk, hr, hb, hg⟩ | ⟨hk, hr, hb, hg, hg2⟩
 ·refine .inl ⟨hk, hP, List.map_eq_nil_iff.1 hg, fun e => hr (List.map_eq_nil_iff.2 e), ?_, fun v hv => ?_, fun p hp => hN.bias.ok p hp⟩
  ·have h3 : (y.rows.map _).length = (y.bias.map _).length := hb
   rwa [List.length_map, List.length_map] at h3
  ·obtain ⟨h3, h4⟩ := hr2 (v.ts.map plq) (List.mem_map_of_mem (f := fun v : VeV => v.ts.map plq) hv)
   have h5 := fun t (ht : t ∈ v.ts) => h3 (plq t) (List.mem_map_of_mem ht)
   exact ⟨fun t ht => ⟨(h5 t ht).1, (h5 t ht).2.1⟩, (List.pairwise_map (f := plq) (R := fun p q : Int × Rat => p.1 < q.1)).1 h4, fun t ht => (h5 t ht).2.2, fun t ht => (show LsR 5 tecells teN v.A v.ts V from hN.rows.ok v hv).ok t ht⟩
 ·exact .inr (.inr (.inl ⟨hk, hP, List.map_eq_nil_iff.1 hr, List.map_eq_nil_iff.1 hb, List.map_eq_nil_iff.1 hg⟩))
 ·refine .inr (.inr (.inr ⟨hk, hP, ⟨List.map_eq_nil_iff.1 hr, List.map_eq_nil_iff.1 hb⟩, fun e => hg (List.map_eq_nil_iff.2 e), fun g hm => ?_⟩))
  exact hg2 g.l (List.mem_map_of_mem (f := GrV.l) hm)
theorem same_rows : (sameQ l).rows.length = l.rows.length := by
 show (l.rows.map fun v => (v.ts.map plq).filter nzP).length = _
 rw [List.length_map]
theorem fitsq_of (h : Fits w l n) : FitsQ (lowQ l) n := by
 unfold lowQ
 by_cases hk : l.kind = 2
 ·rw [if_pos hk]
  have hc := convP_of h hk
  refine ⟨rfl, rfl, .inl ⟨rfl, rfl, fun e => ?_, convQ_len.1.trans convQ_len.2.symm, fun r hr => ⟨fun p hp => ?_, (convQ_row hc hr).1⟩⟩⟩
  ·have h1 := congrArg List.length e
   rw [convQ_len.1] at h1
   have h2 := (conv_un hc).2.2.2.2.2
   have h3 : 0 < dN l.q 3 * qR l.q * qC l.q := Nat.mul_pos (Nat.mul_pos h2 (by unfold qR; exact Nat.succ_pos _)) (by unfold qC; exact Nat.succ_pos _)
   rw [h1] at h3
   exact absurd h3 (by decide)
  ·obtain ⟨h1, h2, h3, -⟩ := (convQ_row hc hr).2.1 p hp
   exact ⟨h1, h2, h3⟩
 ·rw [if_neg hk]
  rcases h with ⟨k, h⟩ | ⟨k, -⟩ | ⟨k, hp, hr, hb, hg⟩ | ⟨k, h⟩
  ·obtain ⟨h1, h2⟩ := plain_q h.p
   refine ⟨h1, h2, .inl ⟨k, ?_, fun e => h.r (List.map_eq_nil_iff.1 e), ?_, fun r hr => ?_⟩⟩
   ·show l.grs.map _ = []
    rw [h.g]; rfl
   ·rw [same_rows]
    show _ = (l.bias.map _).length
    rw [List.length_map]; exact h.b
   ·obtain ⟨v, hv, rfl⟩ := List.mem_map.1 hr
    have hR := h.er v hv
    refine ⟨fun p hp => ?_, List.Pairwise.filter _ ((List.pairwise_map (f := plq) (R := fun p q : Int × Rat => p.1 < q.1)).2 hR.rise)⟩
    obtain ⟨hp, hz⟩ := List.mem_filter.1 hp
    obtain ⟨t, ht, rfl⟩ := List.mem_map.1 hp
    exact ⟨(hR.rng t ht).1, (hR.rng t ht).2, hz⟩
  ·exact absurd k hk
  ·obtain ⟨h1, h2⟩ := plain_q hp
   refine ⟨h1, h2, .inr (.inl ⟨k, ?_, ?_, ?_⟩)⟩
   ·show l.rows.map _ = []
    rw [hr]; rfl
   ·show l.bias.map _ = []
    rw [hb]; rfl
   ·show l.grs.map _ = []
    rw [hg]; rfl
  ·obtain ⟨h1, h2⟩ := plain_q h.p
   refine ⟨h1, h2, .inr (.inr ⟨k, ?_, ?_, fun e => h.g (List.map_eq_nil_iff.1 e), fun g hg => ?_⟩)⟩
   ·show l.rows.map _ = []
    rw [h.r.1]; rfl
   ·show l.bias.map _ = []
    rw [h.r.2]; rfl
   ·obtain ⟨u, hu, rfl⟩ := List.mem_map.1 hg
    exact h.eg u hu
theorem units_y (h : FitsQ y.q n) : unitsQ y n = unitsq y.q n ∧ termsQ y = termsq y.q ∧ ¬ y.kind = 2 := by
 have hk : y.kind = 1 ∨ y.kind = 3 ∨ y.kind = 4 := by
  rcases h.2.2 with ⟨h, -⟩ | ⟨h, -⟩ | ⟨h, -⟩
  ·exact .inl h
  ·exact .inr (.inl h)
  ·exact .inr (.inr h)
 have e1 : y.q.rows.length = y.rows.length := List.length_map _
 have e2 : y.q.grs.length = y.grs.length := List.length_map _
 have e3 : (y.q.rows.map fun r => (r.length : Int)).sum = veS y.rows := by
  show ((y.rows.map fun v => v.ts.map plq).map fun r => (r.length : Int)).sum = _
  rw [List.map_map]
  refine congrArg List.sum (List.map_congr_left fun v _ => ?_)
  show ((v.ts.map plq).length : Int) = _
  rw [List.length_map]
 have e4 : (y.q.grs.map fun g => (g.length : Int)).sum = grS y.grs := by
  show ((y.grs.map GrV.l).map fun r => (r.length : Int)).sum = _
  rw [List.map_map]; rfl
 unfold unitsQ unitsq termsQ termsq
 rw [e1, e2, e3, e4, show y.q.kind = y.kind from rfl]
 unfold veS grS
 rcases hk with hk | hk | hk <;> simp [hk]
theorem sum_le {α : Type} {f g : α → Int} : ∀ {l : List α}, (∀ x ∈ l, f x ≤ g x) → (l.map f).sum ≤ (l.map g).sum
 | [], _ => Int.le_refl _
 | x :: l, h => by
  rw [List.map_cons, List.map_cons, List.sum_cons, List.sum_cons]
  have h1 := h x (List.mem_cons_self ..)
  have h2 := sum_le fun y hy => h y (List.mem_cons_of_mem _ hy)
  omega
theorem sum_le2 {α : Type} {f : α → Int} {E : Nat} : ∀ {l : List α}, (∀ x ∈ l, f x ≤ E) → (l.map f).sum ≤ (l.length : Int) * E
 | [], _ => by simp
 | x :: l, h => by
  rw [List.map_cons, List.sum_cons, List.length_cons]
  have h1 := h x (List.mem_cons_self ..)
  have h2 := sum_le2 fun y hy => h y (List.mem_cons_of_mem _ hy)
  rw [Int.natCast_add, Int.add_mul]
  omega
theorem conv_E (h : ConvP w l n) : ((dN l.q 0 * dN l.q 4 * dN l.q 5 : Nat) : Int) = l.ch * l.kh * l.kw := by
 have hz := h.s
 unfold side at hz
 have e0 : ((dN l.q 0 : Nat) : Int) = l.ch := show ((l.ch.toNat : Nat) : Int) = l.ch from Int.toNat_of_nonneg (by omega)
 have e1 : ((dN l.q 4 : Nat) : Int) = l.kh := show ((l.kh.toNat : Nat) : Int) = l.kh from Int.toNat_of_nonneg (by omega)
 have e2 : ((dN l.q 5 : Nat) : Int) = l.kw := show ((l.kw.toNat : Nat) : Int) = l.kw from Int.toNat_of_nonneg (by omega)
 rw [Int.natCast_mul, Int.natCast_mul, e0, e1, e2]
theorem units_low (h : Fits w l n) : unitsq (lowQ l) n = unitsQ l n ∧ termsq (lowQ l) ≤ termsQ l := by
 unfold lowQ
 by_cases hk : l.kind = 2
 ·have hc := convP_of h hk
  rw [if_pos hk]
  unfold unitsq termsq unitsQ termsQ
  rw [if_pos (show (convQ l).kind = 1 from rfl), if_pos (show (convQ l).kind = 1 from rfl), if_neg (by omega), if_pos hk, if_neg (by omega), if_pos hk, convQ_len.1, (conv_un hc).1]
  refine ⟨rfl, ?_⟩
  have h1 := sum_le2 (f := fun r : List (Int × Rat) => (r.length : Int)) (E := dN l.q 0 * dN l.q 4 * dN l.q 5) (l := (convQ l).rows) fun r hr => by have := (convQ_row hc hr).2.2; omega
  rw [convQ_len.1, (conv_un hc).1, conv_E hc] at h1
  exact h1
 ·rw [if_neg hk]
  unfold unitsq termsq unitsQ termsQ
  have e2 : (sameQ l).grs.length = l.grs.length := by
   show (l.grs.map GrV.l).length = _
   rw [List.length_map]
  have e3 : ((sameQ l).rows.map fun r => (r.length : Int)).sum ≤ (l.rows.map fun v => (v.ts.length : Int)).sum := by
   show ((l.rows.map fun v => (v.ts.map plq).filter nzP).map fun r => (r.length : Int)).sum ≤ _
   rw [List.map_map]
   refine sum_le fun v _ => ?_
   show (((v.ts.map plq).filter nzP).length : Int) ≤ _
   have := List.length_filter_le nzP (v.ts.map plq)
   rw [List.length_map] at this
   omega
  have e4 : ((sameQ l).grs.map fun g => (g.length : Int)).sum = (l.grs.map fun g => (g.l.length : Int)).sum := by
   show ((l.grs.map GrV.l).map fun r => (r.length : Int)).sum = _
   rw [List.map_map]; rfl
  rw [same_rows, e2, e4, show (sameQ l).kind = l.kind from rfl]
  rcases h with ⟨k, -⟩ | ⟨k, -⟩ | ⟨k, -⟩ | ⟨k, -⟩
  ·simp only [k, if_true]; exact ⟨trivial, e3⟩
  ·exact absurd k hk
  ·simp [k]
  ·simp [k]
end
theorem chk_low {w V : World} : ∀ {las ls : List LaV} {n s s' : Int}, ls.map LaG.q = las.map lowQ → (∀ y ∈ ls, LaN y V) → s' ≤ s → ChkP w las n s 0 → ChkP V ls n s' 0 ∧ unitsL ls n = unitsL las n
 | [], [], _, _, _, _, _, _, _ => ⟨rfl, rfl⟩
 | [], _ :: _, _, _, _, e, _, _, _ => by simp at e
 | _ :: _, [], _, _, _, e, _, _, _ => by simp at e
 | l :: las, y :: ls, n, s, s', e, hN, hs, h => by
  rw [List.map_cons, List.map_cons] at e
  obtain ⟨e1, e2⟩ := List.cons.inj e
  rcases h with ⟨-, h⟩ | ⟨hF, ⟨-, h⟩ | ⟨hb, h⟩⟩
  ·omega
  ·omega
  ·have hQ : FitsQ y.q n := by rw [e1]; exact fitsq_of hF
   have hY := fitsq_y hQ (hN y (List.mem_cons_self ..))
   obtain ⟨u1, t1, -⟩ := units_y hQ
   obtain ⟨u2, t2⟩ := units_low hF
   rw [e1] at u1 t1
   have hu : unitsQ y n = unitsQ l n := u1.trans u2
   obtain ⟨h3, h4⟩ := chk_low (s' := s' + termsQ y) e2 (fun z hz => hN z (List.mem_cons_of_mem _ hz)) (by omega) h
   rw [ChkP, unitsL, unitsL, hu]
   exact ⟨.inr ⟨hY, .inr ⟨by omega, h3⟩⟩, by rw [h4]⟩
theorem lowQ_kind (l : LaV) : ¬ (lowQ l).kind = 2 := by
 unfold lowQ
 split
 ·exact fun e => absurd (show (1 : Int) = 2 from e) (by decide)
 ·rename_i h; exact h
theorem net_low {w V : World} {f : NeV} {A : Option Addr} {c : Nat} {ls : List LaV} (h : NetP w f 0) (e : ls.map LaG.q = f.las.map lowQ) (hN : ∀ y ∈ ls, LaN y V) : NetP V ⟨f.inputs, A, c, ls⟩ 0 ∧ unitsL ls f.inputs = unitsL f.las f.inputs := by
 have e1 : ls.length = f.las.length := by simpa using congrArg List.length e
 rcases h with ⟨-, h⟩ | ⟨h1, h2⟩
 ·omega
 ·obtain ⟨h3, h4⟩ := chk_low (s' := 0) e hN (Int.le_refl _) h2
  refine ⟨.inr ⟨⟨h1.1, h1.2.1, ?_⟩, h3⟩, h4⟩
  show ls.length ≤ 16
  rw [e1]; exact h1.2.2
theorem LQ.Ln.s {y : LaV} (h : y.q.Ln) : LaS y := by
 have e1 : y.q.rows.length = y.rows.length := List.length_map _
 have e2 : y.q.bias.length = y.bias.length := List.length_map _
 have e3 : y.q.kern.length = y.kern.length := List.length_map _
 have e4 : y.q.grs.length = y.grs.length := List.length_map _
 refine ⟨by have := h.rows; omega, fun v hv => ?_, by have := h.bias; omega, by have := h.kern; omega, by have := h.grs; omega, fun g hg => h.gr g.l (List.mem_map_of_mem (f := GrV.l) hg)⟩
 have h1 := h.row (v.ts.map plq) (List.mem_map_of_mem (f := fun v : VeV => v.ts.map plq) hv)
 rwa [List.length_map] at h1
theorem LaN.d {y : LaV} {V : World} {n : Nat} (h : LaN y V) (hs : y.q.Sz' n) : LaD n y V := by
 refine ⟨⟨h.rows.el, fun v hv => ?_⟩, ⟨h.bias.el, fun p hp => ?_⟩, ⟨h.kern.el, fun p hp => ?_⟩, h.grs⟩
 ·have h1 : LsR 5 tecells teN v.A v.ts V := h.rows.ok v hv
  exact ⟨h1.el, fun t ht => (show RatN t.r t.q V from h1.ok t ht).rat (hs.rows (v.ts.map plq) (List.mem_map_of_mem (f := fun v : VeV => v.ts.map plq) hv) (plq t) (List.mem_map_of_mem ht))⟩
 ·exact (show RatN p.1 p.2 V from h.bias.ok p hp).rat (hs.bias _ (List.mem_map_of_mem hp))
 ·exact (show RatN p.1 p.2 V from h.kern.ok p hp).rat (hs.kern _ (List.mem_map_of_mem hp))

structure SayIn (w : World) (f : NeV) (xs : List (RV × Rat)) : Prop where
 d : NeD 1 f w
 n : f.las.length ≤ 6
 say : ∀ l ∈ f.las, SayOk l
 cap : ∀ l ∈ f.las, CapG l
 x : xs.length ≤ 30
 z : ∀ p ∈ xs, Sz p.2 1
structure LowM (f : NeV) (ls : List LaV) : Prop where
 q : ls.map LaG.q = f.las.map lowQ
 cap : ∀ l ∈ ls, CapG l
def trL (f : NeV) (xs : List (RV × Rat)) : List (List Rat) := if f.inputs = (xs.length : Int) then trQ (f.las.map LaG.q) (xs.map Prod.snd) else []
theorem fits_of {w : World} {f : NeV} (h : NetP w f 0) : FitsL w f.las f.inputs := by
 rcases h with ⟨-, h⟩ | ⟨-, h⟩
 ·omega
 ·exact h.fits
theorem SayOk.ln {l : LaV} (h : SayOk l) : l.q.Ln :=
 ⟨by have := h.rows; omega, fun r hr => by have := h.row r hr; omega, by have := h.bias; omega, by have := h.kern; omega, by have := h.grs; omega, fun g hg => by have := h.gr g hg; omega⟩
theorem low_ok {w : World} {ls : List LaV} {n : Int} (h : FitsL w ls n) (hs : ∀ l ∈ ls, SayOk l) : ∀ l ∈ ls, LowOk l :=
 fits_low h fun l hl => ⟨(hs l hl).ln.s, by have := kern_l (hs l hl); omega⟩
theorem tr_len {w : World} : ∀ {ls : List LaV} {xs : List Rat}, FitsL w ls (xs.length : Int) → xs.length ≤ 256 → ∀ i, i ≤ ls.length → (trAt (ls.map LaG.q) xs i).length ≤ 256
 | _, _, _, hx, 0, _ => hx
 | l :: ls, xs, h, hx, i + 1, hi => by
  have e := says_len h.1 rfl
  have h2 := h.2.2
  rw [← e] at h2
  rw [List.map_cons, trAt_cons]
  exact tr_len (xs := saysR l.q xs) h2 (by have := h.2.1; omega) i (by simpa using hi)
section
variable {w : World} {f : NeV} {xs : List (RV × Rat)} {ls : List LaV} {A : Option Addr} {c n2 nl : Nat}
theorem SayIn.cd (h : SayIn w f xs) (hF : FitsL w f.las (xs.length : Int)) (i : Nat) (hi : i ≤ f.las.length) : ∃ D M, 0 < D ∧ D ≤ M ∧ M < B64 ^ (32 + 703 * i) ∧ ∀ x ∈ trAt (f.las.map LaG.q) (xs.map Prod.snd) i, Cd D M x := by
 have hz : ∀ q ∈ xs.map Prod.snd, Sz q 1 := fun q hq => by
  obtain ⟨p, hp, rfl⟩ := List.mem_map.1 hq
  exact h.z p hp
 have e : (xs.map Prod.snd).length = xs.length := List.length_map _
 refine tr_cd (D0 := dprod (xs.map Prod.snd)) (M0 := B64 * dprod (xs.map Prod.snd)) (by rw [e]; exact hF) (by have := h.x; omega) h.say (dprod_pos _) (Nat.le_mul_of_pos_left _ B64_pos) ?_ (fun x hx => .of (dprod_mem hx) (hz x hx)) i hi
 have h1 : dprod (xs.map Prod.snd) ≤ B64 ^ 30 := Nat.le_trans (dprod_le hz) (Nat.pow_le_pow_right B64_pos (by have := h.x; omega))
 have h2 : B64 * dprod (xs.map Prod.snd) ≤ B64 * B64 ^ 30 := Nat.mul_le_mul_left _ h1
 have h3 : B64 * B64 ^ 30 < B64 ^ 32 := by decide
 omega
theorem pow_le {a b : Nat} (h : a ≤ b) : B64 ^ a ≤ B64 ^ b := Nat.pow_le_pow_right B64_pos h
theorem SayIn.st9 (N9 : Nat) (hN9 : N9 = 5000) (h : SayIn w f xs) (hN : NetP w f 0) (hx : f.inputs = (xs.length : Int)) (i : Nat) (hi : i < f.las.length) : StOk N9 f.las[i] (trAt (f.las.map LaG.q) (xs.map Prod.snd) i) := by
 have hF := fits_of hN
 rw [hx] at hF
 obtain ⟨D, M, k1, k2, k3, k4⟩ := h.cd hF i (by omega)
 have hF' : FitsL w f.las (((xs.map Prod.snd).length : Nat) : Int) := by rw [List.length_map]; exact hF
 obtain ⟨t1, t2, t3⟩ := fits_tr hF' (by rw [List.length_map]; have := h.x; omega) i hi
 have hs := h.say _ (List.getElem_mem hi)
 refine QOk.st (fits_q t1 hs) (by omega) (h.cap _ (List.getElem_mem hi)) (fun hk => ?_) hs.cd (dprod_pos _) (Nat.le_mul_of_pos_left _ B64_pos) k1 k2 k4 (Nat.lt_of_lt_of_le (pow_step k3 hs.e) (pow_le (by have := h.n; omega)))
 exact ⟨(low_ok hF h.say _ (List.getElem_mem hi)).c hk, (convP_of t1 hk).n.symm, conv_L (convP_of t1 hk) (by have := kern_l hs; omega)⟩
theorem SayIn.st (h : SayIn w f xs) (hN : NetP w f 0) (hx : f.inputs = (xs.length : Int)) (i : Nat) (hi : i < f.las.length) : StOk 5000 f.las[i] (trAt (f.las.map LaG.q) (xs.map Prod.snd) i) := SayIn.st9 5000 rfl h hN hx i hi
theorem LowM.n (h : LowM f ls) : ls.length = f.las.length := by simpa using congrArg List.length h.q
theorem LowM.at_ (h : LowM f ls) (i : Nat) (hi : i < ls.length) (hi2 : i < f.las.length) : (ls[i]).q = lowQ f.las[i] := (map_at h.q).2 i hi hi2
theorem LowM.st9 (N9 : Nat) (hN9 : N9 = 5000) (h : LowM f ls) (hS : SayIn w f xs) (hN : NetP w f 0) (hx : f.inputs = (xs.length : Int)) (i : Nat) (hi : i < ls.length) : StOk N9 ls[i] (trAt (ls.map LaG.q) (xs.map Prod.snd) i) := by
 have hi2 : i < f.las.length := by rw [← h.n]; exact hi
 have hF := fits_of hN
 rw [hx] at hF
 have hF' : FitsL w f.las (((xs.map Prod.snd).length : Nat) : Int) := by rw [List.length_map]; exact hF
 rw [h.q, tr_low hF']
 obtain ⟨D, M, k1, k2, k3, k4⟩ := hS.cd hF i (by omega)
 obtain ⟨t1, t2, t3⟩ := fits_tr hF' (by rw [List.length_map]; have := hS.x; omega) i hi2
 have hs := hS.say _ (List.getElem_mem hi2)
 have e := h.at_ i hi hi2
 refine QOk.st (by rw [e]; exact low_q t1 t3 hs) (by omega) (h.cap _ (List.getElem_mem hi)) (fun hk => ?_) (by rw [e]; exact low_cd t1 hs hs.cd) (dprod_pos _) (Nat.le_mul_of_pos_left _ B64_pos) k1 k2 k4 (Nat.lt_of_lt_of_le (pow_step k3 hs.e) (pow_le (by have := hS.n; omega)))
 have h1 : (ls[i]).q.kind = 2 := hk
 rw [e] at h1
 exact absurd h1 (lowQ_kind _)
theorem LowM.st (h : LowM f ls) (hS : SayIn w f xs) (hN : NetP w f 0) (hx : f.inputs = (xs.length : Int)) (i : Nat) (hi : i < ls.length) : StOk 5000 ls[i] (trAt (ls.map LaG.q) (xs.map Prod.snd) i) := LowM.st9 5000 rfl h hS hN hx i hi
theorem tr_all9 (N9 : Nat) (hN9 : N9 = 5000) (hS : SayIn w f xs) (hN : NetP w f 0) : ∀ L ∈ trL f xs, L.length ≤ 256 ∧ ∀ q ∈ L, Sz q N9 := by
 intro L hL
 unfold trL at hL
 split at hL
 ·rename_i hx
  have hF := fits_of hN
  rw [hx] at hF
  have hF' : FitsL w f.las (((xs.map Prod.snd).length : Nat) : Int) := by rw [List.length_map]; exact hF
  obtain ⟨i, hi, rfl⟩ := List.mem_map.1 hL
  rw [List.mem_range, List.length_map] at hi
  obtain ⟨D, M, k1, k2, k3, k4⟩ := hS.cd hF i (by omega)
  refine ⟨tr_len hF' (by rw [List.length_map]; have := hS.x; omega) i (by omega), fun q hq => (k4 q hq).sz k1 k2 (Nat.lt_of_lt_of_le k3 (pow_le (by have := hS.n; omega)))⟩
 ·cases hL
theorem tr_all (hS : SayIn w f xs) (hN : NetP w f 0) : ∀ L ∈ trL f xs, L.length ≤ 256 ∧ ∀ q ∈ L, Sz q 5000 := tr_all9 5000 rfl hS hN
theorem LowM.ok (h : LowM f ls) (hS : SayIn w f xs) (hN : NetP w f 0) : ∀ y ∈ ls, y.q.Sz' 1 ∧ y.q.Ln ∧ ¬ y.kind = 2 ∧ y.kern.length ≤ 1000 := fun y hy => by
 have h1 : y.q ∈ f.las.map lowQ := by rw [← h.q]; exact List.mem_map_of_mem hy
 obtain ⟨l, hl, e⟩ := List.mem_map.1 h1
 have h2 := lowQ_sz (hS.say l hl).sz (Nat.le_refl 1)
 have h3 := lowQ_ln (low_ok (fits_of hN) hS.say l hl)
 have h4 := lowQ_kind l
 have h5 : (lowQ l).kern.length ≤ 1000 := by
  unfold lowQ
  split
  ·exact Nat.zero_le _
  ·have := (hS.say l hl).kern
   exact Nat.le_trans this (by decide)
 rw [e] at h2 h3 h4 h5
 exact ⟨h2, h3, h4, by rwa [show y.q.kern.length = y.kern.length from List.length_map _] at h5⟩
theorem LowM.d (h : LowM f ls) (hS : SayIn w f xs) (hN : NetP w f 0) {V : World} (hV : LsR 13 lacells LaN A ls V) : NeD 1 ⟨f.inputs, A, c, ls⟩ V := ⟨hV.el, fun y hy => LaN.d (hV.ok y hy) (h.ok hS hN y hy).1⟩
theorem LowM.s (h : LowM f ls) (hS : SayIn w f xs) (hN : NetP w f 0) : NeS ⟨f.inputs, A, c, ls⟩ := ⟨by show ls.length ≤ _; rw [h.n]; have := hS.n; omega, fun y hy => (h.ok hS hN y hy).2.1.s⟩
theorem SayIn.s (hS : SayIn w f xs) : NeS f := ⟨by have := hS.n; omega, fun l hl => (hS.say l hl).ln.s⟩
theorem LowM.net (h : LowM f ls) (hN : NetP w f 0) {V : World} (hV : LsR 13 lacells LaN A ls V) : NetP V ⟨f.inputs, A, c, ls⟩ 0 ∧ unitsL ls f.inputs = unitsL f.las f.inputs := net_low hN h.q hV.ok
section
variable (hM : LowM f ls) (hS : SayIn w f xs) (hN : NetP w f 0) {V : World} (hT : Tz V)
include hM hS hN hT
end
end
theorem rats_say (w : World) (u v : RsV) (h : rsN u w) (h2 : rsN v w) (e : u.q = v.q) (hl : u.l.length ≤ 1000000) (hz : ∀ q ∈ u.q, Sz q 5000) : Calls Tryz.prog 14 #[.slice u.A u.l.length u.c, .slice v.A v.l.length v.c] w fun e w' => e = .returned (.bool true) ∧ Below w.heap.size w w' := by
 have e0 : u.l.map Prod.snd = v.l.map Prod.snd := e
 have hz1 : ∀ p ∈ u.l, Sz p.2 5000 := fun p hp => hz _ (List.mem_map_of_mem (f := Prod.snd) hp)
 have hz2 : ∀ p ∈ v.l, Sz p.2 5000 := fun p hp => hz _ (by rw [e]; exact List.mem_map_of_mem (f := Prod.snd) hp)
 refine same_SameRats w u.A v.A u.c v.c _ _ (num_F (f := fN) h fun p hp h9 => RatN.w h9 (hz1 p hp) (by decide)) (num_F (f := fN) h2 fun p hp h9 => RatN.w h9 (hz2 p hp) (by decide)) (by rw [List.length_map]; exact hl) ?_ _ _ (by rw [List.length_map]) (by rw [List.length_map])
 have e2 := congrArg (List.map wdN) e0
 simp only [List.map_map] at e2 ⊢
 exact e2
end Go.Proofs.YtplhmeiciiajcaaGreatDoor
