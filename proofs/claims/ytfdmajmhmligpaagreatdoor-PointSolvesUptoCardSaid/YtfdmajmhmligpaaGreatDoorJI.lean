/-
 tripwirelaw16.awake. The law of PointSolves over what its parts tell (plain law).
-/
import Derived.Test.YtfdmajmhmligpaaGreatDoorJG
import Derived.Test.YtfdmajmhmligpaaGreatDoorPH
import Derived.Test.YtfdmajmhmligpaaGreatDoorIB
namespace Go.Proofs.YtfdmajmhmligpaaGreatDoor
set_option maxHeartbeats 4000000
open Go.RowKit

theorem Env.nm {w W : World} {bs : List Bo} {old new : World → Prop} (h : Env w bs old new W) : ∃ W2, W = W2 ∧ Hid (Env w bs old new W2) := ⟨W, rfl, znd h⟩
set_option maxRecDepth 100000 in
theorem zd7 (w : World) (hT : Tz w) : Calls Tryz.prog 7 #[] w fun e w' => e = .returned (.bool true) ∧ Below w.heap.size w w' := by
 have HE := znd (Env.start hT.old)
 clear hT
 go_enter Tryz.func7, Tryz.ntmps7
 go_wp2_with fail
 refine (ziZ _ HE.out.o).mono ?_
 rintro e w1 ⟨p, rfl, hp⟩
 rw [p.agg_eq]
 replace HE := znd ((((Env.join HE.out hp).read).read).imp (φ := Tz) (ψ := fun V => FoD 4 p.f V ∧ FRight p.f V) (fun _ h => h) (fun V h => ⟨PlK.fod h.2.2.1 h.1 h.2.1, PlK.fri h.2.2.1⟩))
 clear hp
 go_upto_region 2 with fail
 obtain ⟨W2, g0, hW, hg, HE2⟩ := Env.al (show Env w [] Tz (fun V => FoD 4 p.f V ∧ FRight p.f V) w1 from HE.out) 32 #[.int .i64 1, .slice (some ⟨p.gc, 0, none⟩) 2 2, .slice (some ⟨p.gl, 0, none⟩) 2 2, .slice (some ⟨p.gh, 0, none⟩) 2 2, .slice (some ⟨p.gk, 0, none⟩) 2 2, .slice (some ⟨p.gb, 0, none⟩) 1 1]
 rw [hW, hg]
 clear hW hg HE
 have HE := znd (HE2.out.read)
 clear HE2
 have c := Blk.cb (HE.out.n.1)
 go_wp2_with fail
 refine (zjR _ p ⟨(HE.out.n.2).1, (HE.out.n.2).2, HE.out.o⟩).mono ?_
 rintro e wn ⟨S, rfl, hk, hb⟩
 replace HE := znd (Env.ret HE.out hk hb)
 clear hk hb
 replace c := Blk.cb (HE.out.n.2.1)
 go_wp2_with fail
 refine (zkY _ p ⟨(HE.out.n.2.2).1, (HE.out.n.2.2).2, HE.out.o⟩ p.isb2 (fun _ h => PlK.val2 h) rfl S 2 (HE.out.n.1)).mono ?_
 rintro e wn ⟨X, dx, kx, lx, rfl, hk, hb⟩
 replace HE := znd (Env.ret HE.out hk hb)
 clear hk hb
 replace c := Blk.cb (HE.out.n.2.2.1)
 go_wp2_with fail
 obtain ⟨W, g1, hW, hg, HE2⟩ := Env.al HE.out 51 #[.int .u8 0, .int .u8 1]
 rw [hW, hg]
 clear hW hg HE
 have HE := znd (HE2.out.read)
 clear HE2
 replace c := Blk.cb (HE.out.n.2.2.2.1)
 refine (zl5 _ p ⟨(HE.out.n.2.2.2.2).1, (HE.out.n.2.2.2.2).2, HE.out.o⟩ (some ⟨g1, 0, none⟩) 2 (sts2 (HE.out.n.1))).mono ?_
 rintro e wn ⟨Y, dy, D, ky, id, jd, rfl, hk, hb⟩
 replace HE := znd (Env.ret HE.out hk hb)
 clear hk hb
 replace c := Blk.cb (HE.out.n.2.2.2.2.1)
 go_wp2_with fail
 obtain ⟨W, g2, hW, hg, HE2⟩ := Env.al HE.out 51 #[.int .u8 0, .int .u8 1]
 rw [hW, hg]
 clear hW hg HE
 have HE := znd (HE2.out.read)
 clear HE2
 replace c := Blk.cb (HE.out.n.2.2.2.2.2.1)
 refine (zkY _ p ⟨(HE.out.n.2.2.2.2.2.2).1, (HE.out.n.2.2.2.2.2.2).2, HE.out.o⟩ p.isb0 (fun _ h => PlK.val0 h) rfl (some ⟨g2, 0, none⟩) 2 (sts2 (HE.out.n.1))).mono ?_
 rintro e wn ⟨Z, dz, kz, lz, rfl, hk, hb⟩
 replace HE := znd (Env.ret HE.out hk hb)
 clear hk hb
 replace c := Blk.cb (HE.out.n.2.2.2.2.2.2.1)
 go_wp2_with fail
 obtain ⟨W, g3, hW, hg, HE2⟩ := Env.al HE.out 51 #[.int .u8 0, .int .u8 0]
 rw [hW, hg]
 clear hW hg HE
 have HE := znd (HE2.out.read)
 clear HE2
 replace c := Blk.cb (HE.out.n.2.2.2.2.2.2.2.1)
 refine (zlZ _ p ⟨(HE.out.n.2.2.2.2.2.2.2.2).1, (HE.out.n.2.2.2.2.2.2.2.2).2, HE.out.o⟩ p.isn rfl (some ⟨g3, 0, none⟩) 2 (sts2 (HE.out.n.1))).mono ?_
 rintro e wn ⟨rfl, hb⟩
 replace HE := znd (Env.call HE.out hb)
 clear hb
 replace c := Blk.cb (HE.out.n.2.2.2.2.2.2.2.1)
 go_wp2_with fail
 obtain ⟨W, g4, hW, hg, HE2⟩ := Env.al HE.out 51 #[.int .u8 2, .int .u8 0]
 rw [hW, hg]
 clear hW hg HE
 have HE := znd (HE2.out.read)
 clear HE2
 replace c := Blk.cb (HE.out.n.2.2.2.2.2.2.2.2.1)
 refine (zkk _ S (some ⟨g4, 0, none⟩) 2 2 [2, 0] (by decide) (HE.out.n.2.2.2.2.2.2.2.1) (sts2 (HE.out.n.1))).mono ?_
 rintro e wn ⟨rfl, hb⟩
 replace HE := znd (Env.call HE.out hb)
 clear hb
 replace c := Blk.cb (HE.out.n.2.2.2.2.2.2.2.2.1)
 go_wp2_with fail
 refine (zbC _ (3) (3) (by decide +kernel) (by decide) (by decide) HE.out.o).mono ?_
 rintro e wn ⟨n3, rfl, hk, hb⟩
 replace HE := znd (Env.ret HE.out hk hb)
 clear hk hb
 replace c := Blk.cb (HE.out.n.2.2.2.2.2.2.2.2.2.1)
 go_wp2_with fail
 refine (zbC _ (1) (1) (by decide +kernel) (by decide) (by decide) HE.out.o).mono ?_
 rintro e wn ⟨n1, rfl, hk, hb⟩
 replace HE := znd (Env.ret HE.out hk hb)
 clear hk hb
 replace c := Blk.cb (HE.out.n.2.2.2.2.2.2.2.2.2.2.1)
 go_wp2_with fail
 obtain ⟨W, g5, hW, hg, HE2⟩ := Env.al HE.out 48 #[.bool n3.num.neg, .slice n3.num.A n3.num.k n3.num.c, .bool n3.den.neg, .slice n3.den.A n3.den.k n3.den.c, .bool n1.num.neg, .slice n1.num.A n1.num.k n1.num.c, .bool n1.den.neg, .slice n1.den.A n1.den.k n1.den.c]
 rw [hW, hg]
 clear hW hg HE
 have HE := znd (HE2.out.read)
 clear HE2
 replace c := Blk.cb (HE.out.n.2.2.2.2.2.2.2.2.2.2.2.1)
 refine (zex _ X dx 2 g5 48 kx lx n3 n1 (3) (1) zmT zlr (HE.out.n.2.2.2.2.2.2.2.2.2.1) (HE.out.n.1) (HE.out.n.2.2.1) (HE.out.n.2.1)).mono ?_
 rintro e wn ⟨rfl, hb⟩
 replace HE := znd (Env.call HE.out hb)
 clear hb
 replace c := Blk.cb (HE.out.n.2.2.2.2.2.2.2.2.2.2.2.1)
 go_wp2_with fail
 refine (ziE _ p ⟨(HE.out.n.2.2.2.2.2.2.2.2.2.2.2.2).1, (HE.out.n.2.2.2.2.2.2.2.2.2.2.2.2).2, HE.out.o⟩ S 2 (HE.out.n.2.2.2.2.2.2.2.2.2.2.1)).mono ?_
 rintro e wn ⟨rfl, hb⟩
 replace HE := znd (Env.call HE.out hb)
 clear hb
 replace c := Blk.cb (HE.out.n.2.2.2.2.2.2.2.2.2.2.2.1)
 go_wp2_with fail
 refine (zln _ p ⟨(HE.out.n.2.2.2.2.2.2.2.2.2.2.2.2).1, (HE.out.n.2.2.2.2.2.2.2.2.2.2.2.2).2, HE.out.o⟩ X dx kx lx (HE.out.n.2.2.2.2.2.2.2.2.2.1)).mono ?_
 rintro e wn ⟨rfl, hb⟩
 replace HE := znd (Env.call HE.out hb)
 clear hb
 replace c := Blk.cb (HE.out.n.2.2.2.2.2.2.2.2.2.2.2.1)
 go_wp2_with fail
 refine (zbC _ (-1) (-1) (by decide +kernel) (by decide) (by decide) HE.out.o).mono ?_
 rintro e wn ⟨nm, rfl, hk, hb⟩
 replace HE := znd (Env.ret HE.out hk hb)
 clear hk hb
 replace c := Blk.cb (HE.out.n.2.2.2.2.2.2.2.2.2.2.2.2.1)
 go_wp2_with fail
 obtain ⟨W, g6, hW, hg, HE2⟩ := Env.al HE.out 48 #[.bool nm.num.neg, .slice nm.num.A nm.num.k nm.num.c, .bool nm.den.neg, .slice nm.den.A nm.den.k nm.den.c]
 rw [hW, hg]
 clear hW hg HE
 have HE := znd (HE2.out.read)
 clear HE2
 replace c := Blk.cb (HE.out.n.2.2.2.2.2.2.2.2.2.2.2.2.2.1)
 refine (zkv _ Y dy 1 g6 48 ky nm (-1) zmZ (HE.out.n.2.2.2.2.2.2.2.2.2.1).1 (HE.out.n.1) (HE.out.n.2.1)).mono ?_
 rintro e wn ⟨rfl, hb⟩
 replace HE := znd (Env.call HE.out hb)
 clear hb
 replace c := Blk.cb (HE.out.n.2.2.2.2.2.2.2.2.2.2.2.2.2.1)
 go_wp2_with fail
 refine (zbC _ (1) (1) (by decide +kernel) (by decide) (by decide) HE.out.o).mono ?_
 rintro e wn ⟨n1b, rfl, hk, hb⟩
 replace HE := znd (Env.ret HE.out hk hb)
 clear hk hb
 replace c := Blk.cb (HE.out.n.2.2.2.2.2.2.2.2.2.2.2.2.2.2.1)
 go_wp2_with fail
 obtain ⟨W, g7, hW, hg, HE2⟩ := Env.al HE.out 48 #[.bool false, .slice none 0 0, .bool false, .slice none 0 0, .bool n1b.num.neg, .slice n1b.num.A n1b.num.k n1b.num.c, .bool n1b.den.neg, .slice n1b.den.A n1b.den.k n1b.den.c]
 rw [hW, hg]
 clear hW hg HE
 have HE := znd (HE2.out.read)
 clear HE2
 replace c := Blk.cb (HE.out.n.2.2.2.2.2.2.2.2.2.2.2.2.2.2.2.1)
 refine (zex _ D 2 2 g7 48 id jd za9 n1b (0) (1) zl7 zlr ((HE.out.n.2.2.2.2.2.2.2.2.2.2.2.1).2) (HE.out.n.1) (zbX _) (HE.out.n.2.1)).mono ?_
 rintro e wn ⟨rfl, hb⟩
 replace HE := znd (Env.call HE.out hb)
 clear hb
 replace c := Blk.cb (HE.out.n.2.2.2.2.2.2.2.2.2.2.2.2.2.2.2.1)
 go_wp2_with fail
 refine (zbC _ (4) (4) (by decide +kernel) (by decide) (by decide) HE.out.o).mono ?_
 rintro e wn ⟨n4, rfl, hk, hb⟩
 replace HE := znd (Env.ret HE.out hk hb)
 clear hk hb
 replace c := Blk.cb (HE.out.n.2.2.2.2.2.2.2.2.2.2.2.2.2.2.2.2.1)
 go_wp2_with fail
 obtain ⟨W, g8, hW, hg, HE2⟩ := Env.al HE.out 48 #[.bool n4.num.neg, .slice n4.num.A n4.num.k n4.num.c, .bool n4.den.neg, .slice n4.den.A n4.den.k n4.den.c, .bool false, .slice none 0 0, .bool false, .slice none 0 0]
 rw [hW, hg]
 clear hW hg HE
 have HE := znd (HE2.out.read)
 clear HE2
 replace c := Blk.cb (HE.out.n.2.2.2.2.2.2.2.2.2.2.2.2.2.2.2.2.2.1)
 refine (zex _ Z dz 2 g8 48 kz lz n4 za9 (4) (0) zmq zl7 (HE.out.n.2.2.2.2.2.2.2.2.2.2.2.1) (HE.out.n.1) (HE.out.n.2.1) (zbX _)).mono ?_
 rintro e wn ⟨rfl, hb⟩
 replace HE := znd (Env.call HE.out hb)
 clear hb
 replace c := Blk.cb (HE.out.n.2.2.2.2.2.2.2.2.2.2.2.2.2.2.2.2.2.1)
 go_wp2_with fail
 refine (zhW _ p ⟨(HE.out.n.2.2.2.2.2.2.2.2.2.2.2.2.2.2.2.2.2.2).1, (HE.out.n.2.2.2.2.2.2.2.2.2.2.2.2.2.2.2.2.2.2).2, HE.out.o⟩ Z dz kz lz (HE.out.n.2.2.2.2.2.2.2.2.2.2.2.1)).mono ?_
 rintro e wn ⟨rfl, hb⟩
 replace HE := znd (Env.call HE.out hb)
 clear hb
 replace c := Blk.cb (HE.out.n.2.2.2.2.2.2.2.2.2.2.2.2.2.2.2.2.2.1)
 go_wp2_with fail
 exact bodyPost_ret (v := .bool true) (by simp [results, Tryz.results7, go_sem]) rfl ⟨rfl, HE.out.bel⟩

theorem RatD.cut {r : RV} {q : Rat} {n m : Nat} {w : World} (h : RatD r q n w) (h1 : r.num.k ≤ m) (h2 : r.den.k ≤ m) : RatD r q m w := by
 obtain ⟨x, d, hx, hd, hq⟩ := h.ex
 exact ⟨⟨x, d, ⟨hx.ex, hx.cap, h1⟩, ⟨hd.ex, hd.cap, h2⟩, hq⟩⟩
theorem RatN.okR {r : RV} {q : Rat} {w : World} (h : RatN r q w) : RatD r q (r.num.k + r.den.k) w :=
 RatD.cut (h.rat (n := q.num.natAbs + q.den) ⟨Nat.lt_of_lt_of_le (Nat.lt_pow_self (by decide)) (Nat.pow_le_pow_right (by decide) (Nat.le_add_right _ _)), Nat.lt_of_lt_of_le (Nat.lt_pow_self (by decide)) (Nat.pow_le_pow_right (by decide) (Nat.le_add_left _ _))⟩) (by omega) (by omega)
theorem FoN.foA {f : FoV} {w : World} (h : FoN f w) : FoA f w :=
 ⟨h.cols.imp fun _ _ hv => LsR.imp hv fun _ _ ht => RatN.okR ht, h.lo.imp fun _ _ hp => RatN.okR hp, h.hi.imp fun _ _ hp => RatN.okR hp, h.cost.imp fun _ _ hp => RatN.okR hp, h.b.imp fun _ _ hp => RatN.okR hp⟩
theorem FoD.mono {n m : Nat} {f : FoV} {w : World} (h : FoD n f w) (hm : n ≤ m) : FoD m f w :=
 ⟨h.cols.imp fun _ _ hv => LsR.imp hv fun _ _ ht => RatD.mono ht hm, h.lo.imp fun _ _ hp => RatD.mono hp hm, h.hi.imp fun _ _ hp => RatD.mono hp hm, h.cost.imp fun _ _ hp => RatD.mono hp hm, h.b.imp fun _ _ hp => RatD.mono hp hm⟩
theorem NotGreat.small {f : FoV} {gs : List RsV} (h : NotGreat f gs) : FSmall f := ⟨h.M, h.cols, h.col, h.lo, h.hi, h.cost, h.b⟩
theorem zdr {A : Option Addr} {l : List (RV × Rat)} {w : World} (h : LsR 4 za0 okR A l w) (hs : ∀ p ∈ l, zdN p) : LsR 4 za0 (roD 4) A l w :=
 h.imp fun p hp hk => RatD.cut hk (hs p hp).1 (hs p hp).2
theorem FoA.cut {f : FoV} {gs : List RsV} {w : World} (h : FoA f w) (hg : NotGreat f gs) : FoD 4 f w := by
 have hs := hg.short
 refine ⟨h.cols.imp fun v hv hk => LsR.imp hk fun t ht hn => ?_, zdr h.lo fun p hp => hs p (by simp [hp]), zdr h.hi fun p hp => hs p (by simp [hp]), zdr h.cost fun p hp => hs p (by simp [hp]), zdr h.b fun p hp => hs p (by simp [hp])⟩
 have h1 : zdN (tr t) := hs _ (by
  refine List.mem_append_left _ (List.mem_append_right _ ?_)
  exact List.mem_flatMap.2 ⟨v, hv, List.mem_map_of_mem (f := tr) ht⟩)
 exact RatD.cut hn h1.1 h1.2
theorem ziY {l : List (RV × Rat)} {j : Nat} (h : j < l.length) : numL l j = (l[j]!).2 := by rw [zao h, zb0 h]
theorem FormP.fright {p : PrV} {f : FoV} {w w0 : World} (hP : FormP p f w) (hR : PRight p w0) : FRight f w := by
 refine ⟨by rw [hP.M]; omega, by rw [hP.nl, hP.nc], by rw [hP.nh, hP.nc], by rw [hP.nk, hP.nc], by rw [hP.nb, hP.M], fun j hj => hP.right _ (List.getElem_mem hj), fun j hj hj' => ?_⟩
 have hl := hP.nl
 rw [zc8, ← zb0 hj, ← zb0 hj']
 by_cases e : j < p.vars.length
 ·rw [hP.lo j e, hP.hi j e, zb0 e]
  exact zc8.1 (hR.va _ (List.getElem_mem e))
 ·obtain ⟨i, rfl⟩ : ∃ i, j = p.vars.length + i := ⟨j - p.vars.length, by omega⟩
  have hi : i < p.rows.length := by omega
  rw [hP.los i hi, hP.his i hi]
  exact zf3 _ _
theorem FormP.slack {p : PrV} {f : FoV} {w : World} (hP : FormP p f w) : SlackP f p.vars.length := by
 refine ⟨by rw [hP.nc, hP.nb], fun i hi => ?_, fun i hi => ?_⟩
 ·have hc := hP.nc
  have h := hP.cols i (by omega)
  rw [zb0 hi] at h
  have hl : (f.cols[p.vars.length + i]).ts.length = 1 := by simpa using congrArg List.length h
  obtain ⟨t, ht⟩ := zlL hl
  rw [ht] at h ⊢
  have h1 : plq t = ((i : Int), 1) := by simpa using h
  have h2 : t.pl = (i : Int) := congrArg Prod.fst h1
  have h3 : t.q = 1 := congrArg Prod.snd h1
  exact ⟨t.r, by rw [← h2, ← h3]⟩
 ·have hk := hP.nk
  have hb := hP.nb
  rw [ziY (by omega)]
  exact hP.costs i (by omega)
def st0 (f : FoV) (a : Nat) : List Int := (List.range f.cols.length).map (zaU f a)
theorem ziH (f : FoV) (a : Nat) : (st0 f a).length = f.cols.length := by simp [st0]
theorem zgu {f : FoV} {a j : Nat} (h : j < f.cols.length) : (st0 f a)[j]? = some (zaU f a j) := by simp [st0, h]
theorem zcH {f : FoV} {a j : Nat} (h : a ≤ j) : zaU f a j = 0 := if_pos h
theorem start_first {f : FoV} {a j : Nat} (h : j < a) : zaU f a j = 1 ∧ 0 ≤ (numL f.cost j).num.sign ∨ zaU f a j = 2 ∧ (numL f.cost j).num.sign < 0 := by
 unfold zaU
 rw [if_neg (by omega)]
 by_cases h1 : 0 ≤ (numL f.cost j).num.sign
 ·rw [if_pos h1]; exact .inl ⟨rfl, h1⟩
 ·rw [if_neg h1]; exact .inr ⟨rfl, by omega⟩
theorem ze8 {f : FoV} {a : Nat} : ∀ j, j ≤ a → j ≤ f.cols.length → basI (st0 f a) j = []
 | 0, _, _ => rfl
 | j + 1, h, hl => by
  rw [zj9, ze8 j (by omega) (by omega)]
  rw [zgu (by omega)]
  rcases start_first (f := f) (a := a) (j := j) (by omega) with ⟨h1, -⟩ | ⟨h1, -⟩ <;> rw [h1] <;> decide
theorem zef {f : FoV} {a : Nat} : ∀ k, a + k ≤ f.cols.length → basI (st0 f a) (a + k) = (List.range k).map (a + ·)
 | 0, h => ze8 a (Nat.le_refl _) h
 | k + 1, h => by
  rw [← Nat.add_assoc, zgz (by rw [zgu (by omega), zcH (by omega)]), zef k (by omega), List.range_succ, List.map_append]
  rfl
theorem SlackP.bas {f : FoV} {a : Nat} (h : SlackP f a) : basI (st0 f a) f.cols.length = (List.range f.b.length).map (a + ·) := by
 rw [h.n, zef _ (by rw [h.n]; exact Nat.le_refl _)]
theorem SlackP.at_ {f : FoV} {a : Nat} (h : SlackP f a) {k : Nat} (hk : k < f.b.length) : ((basI (st0 f a) f.cols.length)[k]?).getD 0 = a + k := by
 rw [h.bas]; simp [hk]
theorem SlackP.row {f : FoV} {a : Nat} (h : SlackP f a) {k : Nat} (hk : k < f.b.length) (i : Nat) : rowQ f.cols (a + k) (i : Int) = if i = k then 1 else 0 := by
 have hlt : a + k < f.cols.length := by rw [h.n]; omega
 obtain ⟨r, hr⟩ := h.unit k hlt
 rw [zat hlt, hr]
 show getQ [((k : Int), (1 : Rat))] (i : Int) = _
 by_cases e : i = k
 ·subst e; rw [if_pos rfl]; simp [getQ]; exact Rat.add_zero _
 ·rw [if_neg e]
  exact zan fun p hp => by rw [List.mem_singleton.1 hp]; show (k : Int) ≠ i; omega
theorem zf5 {f : FoV} {st : List Int} {k : Nat} (hk : k < (basI st f.cols.length).length) (a : Int) : rowQ (zbm f st) k a = rowQ f.cols (((basI st f.cols.length)[k]?).getD 0) a := by
 have hl : k < (zbm f st).length := by unfold zbm; rwa [List.length_map]
 have h1 := (zcK (List.getElem_mem hk)).1
 rw [zat hl, List.getElem?_eq_getElem hk]
 show getQ ((zbm f st)[k].ts.map plq) a = rowQ f.cols (basI st f.cols.length)[k] a
 rw [zat h1]
 rw [show (zbm f st)[k] = zci f (basI st f.cols.length)[k] from List.getElem_map .., zbM h1]
theorem SlackP.isb {f : FoV} {a : Nat} (h : SlackP f a) : IsB f (st0 f a) := by
 refine ⟨ziH f a, fun z hz => ?_, by rw [h.bas]; simp, ?_⟩
 ·obtain ⟨j, hj, rfl⟩ := List.mem_map.1 hz
  by_cases e : a ≤ j
  ·exact .inl (zcH e)
  ·rcases start_first (f := f) (a := a) (j := j) (by omega) with ⟨h1, -⟩ | ⟨h1, -⟩ <;> rw [h1] <;> decide
 ·rintro ⟨b, hb⟩
  refine hb b fun i hi => ?_
  have hm : (basI (st0 f a) f.cols.length).length = f.b.length := by rw [h.bas]; simp
  rw [zcD hi (fun k hk hne => ?_)]
  ·show rowQ (zbm f (st0 f a)) i (i : Int) * b i = b i
   rw [zf5 (by omega), h.at_ hi, h.row hi, if_pos rfl, Rat.one_mul]
  ·show rowQ (zbm f (st0 f a)) k (i : Int) * b k = 0
   rw [zf5 (by omega), h.at_ hk, h.row hk, if_neg (by omega), Rat.zero_mul]
theorem SlackP.priced {f : FoV} {a : Nat} (h : SlackP f a) {ys ds : List (RV × Rat)} (hd : DualP f (st0 f a) ys ds) : ∀ j, j < f.cols.length → prOk f (st0 f a) ds j := by
 have hy : ∀ k, k < f.b.length → numL ys k = 0 := fun k hk => by
  have h1 := hd.eq k hk
  rw [h.at_ hk, h.cost k hk, zcD hk (fun i hi hne => by rw [h.row hk, if_neg hne, Rat.mul_zero]), h.row hk, if_pos rfl, Rat.mul_one] at h1
  exact h1
 intro j hj hw
 exfalso
 unfold zeT at hw
 rw [zgu hj] at hw
 by_cases e : a ≤ j
 ·rw [zcH e] at hw
  rcases hw with ⟨hw, -⟩ | ⟨hw, -⟩ <;> exact absurd hw (by decide)
 ·have h2 : numL ds j = numL f.cost j := by
   rw [hd.d j hj, if_neg, zbk (fun i hi => by rw [hy i hi, Rat.zero_mul])]
   ·grind
   ·unfold zcM
    rw [zgu hj]
    rcases start_first (f := f) (a := a) (j := j) (by omega) with ⟨h1, -⟩ | ⟨h1, -⟩ <;> rw [h1] <;> decide
  rw [h2] at hw
  rcases start_first (f := f) (a := a) (j := j) (by omega) with ⟨h1, h3⟩ | ⟨h1, h3⟩
  ·rw [h1] at hw
   rcases hw with ⟨-, hw⟩ | ⟨hw, -⟩
   ·omega
   ·exact absurd hw (by decide)
  ·rw [h1] at hw
   rcases hw with ⟨hw, -⟩ | ⟨-, hw⟩
   ·exact absurd hw (by decide)
   ·omega
structure SumI (f : FoV) (xs ds : List (RV × Rat)) (X D : Nat) (j : Nat) (ss : List TeV) (c t : Rat) : Prop where
 rise : Rise ss
 sz : ∀ t ∈ ss, Sz t.q (1 + j * (2 * X + 2))
 nz : ∀ t ∈ ss, nzT t = true
 rng : ∀ t ∈ ss, 0 ≤ t.pl ∧ t.pl < f.M
 get : ∀ a, getQ (ss.map plq) a = sumN (fun j => numL xs j * rowQ f.cols j a) j
 cost : c = sumN (fun j => numL f.cost j * numL xs j) j
 told : t = sumN (fun j => numL ds j * numL xs j) j
 csz : Sz c (1 + j * (X + 6))
 tsz : Sz t (1 + j * (D + X + 2))
theorem zmo : Sz 0 1 := ⟨by decide, by decide⟩
theorem SumI.start (f : FoV) (xs ds : List (RV × Rat)) (X D : Nat) : SumI f xs ds X D 0 [] 0 0 := ⟨.nil, by simp, by simp, by simp, fun _ => rfl, rfl, rfl, zmo.up (by omega), zmo.up (by omega)⟩
theorem SumI.len {f : FoV} {xs ds : List (RV × Rat)} {X D j : Nat} {ss : List TeV} {c t : Rat} (h : SumI f xs ds X D j ss c t) (hM : f.M ≤ 5) : ss.length ≤ 5 := by
 have := zdu h.rise h.rng
 omega
theorem SumI.next {f : FoV} {xs ds : List (RV × Rat)} {X D j : Nat} {ss : List TeV} {c t : Rat} {w : World} (h : SumI f xs ds X D j ss c t) (hR : FRight f w) (hj : j < f.cols.length) {N L : Nat} {v : VeV} {F : Int → Rat} (hv : VF F N L v) (hF : F = fun p => getQ (ss.map plq) p + numL xs j * getQ ((f.cols[j]).ts.map plq) p) (hN : N = (1 + j * (2 * X + 2)) + (2 * X + 1) + 1) (hc : Sz (numL f.cost j) 4) (hx : Sz (numL xs j) X) (hd : Sz (numL ds j) D) : SumI f xs ds X D (j + 1) v.ts (c + numL f.cost j * numL xs j) (t + numL ds j * numL xs j) := by
 obtain ⟨h1, h2, -, h4⟩ := hv
 have hr : Rise v.ts := (List.pairwise_map (f := plq)).1 h1
 have hz : ∀ t ∈ v.ts, nzT t = true := fun t ht => (h2 _ (List.mem_map_of_mem (f := plq) ht)).1
 have hg : ∀ a, getQ (v.ts.map plq) a = getQ (ss.map plq) a + numL xs j * getQ ((f.cols[j]).ts.map plq) a := fun a => by rw [h4, hF]
 refine ⟨hr, fun t ht => (h2 _ (List.mem_map_of_mem (f := plq) ht)).2.up ?_, hz, zkP hr hz fun a ha => ?_, fun a => ?_, ?_, ?_, (h.csz.add (hc.mul hx)).up ?_, (h.tsz.add (hd.mul hx)).up ?_⟩
 ·rw [hN, Nat.add_mul]; omega
 ·rw [hg, zdI h.rng ha, zdI (hR.col j hj).rng ha, Rat.mul_zero, Rat.add_zero]
 ·rw [hg, h.get, sumN, zat hj]
 ·rw [h.cost, sumN]
 ·rw [h.told, sumN]
 ·rw [Nat.add_mul]; omega
 ·rw [Nat.add_mul]; omega
structure TolI (f : FoV) (ys : List (RV × Rat)) (T : Rat) (B Y : Nat) (i : Nat) (t : Rat) : Prop where
 told : t = T + sumN (fun i => numL ys i * numL f.b i) i
 sz : Sz t (B + i * (Y + 6))
theorem TolI.start (f : FoV) (ys : List (RV × Rat)) {T : Rat} {B : Nat} (Y : Nat) (h : Sz T B) : TolI f ys T B Y 0 T := ⟨(Rat.add_zero T).symm, by rwa [Nat.zero_mul, Nat.add_zero]⟩
theorem TolI.next {f : FoV} {ys : List (RV × Rat)} {T : Rat} {B Y i : Nat} {t : Rat} (h : TolI f ys T B Y i t) (hy : Sz (numL ys i) Y) (hb : Sz (numL f.b i) 4) : TolI f ys T B Y (i + 1) (t + numL ys i * numL f.b i) := by
 refine ⟨by rw [h.told, sumN, Rat.add_assoc], (h.sz.add (hy.mul hb)).up ?_⟩
 rw [Nat.add_mul]; omega
theorem zgb {f : FoV} {st : List Int} {xs ys ds : List (RV × Rat)} (hB : IsB f st) (hv : ValP f st xs) (hd : DualP f st ys ds) : sumN (fun j => numL f.cost j * numL xs j) f.cols.length = sumN (fun j => numL ds j * numL xs j) f.cols.length + sumN (fun i => numL ys i * numL f.b i) f.b.length :=
 zfM (at' := basI st f.cols.length) (bas := zcM st) (g := fun j i => rowQ f.cols j (i : Int)) rfl hB.m hd.eq hd.d hv.eq
theorem zg6 : ∀ M, M < 6 → ∀ N, N < 13 → szG 4 (nlF 4 (M - 1)) M ≤ 100000000 ∧ nyV 4 M ≤ 1000000000 ∧ szF (nuV 4 N) (2 * nlF 4 (M - 1) + 1) M ≤ 100000000 ∧ 4 + nxV 4 M N ≤ 1000000000 ∧ ndV 4 M ≤ 10000000000 := of_decide_eq_true (by kernel_rfl)
theorem zdw : nlF 4 5 ≤ 100000000 := of_decide_eq_true (by kernel_rfl)
end Go.Proofs.YtfdmajmhmligpaaGreatDoor
