/-
 tripwirelaw13.looked, tripwirelow.Pick. tripwirelaw13.NetSteps.
-/
import Derived.Test.YtplhmeiciiajcaaGreatDoorHF
namespace Go.Proofs.YtplhmeiciiajcaaGreatDoor
set_option maxHeartbeats 16000000
open Go.RowKit

def LkP (f : NeV) (xs : List (RV × Rat)) : Prop := (f.las.length ≤ 5 ∧ ∀ l ∈ f.las, SmL 20 1 l) ∧ xs.length ≤ 20 ∧ ∀ p ∈ xs, shR 1 p.1
set_option maxRecDepth 100000 in
theorem looked_any (w : World) (n m : Nat) (f : NeV) (h : NeD n f w) (hm : ∀ l ∈ f.las, LaM l) (hml : f.las.length ≤ 9223372036854775807) (nl : Nat) (hnl : nl = f.las.length) (Ax : Option Addr) (cx : Nat) (xs : List (RV × Rat)) (nx : Nat) (hx : LsR 4 rtcells (roD m) Ax xs w) (hnx : nx = xs.length) (hxl : xs.length ≤ 9223372036854775807) : Calls Tryz.prog 8 #[.agg #[.int .i64 f.inputs, .slice f.A nl f.c], .slice Ax nx cx] w fun e w' => ImpRes (LkP f xs) e ∧ Below w.heap.size w w' := by
 have Hn := Lib.hid hnl
 have Hm := Lib.hid hm
 have Hl := Lib.hid hml
 have Hx := Lib.hid hnx
 have Hxl := Lib.hid hxl
 obtain ⟨W0, hW0⟩ : ∃ W0, W0 = (w.alloc (.cells #[.int .i64 f.inputs, .slice f.A nl f.c] 24)) := ⟨_, rfl⟩
 have HE := Lib.hid (Env.lay1 (Env.start ((h.old).and ((hx.old roD_old)))) hW0)
 subst hW0
 have c := Env.c1 HE.out
 clear h hnl hm hml hx hnx hxl
 go_enter Tryz.func8, Tryz.ntmps8
 go_wp2_with fail
 refine (smallNet_any _ n f HE.out.o.1 Hm.out Hl.out 5 20 1 (by decide) nl Hn.out).mono ?_
 rintro e w1 ⟨⟨B, rfl, hB⟩, hb⟩
 have HB := Lib.hid hB
 replace HE := Lib.hid (Env.call HE.out hb)
 replace c := Env.c1 HE.out
 clear hB hb
 cases B
 ·go_wp2_with fail
  exact bodyPost_ret (v := .bool false) (by simp [results, Tryz.results8, go_sem]) rfl ⟨impRes_no, HE.out.bel⟩
 ·have HP := Lib.hid (HB.out rfl)
  clear HB
  go_wp2_with fail
  refine (short_rats _ roD_old Ax cx xs HE.out.o.2 Hxl.out 20 1 nx Hx.out).mono ?_
  rintro e w2 ⟨⟨B, rfl, hB⟩, hb⟩
  have HB := Lib.hid hB
  replace HE := Lib.hid (Env.call HE.out hb)
  clear hB hb
  go_wp2_with fail
  exact bodyPost_ret (v := .bool B) (by simp [results, Tryz.results8, go_sem]) rfl ⟨⟨B, rfl, fun h => ⟨HP.out, HB.out h⟩⟩, HE.out.bel⟩
set_option maxRecDepth 100000 in
theorem pick13_any (w : World) (z n : Int) (hn : 0 < n) (hn9 : n ≤ 1000000) (_h0 : -9223372036854775808 ≤ z) (_h1 : z ≤ 9223372036854775807) :
 Calls Tryz.prog 19 #[.int .i64 z, .int .i64 n] w fun e w' => (∃ m : Nat, e = .returned (.int .i64 (m : Int)) ∧ (m : Int) < n) ∧ Below w.heap.size w w' := by
 have h2 := Int.tmod_lt_of_pos z hn
 have h3 := Int.tmod_lt_of_pos (-z) hn
 rw [Int.neg_tmod] at h3
 have h5 : n ≠ 0 := by omega
 have h6 : ¬ n ≤ 0 := by omega
 generalize hy : z.tmod n = y at *
 by_cases h4 : y < 0
 ·go_enter Tryz.func19, Tryz.ntmps19
  go_wp2_with fail
  go_ret
  refine ⟨⟨(y + n).toNat, ?_, by omega⟩, Below.refl _ _⟩
  rw [Int.toNat_of_nonneg (by omega)]
  rfl
 ·go_enter Tryz.func19, Tryz.ntmps19
  go_wp2_with fail
  go_ret
  refine ⟨⟨y.toNat, ?_, by omega⟩, Below.refl _ _⟩
  rw [Int.toNat_of_nonneg (by omega)]
  rfl
end Go.Proofs.YtplhmeiciiajcaaGreatDoor
namespace Go.Proofs.YtplhmeiciiajcaaGreatDoor
set_option maxHeartbeats 16000000
open Go.RowKit

theorem lk_in {w : World} {n m : Nat} {f : NeV} {Ax : Option Addr} {xs : List (RV × Rat)} (h : NeD n f w) (hm : ∀ l ∈ f.las, LaM l) (hx : LsR 4 rtcells (roD m) Ax xs w) (hP : LkP f xs) : SayIn w f xs :=
 say_in h hm ⟨by have := hP.1.1; omega, fun l hl => (hP.1.2 l hl).up (by decide)⟩ hx ⟨by have := hP.2.1; omega, hP.2.2⟩
set_option maxRecDepth 100000 in
theorem netSteps_all (w : World) (n m : Nat) (f : NeV) (h : NeD n f w) (hm : ∀ l ∈ f.las, LaM l) (hml : f.las.length ≤ 9223372036854775807 ∧ f.las.length ≤ f.c) (hT : Tz w) (ht : Tab w) (nl : Nat) (hnl : nl = f.las.length) (Ax : Option Addr) (cx : Nat) (xs : List (RV × Rat)) (nx : Nat) (hx : LsR 4 rtcells (roD m) Ax xs w) (hnx : nx = xs.length) (hxl : xs.length ≤ 9223372036854775807) (cut : Int) (hcut : -9223372036854775808 ≤ cut ∧ cut ≤ 9223372036854775807) : Calls Tryz.prog 4 #[.agg #[.int .i64 f.inputs, .slice f.A nl f.c], .slice Ax nx cx, .int .i64 cut] w fun e w' => e = .returned (.bool true) ∧ Below w.heap.size w w' := by
 have Hw := Lib.hid h
 have Hxw := Lib.hid hx
 have Hn := Lib.hid hnl
 have Hm := Lib.hid hm
 have Hl := Lib.hid hml
 have Hx := Lib.hid hnx
 have Hxl := Lib.hid hxl
 have Hcut := Lib.hid hcut
 have slf := h.sl
 rw [← hnl] at slf
 have Slf := Lib.hid slf
 obtain ⟨W0, hW0⟩ : ∃ W0, W0 = (w.alloc (.cells #[.int .i64 f.inputs, .slice f.A nl f.c] 24)) := ⟨_, rfl⟩
 have HE := Lib.hid (Env.lay1 (Env.start ((h.old).and (((NeD.iffR h)).and (((hx.old roD_old)).and ((hT.old).and (ht.old)))))) hW0)
 subst hW0
 have c := Env.c1 HE.out
 clear h hT ht hnl hm hml hx hnx hxl hcut slf
 go_enter Tryz.func4, Tryz.ntmps4
 go_wp2_with fail
 refine (looked_any _ n m f HE.out.o.1 Hm.out Hl.out.1 nl Hn.out Ax cx xs nx HE.out.o.2.2.1 Hx.out Hxl.out).mono ?_
 rintro e w1 ⟨⟨B, rfl, hB⟩, hb⟩
 have HB := Lib.hid hB
 replace HE := Lib.hid (Env.call HE.out hb)
 replace c := Env.c1 HE.out
 clear hB hb
 cases B
 ·go_wp2_with fail
  refine (awake13_any _ HE.out.o.2.2.2.1 HE.out.o.2.2.2.2).mono ?_
  rintro e w9 ⟨rfl, hb⟩
  replace HE := Lib.hid (Env.call HE.out hb)
  clear hb
  go_wp2_with fail
  exact bodyPost_ret (v := .bool true) (by simp [results, Tryz.results4, go_sem]) rfl ⟨rfl, HE.out.bel⟩
 ·have HP := Lib.hid (HB.out rfl)
  clear HB
  have HS := Lib.hid (lk_in Hw.out Hm.out Hxw.out HP.out)
  replace HE := Lib.hid (HE.out.imp (φ := (fun V => NeD 1 f V ∧ (∀ err, NetP V f err ↔ NetP w f err) ∧ LsR 4 rtcells (roD 1) Ax xs V ∧ Tz V ∧ Tab V)) (ψ := fun _ => True) (fun V h => ⟨LsR.imp h.1 fun l hl hl' => ((HP.out.1.2 l hl).up (by decide : 20 ≤ 24)).d hl', h.2.1, LsR.imp h.2.2.1 fun p hp hp' => RatD.short (show RatD p.1 p.2 _ V from hp') (HP.out.2.2 p hp), h.2.2.2⟩) (fun _ _ => trivial))
  clear Hw Hxw Hm HP
  replace c := Env.c1 HE.out
  go_wp2_with fail
  refine (run_n HS.out HE.out.o.2.2.2.1 HE.out.o.1 HE.out.o.2.1 HE.out.o.2.2.1 Hx.out Hn.out).mono ?_
  rintro e w2 (⟨err, rfl, hE, hb⟩ | ⟨hN, he, v, rfl, hq, hr, hb⟩)
  ·have HErr := Lib.hid hE
   replace HE := Lib.hid (Env.call HE.out hb)
   replace c := Env.c1 HE.out
   clear hE hb
   go_wp2_with fail
   refine (tra_n HS.out HE.out.o.2.2.2.1 HE.out.o.1 HE.out.o.2.1 HE.out.o.2.2.1 Hx.out Hn.out).mono ?_
   rintro e w3 (⟨err2, rfl, hE2, hb⟩ | ⟨hN, he, -⟩)
   ·obtain rfl : err2 = err := ErrP.uniq hE2 HErr.out
    replace HE := Lib.hid (Env.call HE.out hb)
    replace c := Env.c1 HE.out
    have h1 : (err2 != 0) = true := by simp [HErr.out.ne]
    have h2 : (err2 == err2) = true := beq_self_eq_true err2
    clear hE2 hb
    go_wp2_with fail
    refine (check_any _ 1 (by decide) (by decide) f HE.out.o.1 HS.out.s HE.out.o.2.2.2.1 nl Hn.out).mono ?_
    rintro e w4 ⟨⟨k, rfl, hN⟩, hb⟩
    have HNk := Lib.hid ((HE.out.o.2.1 k).1 hN)
    replace HE := Lib.hid (Env.call HE.out hb)
    clear hN hb c
    rcases (show err2 = k ∨ (err2 = 22 ∧ k = 0) from HErr.out.elim (fun h => .inl (NetP.uniq h.2 HNk.out)) (fun h => .inr ⟨h.1, (NetP.uniq HNk.out h.2.1)⟩)) with hk | ⟨hk, hk0⟩
    ·have h3 : (err2 == k) = true := by simp [hk]
     clear hk
     go_wp2_with fail
     refine (awake13_any _ HE.out.o.2.2.2.1 HE.out.o.2.2.2.2).mono ?_
     rintro e w9 ⟨rfl, hb⟩
     replace HE := Lib.hid (Env.call HE.out hb)
     clear hb
     go_wp2_with fail
     exact bodyPost_ret (v := .bool true) (by simp [results, Tryz.results4, go_sem]) rfl ⟨rfl, HE.out.bel⟩
    ·have h3 : (err2 == k) = false := by rw [hk, hk0]; decide
     have h4 : (err2 == 22) = true := by rw [hk]; decide
     clear hk hk0
     go_wp2_with fail
     refine (awake13_any _ HE.out.o.2.2.2.1 HE.out.o.2.2.2.2).mono ?_
     rintro e w9 ⟨rfl, hb⟩
     replace HE := Lib.hid (Env.call HE.out hb)
     clear hb
     go_wp2_with fail
     exact bodyPost_ret (v := .bool true) (by simp [results, Tryz.results4, go_sem]) rfl ⟨rfl, HE.out.bel⟩
   ·exact (ErrP.no HErr.out hN he).elim
  ·have HN := Lib.hid hN
   have Hi := Lib.hid he
   have HQ := Lib.hid hq
   replace HE := Lib.hid (Env.ret HE.out hr hb)
   replace c := Env.c1 HE.out
   clear hN he hq hr hb
   go_wp2_with fail
   refine (tra_n HS.out HE.out.o.2.2.2.1 HE.out.o.1 HE.out.o.2.1 HE.out.o.2.2.1 Hx.out Hn.out).mono ?_
   rintro e w3 (⟨err2, rfl, hE2, hb⟩ | ⟨-, -, A, c1, os, rfl, ho, hr, hb⟩)
   ·exact (ErrP.no hE2 HN.out Hi.out).elim
   ·have HO := Lib.hid ho
    replace HE := Lib.hid (Env.ret HE.out hr hb)
    replace c := Env.c1 HE.out
    have hol : os.length = nl + 1 := by
     have := congrArg List.length HO.out
     rw [List.length_map, List.length_map, List.length_range, ← Hn.out] at this
     exact this
    obtain ⟨L, hL⟩ : ∃ L, L = nl + 1 := ⟨_, rfl⟩
    rw [← hL] at hol
    have Hol := Lib.hid hol
    rw [hol]
    have hL9 : L ≤ 7 := by have := HS.out.n; rw [← Hn.out] at this; omega
    have hL0 : 1 ≤ L := by omega
    have HL := Lib.hid hL
    clear ho hr hb hol hL
    go_wp2_with fail
    refine (Sizes_any _ 1 (by decide) (by decide) f HE.out.o.1 HS.out.s HE.out.o.2.2.2.1 nl Hn.out).mono ?_
    rintro e w4 ⟨B, d, us, err9, rfl, h9, hu9, -, -, hr, hb⟩
    have hu := hu9 (NetP.uniq ((HE.out.o.2.1 err9).1 h9) HN.out)
    have HU := Lib.hid hu
    have hul : us.length = L := by rw [hu, unitsL_len, ← Hn.out, ← HL.out]
    replace HE := Lib.hid (Env.ret HE.out hr hb)
    rw [hul]
    have Hul := Lib.hid hul
    clear hu hu9 h9 hr hb hul c
    have e0 : ((L : Int) == 0) = false := by simp; omega
    have e1 : ((L : Int) != (L : Int)) = false := by simp
    have e2 : (L : Int) - 1 = (nl : Int) := by have := HL.out; omega
    have hnl : nl < L := by have := HL.out; omega
    have hno : nl < os.length := by rw [Hol.out]; exact hnl
    have slo := HE.out.n.2.1.sl
    rw [Hol.out] at slo
    have hadd := adr_add
    have szs := size_rs9
    have HOQ := Lib.hid (show ∀ i (hi : i < os.length), (os[i]).q = outQ f xs i from fun i hi => by
     have h1 : (os.map RsV.q)[i]? = ((List.range (f.las.length + 1)).map (outQ f xs))[i]? := by rw [HO.out]
     rw [List.getElem?_map, List.getElem?_eq_getElem hi, List.getElem?_map, List.getElem?_range (by rw [← Hn.out, ← HL.out, ← Hol.out]; exact hi)] at h1
     exact Option.some.inj h1)
    have HOK := Lib.hid (show ∀ i (hi : i < os.length), (os[i]).l.length ≤ 1000000 ∧ (∀ q ∈ (os[i]).q, Sz q 5000) ∧ ((os[i]).l.length : Int) = unAt f.las f.inputs i from fun i hi => by
     have h1 := out_ok HS.out HN.out Hi.out i (by have := Hol.out; have := HL.out; have := Hn.out; omega)
     have h2 : (os[i]).q.length = (os[i]).l.length := List.length_map ..
     rw [HOQ.out i hi] at h2
     refine ⟨by omega, ?_, by rw [← h2]; exact h1.2.2⟩
     rw [HOQ.out i hi]
     exact h1.2.1)
    replace HE := Lib.hid (HE.out.sink.imp (φ := (fun V => (NeD 1 f V ∧ (∀ err, NetP V f err ↔ NetP w f err) ∧ LsR 4 rtcells (roD 1) Ax xs V ∧ Tz V ∧ Tab V) ∧ rsN v V ∧ LsR 1 rscells rsN A os V ∧ LsR 1 icells okI B us V)) (ψ := fun _ => True) (fun V h => ⟨h.2, h.1.2.2.1, h.1.2.1, h.1.1⟩) (fun _ _ => trivial))
    have cu := HE.out.o.2.2.1.rsc nl hno
    have HQU := Lib.hid (HOQ.out nl hno)
    have HKU := Lib.hid (HOK.out nl hno)
    have Hmu := Lib.hid (List.getElem_mem hno)
    obtain ⟨u, hu⟩ : ∃ u, u = os[nl] := ⟨_, rfl⟩
    rw [← hu] at cu HQU HKU Hmu
    clear hu hno
    go_wp2_with fail
    refine (rats_say _ u v (HE.out.o.2.2.1.ok u Hmu.out) HE.out.o.2.1 (by rw [HQU.out, HQ.out, Hn.out]) HKU.out.1 HKU.out.2.1).mono ?_
    rintro e w5 ⟨rfl, hb⟩
    replace HE := Lib.hid (Env.call HE.out hb)
    clear hb cu e0 e1 e2 HQU HKU Hmu
    go_upto_region 11 with fail
    go_loopw [12] (fun iv wr => ∃ i : Nat, iv = .int .i64 (i : Int) ∧ i ≤ L ∧ Hid (Env w [⟨w.heap.size, 24, #[.int .i64 f.inputs, .slice f.A nl f.c]⟩] (fun V => (NeD 1 f V ∧ (∀ err, NetP V f err ↔ NetP w f err) ∧ LsR 4 rtcells (roD 1) Ax xs V ∧ Tz V ∧ Tab V) ∧ rsN v V ∧ LsR 1 rscells rsN A os V ∧ LsR 1 icells okI B us V) (fun _ => True) wr)) (fun iv _ => L - (intOf iv).toNat)
    case atStart => exact ⟨0, rfl, Nat.zero_le _, HE⟩
    case round =>
     clear HE
     obtain ⟨i, rfl, hi, HE⟩ := hrel
     by_cases hlt : i < L
     ·have hio : i < os.length := by rw [Hol.out]; exact hlt
      have hiu : i < us.length := by rw [Hul.out]; exact hlt
      have cv := HE.out.o.2.2.1.rsc i hio
      have cs := HE.out.o.2.2.2.ic i hiu
      have hus : us[i] = ((os[i]).l.length : Int) := by
       rw [(HOK.out i hio).2.2]
       have h1 := unitsL_at f.las f.inputs i (by have := HL.out; have := Hn.out; omega)
       rw [← HU.out, List.getElem?_eq_getElem hiu] at h1
       exact Option.some.inj h1
      rw [hus] at cs
      obtain ⟨p, hp⟩ : ∃ p, p = os[i] := ⟨_, rfl⟩
      rw [← hp] at cv cs
      obtain ⟨np, hnp⟩ : ∃ np, np = p.l.length := ⟨_, rfl⟩
      rw [← hnp] at cv cs
      have e3 : ((np : Int) != (np : Int)) = false := by simp
      have slb := HE.out.o.2.2.2.sl
      rw [Hul.out] at slb
      have szi := size_ints
      clear hus hp hnp hio hiu
      go_upto_region 13 with fail
      go_quiet (fail)
      obtain ⟨W7, hW7⟩ : ∃ X, X = World.drewN wr nq := ⟨_, rfl⟩
      replace HE := Lib.hid (Env.call HE.out (Below.drewN (Below.refl _ _) nq))
      rw [← hW7] at HE ⊢
      clear hW7
      go_wp2_with fail
      go_roundw
      case rel => exact ⟨i + 1, by go_num, by omega, HE⟩
      case measure => (simp [intOf] <;> omega)
     ·obtain rfl : i = L := by omega
      clear hlt hi
      have c := Env.c1 HE.out
      go_upto_region 15 with fail
      go_wp2_with fail
      have hp0 : (0 : Int) < (nl : Int) + 1 := by omega
      refine (pick13_any _ cut ((nl : Int) + 1) hp0 (by omega) Hcut.out.1 Hcut.out.2).mono ?_
      rintro e w6 ⟨⟨k, rfl, hk⟩, hb⟩
      have hkl : k ≤ nl := by omega
      have hkL : k < i := by omega
      replace HE := Lib.hid (Env.call HE.out hb)
      replace c := Env.c1 HE.out
      clear hk hb hp0
      have hcap : nl ≤ f.c := by rw [Hn.out]; exact Hl.out.2
      obtain ⟨d1, hs1⟩ := las_hi (k := k) Slf.out hkl hcap
      obtain ⟨B2, d2, hs2, slB, adB⟩ := las_lo (k := k) Slf.out hkl hcap
      have HadB := Lib.hid adB
      have HslB := Lib.hid slB
      have Hs2 := Lib.hid hs2
      clear adB slB hs2
      go_upto_region 16 with fail
      go_region_held3 (fun W => CB (w.heap.size) #[.int .i64 f.inputs, .slice f.A nl f.c] W) (first | with_reducible exact c | with_reducible exact Env.c1 HE.out | with_reducible exact Env.c1 HE.out.drew)
       (first | (go_at_call 12; go_must (refine (run_hi HS.out (by first | with_reducible exact HE.out.o.1.2.2.2.1 | with_reducible exact HE.out.drew.o.1.2.2.2.1) (by first | with_reducible exact HE.out.o.1.1 | with_reducible exact HE.out.drew.o.1.1) (by first | with_reducible exact HE.out.o.1.2.1 | with_reducible exact HE.out.drew.o.1.2.1) (by first | with_reducible exact HE.out.o.1.2.2.1 | with_reducible exact HE.out.drew.o.1.2.2.1) Hx.out HN.out Hi.out (by rw [← Hn.out]; exact hkl)).mono ?_; rintro e w7 ⟨z, rfl, hq, hr, hb⟩; have HQZ := Lib.hid hq; (first | (with_reducible (replace HE := Lib.hid (Env.ret HE.out hr hb))) | (with_reducible (replace HE := Lib.hid (Env.ret HE.out.drew hr hb)))); replace c := Env.c1 HE.out; clear hq hr hb)))
      clear hs1
      have hko : k < os.length := by rw [Hol.out]; exact hkL
      have cv := HE.out.o.2.2.1.rsc k hko
      have HQP := Lib.hid (HOQ.out k hko)
      have Hmp := Lib.hid (List.getElem_mem hko)
      obtain ⟨p, hp⟩ : ∃ p, p = os[k] := ⟨_, rfl⟩
      rw [← hp] at cv HQP Hmp
      clear hp hko
      have HZK := Lib.hid (out_ok HS.out HN.out Hi.out k (by rw [← Hn.out]; exact hkl))
      have hzl : z.q.length = z.l.length := List.length_map ..
      have Hzl := Lib.hid (show z.l.length ≤ 256 from by rw [← hzl, HQZ.out]; exact HZK.out.1)
      obtain ⟨nz, hnz⟩ : ∃ nz, nz = z.l.length := ⟨_, rfl⟩
      rw [← hnz]
      have Hnz := Lib.hid hnz
      have hnz9 : nz ≤ 256 := by rw [hnz]; exact Hzl.out
      clear hnz hzl
      go_wp2_with fail
      rw [Hnz.out]
      refine (rats_say _ z p HE.out.n.1 (HE.out.o.2.2.1.ok p Hmp.out) (by rw [HQP.out, HQZ.out]) (by have := Hzl.out; omega) (by rw [HQZ.out]; exact HZK.out.2.1)).mono ?_
      rintro e w8 ⟨rfl, hb⟩
      replace HE := Lib.hid (Env.call HE.out hb)
      replace c := Env.c1 HE.out
      clear hb cv HQP Hmp
      rw [← Hnz.out]
      by_cases h64 : nz ≤ 64
      ·have h649 : ¬ (64 : Int) < (nz : Int) := by omega
       have hs2 := Hs2.out
       go_wp2_with fail
       skip
       refine (run_lo (n2 := nl - k) HS.out HE.out.o.1.2.2.2.1 HE.out.o.1.1 HE.out.o.1.2.1 HN.out Hi.out (by rw [← Hn.out]; exact hkl) (by rw [← Hn.out]; exact HslB.out) (by rw [← Hn.out]; exact HadB.out) HE.out.n.1 HQZ.out h64 Hnz.out (by rw [← Hn.out])).mono ?_
       rintro e w9 ⟨y, rfl, hq, hr, hb⟩
       have HQY := Lib.hid hq
       replace HE := Lib.hid (Env.ret HE.out hr hb)
       clear hq hr hb hs2
       have HYK := Lib.hid (out_ok HS.out HN.out Hi.out f.las.length (Nat.le_refl _))
       have hyl : y.q.length = y.l.length := List.length_map ..
       have Hyl := Lib.hid (show y.l.length ≤ 256 from by rw [← hyl, HQY.out]; exact HYK.out.1)
       clear hyl
       go_wp2_with fail
       refine (rats_say _ y v HE.out.n.1 HE.out.o.2.1 (by rw [HQY.out, HQ.out]) (by have := Hyl.out; omega) (by rw [HQY.out]; exact HYK.out.2.1)).mono ?_
       rintro e w9 ⟨rfl, hb⟩
       replace HE := Lib.hid (Env.call HE.out hb)
       clear hb
       go_wp2_with fail
       refine (awake13_any _ HE.out.o.1.2.2.2.1 HE.out.o.1.2.2.2.2).mono ?_
       rintro e w9 ⟨rfl, hb⟩
       replace HE := Lib.hid (Env.call HE.out hb)
       clear hb
       go_wp2_with fail
       exact bodyPost_ret (v := .bool true) (by simp [results, Tryz.results4, go_sem]) rfl ⟨rfl, HE.out.bel⟩
      ·have h649 : (64 : Int) < (nz : Int) := by omega
       go_wp2_with fail
       refine (awake13_any _ HE.out.o.1.2.2.2.1 HE.out.o.1.2.2.2.2).mono ?_
       rintro e w9 ⟨rfl, hb⟩
       replace HE := Lib.hid (Env.call HE.out hb)
       clear hb
       go_wp2_with fail
       exact bodyPost_ret (v := .bool true) (by simp [results, Tryz.results4, go_sem]) rfl ⟨rfl, HE.out.bel⟩
theorem netSteps_any (w : World) (n : Nat) (f : NeV) (h : NeD n f w) (hm : ∀ l ∈ f.las, LaM l) (hml : f.las.length ≤ 9223372036854775807 ∧ f.las.length ≤ f.c) (Ax : Option Addr) (cx : Nat) (xs : List (RV × Rat)) (hx : LsR 4 rtcells (roD 9223372036854775807) Ax xs w) (hxl : xs.length ≤ 9223372036854775807) (cut : Int) (hcut : -9223372036854775808 ≤ cut ∧ cut ≤ 9223372036854775807) (hT : Tz w) (ht : Tab w) : Calls Tryz.prog 4 #[.agg #[.int .i64 f.inputs, .slice f.A f.las.length f.c], .slice Ax xs.length cx, .int .i64 cut] w fun e w' => e = .returned (.bool true) ∧ Below w.heap.size w w' := netSteps_all w n _ f h hm hml hT ht _ rfl Ax cx xs _ hx rfl hxl cut hcut
end Go.Proofs.YtplhmeiciiajcaaGreatDoor
