/-
 tripwirelaw14.LowerSays. LowerSays: its arguments. LowerSays returns true, whatever the input; no conditions: the row and its card.
-/
import Derived.Test.YtikmgoefjbhcjaaGreatDoorYL
import Derived.Test.YtikmgoefjbhcjaaGreatDoorMJ
import Derived.ChangeMaps5
namespace Go.Proofs.YtikmgoefjbhcjaaGreatDoor
set_option maxHeartbeats 16000000
open Go.RowKit

theorem zdN : ∀ (ls : List LaV) (n : Int), (zaU ls n).length = ls.length + 1
 | [], _ => rfl
 | l :: ls, n => by rw [zaU, List.length_cons, zdN ls, List.length_cons]
theorem zlt {w : World} {n m : Nat} {f : NeV} {Ax : Option Addr} {xs : List (RV × Rat)} (h : NeD n f w) (hm : ∀ l ∈ f.las, LaM l) (hP : f.las.length ≤ 6 ∧ ∀ l ∈ f.las, SmL 24 1 l) (hx : LsR 4 rtcells (roD m) Ax xs w) (hX : xs.length ≤ 30 ∧ ∀ p ∈ xs, shR 1 p.1) : SayIn w f xs :=
 ⟨LsR.imp h fun l hl hl' => (hP.2 l hl).d hl', hP.1, fun l hl => (hP.2 l hl).say ((hP.2 l hl).d (h.ok l hl)), fun l hl => (hm l hl).gc, hX.1, fun p hp => RatD.sz (RatD.short (show RatD p.1 p.2 m w from hx.ok p hp) (hX.2 p hp)) (by decide)⟩
theorem zmh {f : NeV} {w : World} {xs : List (RV × Rat)} (hS : SayIn w f xs) (hN : NetP w f 0) {os os2 : List RsV} (h : os.map RsV.q = trL f xs) (h2 : os2.map RsV.q = trL f xs) : os2.length = os.length ∧ os.length ≤ 100 ∧ ∀ i (hi : i < os.length) (hi2 : i < os2.length), (os[i]).q = (os2[i]).q ∧ (os[i]).l.length ≤ 1000000 ∧ ∀ q ∈ (os[i]).q, Sz q 5000 := by
 have e := zbp (h.trans h2.symm)
 refine ⟨e.1.symm, ?_, fun i hi hi2 => ⟨e.2 i hi hi2, ?_⟩⟩
 ·have h1 := congrArg List.length h
  rw [List.length_map] at h1
  unfold trL at h1
  split at h1
  ·unfold trQ at h1
   rw [List.length_map, List.length_range, List.length_map] at h1
   have := hS.n; omega
  ·rw [h1]; exact Nat.zero_le _
 ·have h1 := zmf hS hN (os[i]).q (by rw [← h]; exact List.mem_map_of_mem (List.getElem_mem hi))
  have h3 : (os[i]).q.length = (os[i]).l.length := List.length_map _
  exact ⟨by have := h1.1; omega, h1.2⟩
theorem LsR.rs {ok : RsV → World → Prop} {A : Option Addr} {l : List RsV} {w : World} (h : LsR 1 zaE ok A l w) (i : Nat) (hi : i < l.length) : w.cell? (adr A i) = some (.slice (l[i]).A (l[i]).l.length (l[i]).c) := by
 have h1 := h.el.cell (i := i) (j := 0) (by simpa using hi) (by decide)
 simpa [zaE] using h1
theorem zhF (w : World) : (sizeOf (Tryz.prog.elem 53)).run Tryz.prog w = .ok 1 w := zjv w
@[reducible] def W9 (W : World) (A : Option Addr) (k : Nat) (v : RsV) : Prop := W.cell? (adr A k) = some (.slice v.A v.l.length v.c)
set_option maxRecDepth 100000 in
theorem ze2 (w : World) (n m : Nat) (f : NeV) (h : NeD n f w) (hm : ∀ l ∈ f.las, LaM l) (hml : f.las.length ≤ 9223372036854775807) (hT : Tz w) (nl : Nat) (hnl : nl = f.las.length) (Ax : Option Addr) (cx : Nat) (xs : List (RV × Rat)) (nx : Nat) (hx : LsR 4 rtcells (roD m) Ax xs w) (hnx : nx = xs.length) (hxl : xs.length ≤ 9223372036854775807) : Calls Tryz.prog 4 #[.agg #[.int .i64 f.inputs, .slice f.A nl f.c], .slice Ax nx cx] w fun e w' => e = .returned (.bool true) ∧ Below w.heap.size w w' := by
 have Hw := zmZ h
 have Hxw := zmZ hx
 have Hn := zmZ hnl
 have Hm := zmZ hm
 have Hl := zmZ hml
 have Hx := zmZ hnx
 have Hxl := zmZ hxl
 obtain ⟨W0, hW0⟩ : ∃ W0, W0 = (w.alloc (.cells #[.int .i64 f.inputs, .slice f.A nl f.c] 24)) := ⟨_, rfl⟩
 have HE := zmZ (Env.lay1 (Env.start ((h.old).and (((NeD.iffR h)).and (((hx.old zaq)).and (hT.old))))) hW0)
 subst hW0
 have c := Env.c1 HE.out
 clear h hT hnl hm hml hx hnx hxl
 go_enter Tryz.func4, Tryz.ntmps4
 go_wp2_with fail
 refine (zd1 _ n f HE.out.o.1 Hm.out Hl.out 6 24 1 (by decide) nl Hn.out).mono ?_
 rintro e w1 ⟨⟨B, rfl, hB⟩, hb⟩
 have HB := zmZ hB
 replace HE := zmZ (Env.call HE.out hb)
 replace c := Env.c1 HE.out
 clear hB hb
 cases B
 ·go_wp2_with fail
  refine (zaY _ HE.out.o.2.2.2).mono ?_
  rintro e w9 ⟨rfl, hb⟩
  replace HE := zmZ (Env.call HE.out hb)
  clear hb
  go_wp2_with fail
  exact bodyPost_ret (v := .bool true) (by simp [results, Tryz.results4, go_sem]) rfl ⟨rfl, HE.out.bel⟩
 ·have HP := zmZ (HB.out rfl)
  clear HB
  go_wp2_with fail
  refine (zcR _ zaq Ax cx xs HE.out.o.2.2.1 Hxl.out 30 1 nx Hx.out).mono ?_
  rintro e w1 ⟨⟨B, rfl, hB⟩, hb⟩
  have HB := zmZ hB
  replace HE := zmZ (Env.call HE.out hb)
  replace c := Env.c1 HE.out
  clear hB hb
  cases B
  ·go_wp2_with fail
   refine (zaY _ HE.out.o.2.2.2).mono ?_
   rintro e w9 ⟨rfl, hb⟩
   replace HE := zmZ (Env.call HE.out hb)
   clear hb
   go_wp2_with fail
   exact bodyPost_ret (v := .bool true) (by simp [results, Tryz.results4, go_sem]) rfl ⟨rfl, HE.out.bel⟩
  ·have HX2 := zmZ (HB.out rfl)
   clear HB
   have HS := zmZ (zlt Hw.out Hm.out HP.out Hxw.out HX2.out)
   replace HE := zmZ (HE.out.imp (φ := (fun V => NeD 1 f V ∧ (∀ err, NetP V f err ↔ NetP w f err) ∧ LsR 4 rtcells (roD 1) Ax xs V ∧ Tz V)) (ψ := fun _ => True) (fun V h => ⟨LsR.imp h.1 fun l hl hl' => (HP.out.2 l hl).d hl', h.2.1, LsR.imp h.2.2.1 fun p hp hp' => RatD.short (show RatD p.1 p.2 _ V from hp') (HX2.out.2 p hp), h.2.2.2⟩) (fun _ _ => trivial))
   replace c := Env.c1 HE.out
   go_wp2_with fail
   refine (zcy _ 1 (by decide) (by decide) f HE.out.o.1 HS.out.s (fun l hl => by have := zdU (HS.out.say l hl); omega) HE.out.o.2.2.2 nl Hn.out).mono ?_
   rintro e w4 (⟨err, h0, hN, rfl, hb⟩ | ⟨hN, A2, c2, ls, rfl, hcap, hq, hk9, hb9⟩)
   ·have HN := zmZ ((HE.out.o.2.1 err).1 hN)
    have h1 : (err != 0) = true := by simp [h0]
    have hee := beq_self_eq_true err
    replace HE := zmZ (Env.call HE.out hb)
    clear hN h0 hb
    go_upto_region 4 with fail
    obtain ⟨W5, g4, hW, hg, HE⟩ := Env.al HE.out 24 #[.int .i64 0, .slice none 0 0]
    rw [hW, hg]
    clear hW hg
    replace c := (HE.out.bx ⟨w.heap.size, 24, #[.int .i64 f.inputs, .slice f.A nl f.c]⟩ (by simp)).cb
    have c4 := (HE.out.bx ⟨g4, 24, #[.int .i64 0, .slice none 0 0]⟩ (by simp)).cb
    go_wp2_with fail
    refine (zc4 _ 1 (by decide) (by decide) f HE.out.o.1 HS.out.s HE.out.o.2.2.2 nl Hn.out).mono ?_
    rintro e w6 ⟨⟨err2, rfl, hN⟩, hb⟩
    obtain rfl : err2 = err := NetP.uniq ((HE.out.o.2.1 err2).1 hN) HN.out
    replace HE := zmZ (Env.call HE.out hb)
    replace c := (HE.out.bx ⟨w.heap.size, 24, #[.int .i64 f.inputs, .slice f.A nl f.c]⟩ (by simp)).cb
    replace c4 := (HE.out.bx ⟨g4, 24, #[.int .i64 0, .slice none 0 0]⟩ (by simp)).cb
    clear hN hb
    go_wp2_with fail
    refine (zaY _ HE.out.o.2.2.2).mono ?_
    rintro e w9 ⟨rfl, hb⟩
    replace HE := zmZ (Env.call HE.out hb)
    clear hb
    go_wp2_with fail
    exact bodyPost_ret (v := .bool true) (by simp [results, Tryz.results4, go_sem]) rfl ⟨rfl, HE.out.bel⟩
   ·have HN := zmZ ((HE.out.o.2.1 0).1 hN)
    have HM := zmZ (show LowM f ls from ⟨hq, hcap.2⟩)
    replace HE := zmZ (Env.ret HE.out hk9 hb9)
    clear hN hq hk9 hb9 hcap
    obtain ⟨n2, hn2⟩ : ∃ x, x = List.length ls := ⟨_, rfl⟩
    rw [← hn2]
    have Hn2 := zmZ hn2
    have hn2b : n2 ≤ 100000 := by rw [hn2, HM.out.n]; have := HS.out.n; omega
    clear hn2
    go_upto_region 4 with fail
    obtain ⟨W5, g4, hW, hg, HE⟩ := Env.al HE.out 24 #[.int .i64 f.inputs, .slice A2 n2 c2]
    rw [hW, hg]
    clear hW hg
    replace HE := zmZ (HE.out.sink.imp (φ := (fun V => NeD 1 f V ∧ (∀ err, NetP V f err ↔ NetP w f err) ∧ LsR 4 rtcells (roD 1) Ax xs V ∧ Tz V ∧ LsR 13 lacells LaN A2 ls V)) (ψ := fun _ => True) (fun V h => ⟨h.2.1, h.2.2.1, h.2.2.2.1, h.2.2.2.2, h.1.1⟩) (fun _ _ => trivial))
    have c4 := (HE.out.bx ⟨g4, 24, #[.int .i64 f.inputs, .slice A2 n2 c2]⟩ (by simp)).cb
    clear c
    have slm := (HE.out.o.2.2.2.2).sl
    rw [← Hn2.out] at slm
    have szl := zb5
    have hadd := za3
    go_upto_region 7 with fail
    go_loopw [7] (fun iv wr => ∃ i : Nat, iv = .int .i64 (i : Int) ∧ i ≤ n2 ∧ Hid (Env w [⟨g4, 24, #[.int .i64 f.inputs, .slice A2 n2 c2]⟩, ⟨w.heap.size, 24, #[.int .i64 f.inputs, .slice f.A nl f.c]⟩] (fun V => NeD 1 f V ∧ (∀ err, NetP V f err ↔ NetP w f err) ∧ LsR 4 rtcells (roD 1) Ax xs V ∧ Tz V ∧ LsR 13 lacells LaN A2 ls V) (fun _ => True) wr)) (fun iv _ => n2 - (intOf iv).toNat)
    case atStart => exact ⟨0, rfl, Nat.zero_le _, HE⟩
    case round =>
     clear HE c4
     obtain ⟨i, rfl, hi, HE⟩ := hrel
     have c4 := (HE.out.bx ⟨g4, 24, #[.int .i64 f.inputs, .slice A2 n2 c2]⟩ (by simp)).cb
     by_cases hlt : i < n2
     ·have hlt2 : i < ls.length := by rw [← Hn2.out]; exact hlt
      have cl := HE.out.o.2.2.2.2.lac i hlt2
      have e0 : ((ls[i]).kind == 2) = false := by simpa using (HM.out.ok HS.out HN.out _ (List.getElem_mem hlt2)).2.2.1
      obtain ⟨p, hp⟩ : ∃ p, p = ls[i] := ⟨_, rfl⟩
      rw [← hp] at cl e0
      clear hp
      go_wp2_with fail
      go_roundw
      case rel => exact ⟨i + 1, by go_num, by omega, HE⟩
      case measure => (simp [intOf] <;> omega)
     ·obtain rfl : i = n2 := by omega
      clear hlt
      go_wp2_with fail
      refine (lo_m HM.out HS.out HN.out HE.out.o.2.2.2.1 HE.out.o.2.2.2.2 Hn2.out).mono ?_
      rintro e w6 ⟨A3, c3, ms, rfl, hq3, hk9, hb9⟩
      have HQ3 := zmZ hq3
      replace HE := zmZ (Env.ret HE.out hk9 hb9)
      clear hq3 hk9 hb9 c4
      obtain ⟨n3, hn3⟩ : ∃ x, x = List.length ms := ⟨_, rfl⟩
      rw [← hn3]
      have Hn3 := zmZ hn3
      clear hn3
      go_upto_region 12 with fail
      obtain ⟨W7, g6, hW, hg, HE⟩ := Env.al HE.out 24 #[.int .i64 f.inputs, .slice A3 n3 c3]
      rw [hW, hg]
      clear hW hg
      replace HE := zmZ (HE.out.sink.imp (φ := (fun V => NeD 1 f V ∧ (∀ err, NetP V f err ↔ NetP w f err) ∧ LsR 4 rtcells (roD 1) Ax xs V ∧ Tz V ∧ LsR 13 lacells LaN A2 ls V ∧ LsR 13 lacells LaN A3 ms V)) (ψ := fun _ => True) (fun V h => ⟨h.2.1, h.2.2.1, h.2.2.2.1, h.2.2.2.2.1, h.2.2.2.2.2, h.1.1⟩) (fun _ _ => trivial))
      have HC := zmZ (fun (V : World) (nw : World → Prop) (h : Env w [⟨g6, 24, #[.int .i64 f.inputs, .slice A3 n3 c3]⟩, ⟨g4, 24, #[.int .i64 f.inputs, .slice A2 i c2]⟩, ⟨w.heap.size, 24, #[.int .i64 f.inputs, .slice f.A nl f.c]⟩] (fun V => NeD 1 f V ∧ (∀ err, NetP V f err ↔ NetP w f err) ∧ LsR 4 rtcells (roD 1) Ax xs V ∧ Tz V ∧ LsR 13 lacells LaN A2 ls V ∧ LsR 13 lacells LaN A3 ms V) nw V) => show CB (w.heap.size) #[.int .i64 f.inputs, .slice f.A nl f.c] V ∧ CB g4 #[.int .i64 f.inputs, .slice A2 i c2] V ∧ CB g6 #[.int .i64 f.inputs, .slice A3 n3 c3] V from ⟨(h.bx ⟨w.heap.size, 24, #[.int .i64 f.inputs, .slice f.A nl f.c]⟩ (by simp)).cb, (h.bx ⟨g4, 24, #[.int .i64 f.inputs, .slice A2 i c2]⟩ (by simp)).cb, (h.bx ⟨g6, 24, #[.int .i64 f.inputs, .slice A3 n3 c3]⟩ (by simp)).cb⟩)
      have c := HC.out _ _ HE.out
      go_region_held3 (fun W => CB (w.heap.size) #[.int .i64 f.inputs, .slice f.A nl f.c] W ∧ CB g4 #[.int .i64 f.inputs, .slice A2 i c2] W ∧ CB g6 #[.int .i64 f.inputs, .slice A3 n3 c3] W) (first | with_reducible exact c | with_reducible exact HC.out _ _ HE.out.drew | ((repeat' apply And.intro) <;> go_keep))
       (first
        | (go_at_call 10; go_must (refine (ck_m HM.out HS.out HN.out (by with_reducible first | exact HE.out.o.2.2.2.1 | exact HE.out.drew.o.2.2.2.1) (by with_reducible first | exact HE.out.o.2.2.2.2.1 | exact HE.out.drew.o.2.2.2.2.1) Hn2.out).mono ?_; rintro e w7 ⟨rfl, hb⟩; replace HE := zmZ (Env.call (by with_reducible first | exact HE.out | exact HE.out.drew) hb); replace c := HC.out _ _ HE.out; clear hb))
        | (go_at_call_of 14 (#[.agg #[.int .i64 f.inputs, .slice A2 i c2]] : Array Value); go_must (refine (sz_m HM.out HS.out HN.out (by with_reducible first | exact HE.out.o.2.2.2.1 | exact HE.out.drew.o.2.2.2.1) (by with_reducible first | exact HE.out.o.2.2.2.2.1 | exact HE.out.drew.o.2.2.2.2.1) Hn2.out).mono ?_; rintro e w7 ⟨A7, c7, us7, rfl, hu7, hk, hb⟩; have HU7 := zmZ hu7; replace HE := zmZ (Env.ret (by with_reducible first | exact HE.out | exact HE.out.drew) hk hb); replace c := HC.out _ _ HE.out; clear hu7 hk hb))
        | (go_at_call_of 14 (#[.agg #[.int .i64 f.inputs, .slice f.A nl f.c]] : Array Value); go_must (refine (sz_n HS.out HN.out (by with_reducible first | exact HE.out.o.2.2.2.1 | exact HE.out.drew.o.2.2.2.1) (by with_reducible first | exact HE.out.o.1 | exact HE.out.drew.o.1) (by with_reducible first | exact HE.out.o.2.1 | exact HE.out.drew.o.2.1) Hn.out).mono ?_; rintro e w7 ⟨A8, c8, us8, rfl, hu8, hk, hb⟩; have HU8 := zmZ hu8; replace HE := zmZ (Env.ret (by with_reducible first | exact HE.out | exact HE.out.drew) hk hb); replace c := HC.out _ _ HE.out; clear hu8 hk hb))
        | (go_at_call 13; go_must (refine (zcz _ A7 A8 c7 c8 us7 us8 (by with_reducible first | exact HE.out.n.1 | exact HE.out.n.2.1 | exact HE.out.drew.n.1 | exact HE.out.drew.n.2.1) (by with_reducible first | exact HE.out.n.1 | exact HE.out.n.2.1 | exact HE.out.drew.n.1 | exact HE.out.drew.n.2.1) (by rw [HU7.out, zdN]; have := HS.out.n; omega) (by rw [HU7.out, HU8.out]) _ _ rfl rfl).mono ?_; rintro e w7 ⟨rfl, hb⟩; replace HE := zmZ (Env.call (by with_reducible first | exact HE.out | exact HE.out.drew) hb); replace c := HC.out _ _ HE.out; clear hb))
        | (go_at_call 11; go_must (refine (sn_m HM.out HS.out HN.out HQ3.out (by with_reducible first | exact HE.out.o.2.2.2.2.1 | exact HE.out.drew.o.2.2.2.2.1) (by with_reducible first | exact HE.out.o.2.2.2.2.2 | exact HE.out.drew.o.2.2.2.2.2) Hn2.out Hn3.out).mono ?_; rintro e w7 ⟨rfl, hb⟩; replace HE := zmZ (Env.call (by with_reducible first | exact HE.out | exact HE.out.drew) hb); replace c := HC.out _ _ HE.out; clear hb)))
      all_goals
       replace HE : Hid (Env w [⟨g6, 24, #[.int .i64 f.inputs, .slice A3 n3 c3]⟩, ⟨g4, 24, #[.int .i64 f.inputs, .slice A2 i c2]⟩, ⟨w.heap.size, 24, #[.int .i64 f.inputs, .slice f.A nl f.c]⟩] (fun V => NeD 1 f V ∧ (∀ err, NetP V f err ↔ NetP w f err) ∧ LsR 4 rtcells (roD 1) Ax xs V ∧ Tz V ∧ LsR 13 lacells LaN A2 ls V ∧ LsR 13 lacells LaN A3 ms V) (fun _ => True) _) := zmZ (Env.imp (by with_reducible first | exact HE.out | exact HE.out.drew) (fun _ h => h) (fun _ _ => trivial))
       replace c := HC.out _ _ HE.out
       go_wp2_with fail
       refine (tr_n HS.out HN.out (by with_reducible first | exact HE.out.o.2.2.2.1 | exact HE.out.drew.o.2.2.2.1) (by with_reducible first | exact HE.out.o.1 | exact HE.out.drew.o.1) (by with_reducible first | exact HE.out.o.2.1 | exact HE.out.drew.o.2.1) Hn.out (by with_reducible first | exact HE.out.o.2.2.1 | exact HE.out.drew.o.2.2.1) Hx.out).mono ?_
       rintro e w8 ⟨A7, c7, os, rfl, hq7, hk, hb⟩
       have HQ7 := zmZ hq7
       replace HE := zmZ (Env.ret (by with_reducible first | exact HE.out | exact HE.out.drew) hk hb)
       clear hq7 hk hb
       replace c := HC.out _ _ HE.out
       go_wp2_with fail
       refine (tr_m HM.out HS.out HN.out (by with_reducible first | exact HE.out.o.2.2.2.1 | exact HE.out.drew.o.2.2.2.1) (by with_reducible first | exact HE.out.o.2.2.2.2.1 | exact HE.out.drew.o.2.2.2.2.1) Hn2.out (by with_reducible first | exact HE.out.o.2.2.1 | exact HE.out.drew.o.2.2.1) Hx.out).mono ?_
       rintro e w9 ⟨A8, c8, os2, rfl, hq8, hk, hb⟩
       have HSA := zmZ (zmh HS.out HN.out HQ7.out hq8)
       replace HE := zmZ (Env.ret (by with_reducible first | exact HE.out | exact HE.out.drew) hk hb)
       clear hq8 hk hb c HQ7
       obtain ⟨Z, hZ⟩ : ∃ Z, Z = trE f xs := ⟨_, rfl⟩
       rw [← hZ]
       clear hZ
       have hzz : (Z != Z) = false := by simp
       obtain ⟨n7, hn7⟩ : ∃ x, x = List.length os := ⟨_, rfl⟩
       rw [HSA.out.1, ← hn7]
       have Hn7 := zmZ hn7
       have h77 : ((n7 : Int) != (n7 : Int)) = false := by simp
       have hn7b : n7 ≤ 100 := by rw [hn7]; exact HSA.out.2.1
       clear hn7
       have sl7 := HE.out.n.2.1.sl
       have sl8 := HE.out.n.1.sl
       rw [← Hn7.out] at sl7
       rw [HSA.out.1, ← Hn7.out] at sl8
       have szz := zhF
       go_upto_region 19 with fail
       replace HE := zmZ (HE.out.imp (φ := Tz) (ψ := (fun V => LsR 1 zaE rsN A8 os2 V ∧ LsR 1 zaE rsN A7 os V)) (fun _ h => h.2.2.2.1) (fun _ h => ⟨h.1, h.2.1⟩))
       go_loopw [14] (fun iv wr => ∃ k : Nat, iv = .int .i64 (k : Int) ∧ k ≤ n7 ∧ Hid (Env w [⟨g6, 24, #[.int .i64 f.inputs, .slice A3 n3 c3]⟩, ⟨g4, 24, #[.int .i64 f.inputs, .slice A2 i c2]⟩, ⟨w.heap.size, 24, #[.int .i64 f.inputs, .slice f.A nl f.c]⟩] Tz (fun V => LsR 1 zaE rsN A8 os2 V ∧ LsR 1 zaE rsN A7 os V) wr)) (fun iv _ => n7 - (intOf iv).toNat)
       case atStart => exact ⟨0, rfl, Nat.zero_le _, HE⟩
       case round =>
        clear HE
        obtain ⟨k, rfl, hk, HE⟩ := hrel
        by_cases hlt : k < n7
        ·have hk7 : k < os.length := by rw [← Hn7.out]; exact hlt
         have hk8 : k < os2.length := by rw [HSA.out.1]; exact hk7
         have HRW := zmZ (HSA.out.2.2 k hk7 hk8)
         have HD := zmZ (fun (V : World) (h : LsR 1 zaE rsN A8 os2 V ∧ LsR 1 zaE rsN A7 os V) => show (W9 V A7 k os[k] ∧ W9 V A8 k os2[k]) ∧ rsN os[k] V ∧ rsN os2[k] V from ⟨⟨h.2.rs k hk7, h.1.rs k hk8⟩, h.2.ok _ (List.getElem_mem hk7), h.1.ok _ (List.getElem_mem hk8)⟩)
         obtain ⟨u, hu⟩ : ∃ u, u = os[k] := ⟨_, rfl⟩
         obtain ⟨v, hv⟩ : ∃ v, v = os2[k] := ⟨_, rfl⟩
         rw [← hu, ← hv] at HRW HD
         clear hu hv
         have c := (HD.out _ HE.out.n).1
         go_upto_region 21 with fail
         go_region_held3 (fun W => W9 W A7 k u ∧ W9 W A8 k v) (first | with_reducible exact c | with_reducible exact (HD.out _ HE.out.drew.n).1 | ((repeat' apply And.intro) <;> go_keep))
          (first
           | (go_at_call 16; go_must (refine (ziX _ u v (by with_reducible first | exact (HD.out _ HE.out.n).2.1 | exact (HD.out _ HE.out.drew.n).2.1) (by with_reducible first | exact (HD.out _ HE.out.n).2.2 | exact (HD.out _ HE.out.drew.n).2.2) HRW.out.1 HRW.out.2.1 HRW.out.2.2).mono ?_; rintro e w7 ⟨rfl, hb⟩; replace HE := zmZ (Env.call (by with_reducible first | exact HE.out | exact HE.out.drew) hb); replace c := (HD.out _ HE.out.n).1; clear hb)))
         go_wp2_with fail
         go_roundw
         case rel => exact ⟨k + 1, by go_num, by omega, zmZ (by with_reducible first | exact HE.out | exact HE.out.drew)⟩
         case measure => (simp [intOf] <;> omega)
        ·obtain rfl : k = n7 := by omega
         clear hlt
         go_wp2_with fail
         refine (zaY _ HE.out.o).mono ?_
         rintro e w9 ⟨rfl, hb⟩
         replace HE := zmZ (Env.call HE.out hb)
         clear hb
         go_wp2_with fail
         exact bodyPost_ret (v := .bool true) (by simp [results, Tryz.results4, go_sem]) rfl ⟨rfl, HE.out.bel⟩
theorem zee (w : World) (n m : Nat) (f : NeV) (h : NeD n f w) (hm : ∀ l ∈ f.las, LaM l) (hml : f.las.length ≤ 9223372036854775807) (hT : Tz w) (Ax : Option Addr) (cx : Nat) (xs : List (RV × Rat)) (hx : LsR 4 rtcells (roD m) Ax xs w) (hxl : xs.length ≤ 9223372036854775807) : Calls Tryz.prog 4 #[.agg #[.int .i64 f.inputs, .slice f.A f.las.length f.c], .slice Ax xs.length cx] w fun e w' => e = .returned (.bool true) ∧ Below w.heap.size w w' := ze2 w n m f h hm hml hT _ rfl Ax cx xs _ hx rfl hxl
open Go.ChangeShapes Go.WideShapes Go.ChangeAt Go.RowKit Go.Deep

section
variable {H : Type} {enc : TypeId × Value → H} {w : World} {b : Nat} {sp : Nat → Bool} {hd : Bool}
set_option maxRecDepth 100000 in
theorem ziR {b0 : Nat} {rr : Reach} {v : Value} {d : DataW H} {p : List MemPlace} (hv : Value.okWide Tryz.prog w rr b0 33 v) (h : DataW.Trod enc Tryz.prog w b sp hd 33 v d p) :
 ∃ A c l, v = .slice A (List.length l) c ∧ l.length ≤ 9223372036854775807 ∧ LsR 4 rtcells (roD 9223372036854775807) A l w := by
 obtain ⟨a, len, cap, rfl⟩ := okWide_slice Tryz.underlying33 hv
 obtain ⟨n, hf⟩ := h
 exact zft hf
end
theorem zes (w : World) (n : Nat) (f : NeV) (h : NeD n f w) (hm : ∀ l ∈ f.las, LaM l) (hml : f.las.length ≤ 9223372036854775807) (Ax : Option Addr) (cx : Nat) (xs : List (RV × Rat)) (hx : LsR 4 rtcells (roD 9223372036854775807) Ax xs w) (hxl : xs.length ≤ 9223372036854775807) (hT : Tz w) : Calls Tryz.prog 4 #[.agg #[.int .i64 f.inputs, .slice f.A f.las.length f.c], .slice Ax xs.length cx] w fun e w' => e = .returned (.bool true) ∧ Below w.heap.size w w' := zee w n _ f h hm hml hT Ax cx xs hx hxl
end Go.Proofs.YtikmgoefjbhcjaaGreatDoor
namespace Go.Proofs.YtikmgoefjbhcjaaGreatDoor.lowerSays
set_option maxHeartbeats 16000000
open Go.ChangeShapes Go.WideShapes Go.ChangeAt Go.RowKit Go.ChangeMaps

set_option maxRecDepth 100000 in
theorem zej (H : Type) (enc : TypeId × Value → H) (W : World) (base : Nat) (args : Array Value) (ds gs : List (DataW H)) (before : List MemPlace)
 (hval : ∀ (j : Nat) t v, Tryz.f4.params[j]? = some t → args[j]? = some v → Value.okWide Tryz.prog W .any base t v)
 (hW : DataW.Whole enc Tryz.prog Tryz.f4.params.toList Rows.lowerSaysSpec.vars false W args.toList ds gs before) (hL : laidMetH Tryz.prog Rows.lowerSaysRow.laid W) :
 Calls Tryz.prog 4 args W fun e W' => ∃ v, e = .returned v ∧ Rows.lowerSaysSpec.post enc Tryz.prog Tryz.f4 false true false false W args v W' := by
 have hW' := hW
 have hlt := hW.lt
 obtain ⟨p, q, hA, hV, rfl, hfz, hnd⟩ := hW
 obtain ⟨rfl, rfl⟩ := trodVars_none hV
 rw [Tryz.params4] at hA
 obtain ⟨v0, vs0, d0, ds0, p0, q0, hargs, rfl, rfl, h0, t0⟩ := trodAll_cons hA
 obtain ⟨v1, vs1, d1, ds1, p1, q1, rfl, rfl, rfl, h1, t1⟩ := trodAll_cons t0
 obtain ⟨rfl, rfl, rfl⟩ := trodAll_nil t1
 obtain rfl : args = #[v0, v1] := by cases args; simp_all
 obtain ⟨f0, rfl, hn0, hm0, x0⟩ := zi9 (hval 0 _ v0 (by rw [Tryz.params4]; rfl) rfl) h0
 obtain ⟨A1, c1, l1, rfl, hn1, hr1⟩ := ziR (hval 1 _ v1 (by rw [Tryz.params4]; rfl) rfl) h1
 refine (zes W 9223372036854775807 f0 x0 hm0 hn0 A1 c1 l1 hr1 hn1 (zmk hL)).mono fun e W' ⟨he, hb⟩ => ?_
 subst he
 exact ⟨_, rfl, zeK hW' rfl rfl rfl hb (by rw [Tryz.params4]; simpa only [List.append_nil] using trodAll_cons_mk (Below.trod zfu (by kernel_rfl) (of_decide_eq_true (by kernel_rfl)) h0 hb (fun x hx => hlt x (by simp [hx]))) (trodAll_cons_mk (Below.trod zfu (by kernel_rfl) (of_decide_eq_true (by kernel_rfl)) h1 hb (fun x hx => hlt x (by simp [hx]))) (trodAll_mk0)))⟩

theorem ze0 (os : Os) : laidMet Tryz.prog Rows.lowerSaysRow.laid ((zby os).forCall (fun _ _ => 0) ⟨#[], #[.agg #[.int .i64 0, .slice none 0 0], .slice none 0 0], []⟩).memory :=
 laidMet_of_run' 8 (by kernel_rfl) (by kernel_rfl)
theorem reads (os : Os) {H : Type} (enc : TypeId × Value → H) : ∃ places, DataW.whole enc Tryz.prog ((zby os).forCall (fun _ _ => 0) ⟨#[], #[.agg #[.int .i64 0, .slice none 0 0], .slice none 0 0], []⟩).memory Tryz.f4.params.toList Rows.lowerSaysSpec.vars false (#[.agg #[.int .i64 0, .slice none 0 0], .slice none 0 0] : Array Value).toList 8 = some ([.agg [.lit (.int .i64 0), .nil], .nil], [], places) :=
 ⟨[], by kernel_rfl⟩

set_option maxRecDepth 100000 in
theorem zhK (os : Os) (started : os.Started) (H : Type) (enc : TypeId × Value → H) (F : Stop.Interp) :
 ReturnsInHanded {} Tryz.checked os 4 .any ((OpenSpec.ofChange Rows.lowerSaysSpec).preRow enc Tryz.prog Tryz.f4 Rows.lowerSaysRow.domain false Rows.lowerSaysRow.laid) (((OpenSpec.ofChange Rows.lowerSaysSpec).at F).post enc Tryz.prog Tryz.f4 false true false false) := by
 obtain ⟨places, hx⟩ := reads os enc
 refine returnsInHanded_of_row (C := Tryz.checked) (s := OpenSpec.ofChange Rows.lowerSaysSpec) own started (by kernel_rfl) Tryz.func4
  (witness_row_at (enc := enc) (C := Tryz.checked) false (zby os) #[.agg #[.int .i64 0, .slice none 0 0], .slice none 0 0] rfl (by kernel_rfl) (by kernel_rfl) (by kernel_rfl)
   (OpenSpec.preRow_of_cond 8 hx (by kernel_rfl) (fun k hk => by cases hk) (by kernel_rfl) (ze0 os))) ?_
 intro W base args ds gs before hval hW _ _ _ hL _ _
 exact zej H enc W base args ds gs before hval hW hL

theorem zhi {a b : Bool} (h : a = true) (h' : b = true) : (a && b) = true := by rw [h, h']; rfl
theorem zeV : joinedFacts Tryz.pinned.checked.prog 4 Tryz.f4 (OpenSpec.ofChange Rows.lowerSaysSpec).bare Rows.lowerSaysRow = true := by
 unfold joinedFacts
 repeat' (with_reducible refine zhi ?_ ?_)
 all_goals (as_aux_lemma => kernel_rfl)
theorem said : Rows.LowerSaysSaid :=
 OpenClaim.holds_of_cond 4 Tryz.f4 rfl rfl rfl rfl rfl rfl rfl ⟨rfl, rfl, rfl, rfl, rfl⟩ rfl rfl rfl rfl rfl (by kernel_rfl) Tryz.func4 zeV
  (of_decide_eq_true (by kernel_rfl)) (by unfold Func.isWrapper; first | (rw [if_pos (by decide +kernel)]; kernel_rfl) | (rw [if_neg (by decide +kernel)]; exact ⟨rfl, rfl⟩))
  (fun os started H enc _ F => by rw [OpenClaim.pre_eq_preRow]; exact zhK os started H enc F)

theorem plain (f : FuncId) (fn : Func) (hf : Tryz.pinned.checked.prog.funcNamed "tripwire/tripwirelaw14.LowerSays" = some f) (hfn : Tryz.pinned.checked.prog.funcs[f]? = some fn) :
 false = Tryz.pinned.checked.prog.looks [] ∧ ∀ (j : Nat) t, fn.params[j]? = some t → Tryz.pinned.checked.prog.wantsStandIn t = false := by
 obtain rfl : f = 4 := Option.some.inj ((show Tryz.prog.funcNamed "tripwire/tripwirelaw14.LowerSays" = some 4 by kernel_rfl).symm.trans hf) |>.symm
 obtain rfl : fn = Tryz.f4 := (Option.some.inj (Tryz.func4.symm.trans hfn)).symm
 refine ⟨by kernel_rfl, fun j t ht => ?_⟩
 rw [Tryz.params4] at ht
 match j, ht with
 | 0, ht => have e := Option.some.inj ht; rw [← e]; exact (show Tryz.prog.wantsStandIn 24 = false by kernel_rfl)
 | 1, ht => have e := Option.some.inj ht; rw [← e]; exact (show Tryz.prog.wantsStandIn 33 = false by kernel_rfl)
 | n + 2, ht => simp at ht

theorem card : Rows.LowerSaysCardSaid :=
 Claim7.holds_tied_plain_at .later [] _ _ _ _ said (fun _ h => by cases h) (by kernel_rfl) (fun _ h => by cases h) lowerSays_row_tie rfl ⟨rfl, rfl⟩ (by kernel_rfl) rfl plain (by kernel_rfl)
end Go.Proofs.YtikmgoefjbhcjaaGreatDoor.lowerSays
#print axioms Go.Proofs.YtikmgoefjbhcjaaGreatDoor.lowerSays.card
