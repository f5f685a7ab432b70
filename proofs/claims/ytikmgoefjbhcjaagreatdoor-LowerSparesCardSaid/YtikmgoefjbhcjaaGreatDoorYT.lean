/-
 tripwirelow: copies, whose blocks are typed and not frozen. tripwirelow.CopyNet: its blocks are typed and not frozen. Nets of the same words say the same, and are refused by the same error. A copied net that is written over.
-/
import Derived.Test.YtikmgoefjbhcjaaGreatDoorNU
import Derived.Test.YtikmgoefjbhcjaaGreatDoorYL
namespace Go.Proofs.YtikmgoefjbhcjaaGreatDoor
set_option maxHeartbeats 16000000
open Go.RowKit

def Ty (lo : Nat) (V : World) (A : Option Addr) (m : Nat) (e : TypeId) : Prop := 0 < m → ∃ g cur, A = some ⟨g, 0, none⟩ ∧ lo ≤ g ∧ Blk V g e cur ∧ m ≤ cur.size
theorem Ty.lo {lo lo' : Nat} {V : World} {A : Option Addr} {m : Nat} {e : TypeId} (h : Ty lo' V A m e) (hl : lo ≤ lo') : Ty lo V A m e := fun h0 => by
 obtain ⟨g, cur, h1, h2, h3⟩ := h h0
 exact ⟨g, cur, h1, Nat.le_trans hl h2, h3⟩
theorem OwnE.ty {w : World} {B : Nat} {e : TypeId} {sz n c : Nat} {A : Option Addr} {cs : List (Array Value)} (h : OwnE w B e sz (.slice A n c) cs) : Rests w (B ≤ ·) (fun V => Ty B V A (n * sz) e) := by
 obtain ⟨hs, h⟩ := h
 rcases h.2 with ⟨h1, h2⟩ | ⟨g, cap, cur, hv, hg, hh, hn, hm, hsz, ht⟩
 ·have e1 : n = 0 := by injection h1
  subst e1
  exact ⟨fun h0 => absurd h0 (by simp), fun _ _ h0 => absurd h0 (by simp)⟩
 ·have e1 : A = some ⟨g, 0, none⟩ := by injection hv
  have e2 : n = cs.length := by injection hv
  have hl : n * sz ≤ cur.size := by rw [hsz, e2]; exact Nat.mul_le_mul_right _ hn
  exact ⟨fun _ => ⟨g, cur, e1, hg, hh, hl⟩, fun w' hw _ => ⟨g, cur, e1, hg, (hw g hg (show Blk w g e cur from hh).lt).trans hh, hl⟩⟩
def capR (r : RV) : Prop := r.num.k ≤ r.num.c ∧ r.den.k ≤ r.den.c
def nwC (p : RV × Wd) (V : World) : Prop := capR p.1 ∧ nwD p V
def twC (t : TwV) (V : World) : Prop := capR t.r ∧ twD t V
def vwT (lo : Nat) (v : VwV) (V : World) : Prop := LsR 5 twcells twC v.A v.ts V ∧ Ty lo V v.A (v.ts.length * 5) 45
def grT (lo : Nat) (g : GrV) (V : World) : Prop := grC g V ∧ Ty lo V g.A (g.l.length * 1) 3
theorem vwT.lo {lo lo' : Nat} {v : VwV} {V : World} (h : vwT lo' v V) (hl : lo ≤ lo') : vwT lo v V := ⟨h.1, h.2.lo hl⟩
theorem grT.lo {lo lo' : Nat} {v : GrV} {V : World} (h : grT lo' v V) (hl : lo ≤ lo') : grT lo v V := ⟨h.1, h.2.lo hl⟩
def ziu {β κ : Type} (T : TypeId) (k : Nat) (cells : β → Array Value) (ok : β → World → Prop) (g : β → κ) (ks : List κ) (w : World) (e : Ending) (w' : World) : Prop :=
 ∃ A c os, e = .returned (.slice A (List.length os) c) ∧ List.length os ≤ c ∧ os.map g = ks ∧ Rests w' (w.heap.size ≤ ·) (fun V => LsR k cells ok A os V ∧ Ty w.heap.size V A (List.length os * k) T) ∧ Below w.heap.size w w'
set_option maxRecDepth 100000 in
theorem zgF (w : World) (r : RV) (a b : Bool) (l m : List Nat) (hl : l.length ≤ 1000000) (hm : m.length ≤ 1000000) (h : Raw r a b l m w) :
 Calls Tryz.prog 44 #[rA r] w fun e w' => ∃ y : RV, e = .returned (rA y) ∧ capR y ∧ Rests w' (w.heap.size ≤ ·) (Raw y a b l m) ∧ Below w.heap.size w w' := by
 have Hn := zmZ h.nk
 have Hd := zmZ h.dk
 have Ha := zmZ h.na
 have Hb := zmZ h.da
 have HE := zmZ (lyRZ r (h.old))
 have c := Env.c2 HE.out
 have dd := Env.d2 HE.out
 clear h
 unfold rA
 go_enter Tryz.func44, Tryz.ntmps44
 go_wp2_with fail
 go_region_held3 (fun W => CB (w.heap.size) #[.bool r.num.neg, .slice r.num.A r.num.k r.num.c, .bool r.den.neg, .slice r.den.A r.den.k r.den.c] W) (first | with_reducible exact c.2 | ((repeat' apply And.intro) <;> go_keep) | exact c.2)
  (first
   | (go_at_call_of 78 ((#[.slice r.num.A r.num.k r.num.c] : Array Value)); go_must (refine ((zbM _ r.num.A r.num.c r.num.k l hl Hn.out (by first | exact HE.out.o.nr | exact HE.out.drew.o.nr))).mono ?_; rintro e w1 ⟨A1, c1, rfl, hcp, hrd, hb, hf⟩; replace HE := zmZ (Env.rx HE.out (za7 hrd (fun k hk => hf k hk)) hb); replace c := Env.c2 HE.out; have Hc1 := zmZ hcp; clear hcp hrd hb hf))
   | (go_at_call_of 78 ((#[.slice r.den.A r.den.k r.den.c] : Array Value)); go_must (refine ((zbM _ r.den.A r.den.c r.den.k m hm Hd.out (by first | exact HE.out.o.dr | exact HE.out.drew.o.dr))).mono ?_; rintro e w2 ⟨A2, c2, rfl, hcp, hrd, hb, hf⟩; replace HE := zmZ (Env.rx HE.out (za7 hrd (fun k hk => hf k hk)) hb); replace c := Env.c2 HE.out; have Hc2 := zmZ hcp; clear hcp hrd hb hf)))
 all_goals
  go_wp2_with fail
  have hE := HE.out.put4 (.bool r.num.neg) (.slice A1 l.length c1) (.bool r.den.neg) (.slice A2 m.length c2)
  replace c := Env.c2 hE
  exact bodyPost_ret (v := .agg #[.bool r.num.neg, .slice A1 l.length c1, .bool r.den.neg, .slice A2 m.length c2]) (by simp [results, Tryz.results44, go_sem, c]) rfl ⟨⟨⟨r.num.neg, A1, l.length, c1⟩, ⟨r.den.neg, A2, m.length, c2⟩⟩, rfl, ⟨Hc1.out, Hc2.out⟩, (hE.rsn.imp fun _ h => ⟨Ha.out, rfl, h.2.1, Hb.out, rfl, h.1⟩).mono fun _ h => h.1, hE.bel⟩
theorem zf0 (w : World) (r : RV) (x : Wd) (h : RawW r x w) : Calls Tryz.prog 44 #[rA r] w fun e w' => ∃ y : RV × Wd, e = .returned (.agg #[.bool y.1.num.neg, .slice y.1.num.A y.1.num.k y.1.num.c, .bool y.1.den.neg, .slice y.1.den.A y.1.den.k y.1.den.c]) ∧ y.2 = x ∧ Rests w' (w.heap.size ≤ ·) (nwC y) ∧ Below w.heap.size w w' :=
 (zgF w r x.a x.b x.l x.m h.l h.m h.raw).mono fun _e _w' ⟨y, h1, h0, h2, h3⟩ => ⟨(y, x), h1, rfl, h2.imp fun _V k => ⟨h0, k, h.l, h.m⟩, h3⟩
set_option maxRecDepth 100000 in
theorem zkD (w : World) (A : Option Addr) (c : Nat) (l : List Int) (h : LsR 1 icells okI A l w) (hl : l.length ≤ 1000000) (nl : Nat) (hnl : nl = l.length) :
 Calls Tryz.prog 26 #[.slice A nl c] w (ziu 3 1 icells okI id (l.map id) w) := by
 obtain ⟨v', w', hrun, ho, hb⟩ := zcW w A c l hl h
 rw [← hnl] at hrun
 obtain ⟨A1, c1, hv, hc1, hr1⟩ := ho.reads
 rw [List.length_map] at hv hc1
 subst hv
 have Hrun := zmZ hrun
 have Hc := zmZ hc1
 have Hr := zmZ hr1
 have Hb := zmZ hb
 have Ht := zmZ ho.ty
 clear hrun ho hb h hnl hl hc1 hr1
 go_enter Tryz.func26, Tryz.ntmps26
 go_wp2_with (at_builtin; refine za1 rfl (.tmp 4) (.tmp 5) 46 _ _ _ rfl rfl rfl Hrun.out ?_)
 go_ret
 exact ⟨A1, c1, l, rfl, Hc.out, rfl, (Hr.out.and Ht.out).imp fun V h => ⟨⟨h.1, fun _ _ => trivial⟩, h.2⟩, Hb.out⟩
theorem zgb (w : World) (g : GrV) (h : grD g w) (hl : g.l.length ≤ 1000000) : Calls Tryz.prog 26 #[.slice g.A g.l.length g.c] w fun e w' => ∃ y : GrV, e = .returned (.slice y.A y.l.length y.c) ∧ y.l = g.l ∧ Rests w' (w.heap.size ≤ ·) (grT w.heap.size y) ∧ Below w.heap.size w w' :=
 (zkD w g.A g.c g.l h hl _ rfl).mono fun e w' ⟨A, c, os, h1, h2, h3, h4, h5⟩ => ⟨⟨A, c, os⟩, h1, by simpa using h3, h4.imp fun _ h => ⟨⟨h2, h.1⟩, h.2⟩, h5⟩
set_option maxRecDepth 100000 in
theorem zi6 (w : World) (A : Option Addr) (c : Nat) (l : List (RV × Wd)) (h : LsR 4 nwcells nwD A l w) (hl : l.length ≤ 100000)  (nl : Nat) (hnl : nl = l.length) :
 Calls Tryz.prog 25 #[.slice A nl c] w (ziu 41 4 (nwcells : RV × Wd → Array Value) nwC (Prod.snd) (l.map (Prod.snd)) w) := by
 have sl1 := h.sl
 rw [← hnl] at sl1
 have hsz2 := zak
 have hadd := za3
 have hnb : nl ≤ 100000 := by omega
 have Hn := zmZ hnl
 have Hl := zmZ hl
 have HG := zmZ ((GL.start (Env.start (h.old zc6))).new_ 41 4)
 clear h hnl hl
 go_enter Tryz.func25, Tryz.ntmps25
 go_wp2_with fail
 go_loopw [3, 4] (fun ov iv wr => ∃ (Ao : Option Addr) (co i : Nat) (os : List (RV × Wd)), ov = .slice Ao os.length co ∧ iv = .int .i64 (i : Int) ∧ i ≤ nl ∧ Hid (os.map (Prod.snd) = (l.take i).map (Prod.snd)) ∧ Hid (GL w [⟨41, 4, .slice Ao os.length co, os.map nwcells⟩] (fun V => LsR 4 nwcells nwD A l V) (fun V => ∀ y ∈ os, nwC y V) wr)) (fun _ iv _ => nl - (intOf iv).toNat)
 case atStart => exact ⟨none, 0, 0, [], rfl, rfl, Nat.zero_le _, zmZ rfl, zmZ (HG.out.imp (fun _ h => h.2) (fun _ _ => by simp))⟩
 case round =>
  clear HG
  obtain ⟨Ao, co, i, os, rfl, rfl, hi, HM, HG⟩ := hrel
  by_cases hlt : i < nl
  ·have hlt2 : i < l.length := by rw [← Hn.out]; exact hlt
   have HE := zmZ HG.out.env
   have HX := zmZ (fun (V : World) (h : LsR 4 nwcells nwD A l V) => h.nw i hlt2)
   have HM2 := zmZ (fun (y : Wd) (hy : y = (Prod.snd) l[i]) => zau HM.out hlt2 hy)
   have hos := congrArg List.length HM.out
   rw [List.length_map, List.length_map, List.length_take] at hos
   have hosl : os.length ≤ 100000 := by have := Hl.out; omega
   clear hos
   have HP := zmZ (fun (V : World) (h1 : LsR 4 nwcells nwD A l V) => h1.ok _ (List.getElem_mem hlt2))
   obtain ⟨p, hp⟩ : ∃ p, p = l[i] := ⟨_, rfl⟩
   rw [← hp] at HX HM2 HP
   have Hm := zmZ (show p ∈ l by rw [hp]; exact List.getElem_mem hlt2)
   clear hp
   have c0 := HX.out _ HE.out.o.1
   go_wp2_with fail
   refine (zf0 _ p.1 p.2 (HP.out _ HE.out.o.1)).mono ?_
   rintro e w3 ⟨y, rfl, hy, hk, hb⟩
   have HM3 := zmZ (HM2.out _ hy)
   replace HE := zmZ (Env.ret HE.out hk hb)
   obtain ⟨A', c', w8, hrun, hG⟩ := GL.appX (cells := nwcells) zb0 zbO rfl (by decide) (by decide) HG.out HE.out y rfl (zdj y) (by omega)
   have Hrun := zmZ hrun
   have HG2 := zmZ hG
   clear hrun hG hk hb hy c0
   go_wp2_with (at_builtin; refine za1 rfl (.tmp 11) (.tmp 17) 33 _ _ _ rfl rfl rfl Hrun.out ?_)
   clear Hrun
   go_wp2_with fail
   go_roundw
   case rel => exact ⟨A', c', i + 1, os ++ [y], by simp, by go_num, by omega, zmZ (by rw [List.map_append]; exact HM3.out), zmZ (HG2.out.imp (fun _ h => h) (fun V h p hp => by
    rcases List.mem_append.1 hp with hp | hp
    ·exact h.2 p hp
    ·rw [List.mem_singleton.1 hp]; exact h.1.1))⟩
   case measure => (simp [intOf] <;> omega)
  ·obtain rfl : i = nl := by omega
   obtain ⟨A', c', hv, hc, hr⟩ := HG.out.tell (cells := nwcells) (ok := nwC) (l := os) (fun V h => h)
   obtain ⟨rfl, rfl⟩ : Ao = A' ∧ co = c' := by simpa using hv
   have Hr := zmZ (hr.and (HG.out.own _ (List.mem_cons_self ..)).ty)
   have Hc := zmZ hc
   have Hbel := zmZ HG.out.bel
   clear hr hv HG hc
   go_wp2_with fail
   go_ret
   exact ⟨Ao, co, os, rfl, Hc.out, by rw [HM.out, Hn.out, List.take_length], Hr.out, Hbel.out⟩
set_option maxRecDepth 100000 in
theorem zlU (w : World) (A : Option Addr) (c : Nat) (l : List (TwV)) (h : LsR 5 twcells twD A l w) (hl : l.length ≤ 100000)  (nl : Nat) (hnl : nl = l.length) :
 Calls Tryz.prog 43 #[.slice A nl c] w (ziu 45 5 (twcells : TwV → Array Value) twC (twq) (l.map (twq)) w) := by
 have sl1 := h.sl
 rw [← hnl] at sl1
 have hsz2 := zas
 have hadd := za3
 have hnb : nl ≤ 100000 := by omega
 have Hn := zmZ hnl
 have Hl := zmZ hl
 have HG := zmZ ((GL.start (Env.start (h.old zcn))).new_ 45 5)
 clear h hnl hl
 go_enter Tryz.func43, Tryz.ntmps43
 go_wp2_with fail
 go_loopw [3, 4] (fun ov iv wr => ∃ (Ao : Option Addr) (co i : Nat) (os : List (TwV)), ov = .slice Ao os.length co ∧ iv = .int .i64 (i : Int) ∧ i ≤ nl ∧ Hid (os.map (twq) = (l.take i).map (twq)) ∧ Hid (GL w [⟨45, 5, .slice Ao os.length co, os.map twcells⟩] (fun V => LsR 5 twcells twD A l V) (fun V => ∀ y ∈ os, twC y V) wr)) (fun _ iv _ => nl - (intOf iv).toNat)
 case atStart => exact ⟨none, 0, 0, [], rfl, rfl, Nat.zero_le _, zmZ rfl, zmZ (HG.out.imp (fun _ h => h.2) (fun _ _ => by simp))⟩
 case round =>
  clear HG
  obtain ⟨Ao, co, i, os, rfl, rfl, hi, HM, HG⟩ := hrel
  by_cases hlt : i < nl
  ·have hlt2 : i < l.length := by rw [← Hn.out]; exact hlt
   have HE := zmZ HG.out.env
   have HX := zmZ (fun (V : World) (h : LsR 5 twcells twD A l V) => h.tw i hlt2)
   have HM2 := zmZ (fun (y : Int × Wd) (hy : y = (twq) l[i]) => zau HM.out hlt2 hy)
   have hos := congrArg List.length HM.out
   rw [List.length_map, List.length_map, List.length_take] at hos
   have hosl : os.length ≤ 100000 := by have := Hl.out; omega
   clear hos
   have HP := zmZ (fun (V : World) (h1 : LsR 5 twcells twD A l V) => h1.ok _ (List.getElem_mem hlt2))
   obtain ⟨p, hp⟩ : ∃ p, p = l[i] := ⟨_, rfl⟩
   rw [← hp] at HX HM2 HP
   have Hm := zmZ (show p ∈ l by rw [hp]; exact List.getElem_mem hlt2)
   clear hp
   have c0 := HX.out _ HE.out.o.1
   go_upto_region 5 with fail
   go_region_held3 (fun V => TC A i ⟨p.pl, p.r, 0⟩ V) (first | with_reducible exact c0 | with_reducible exact HX.out _ HE.out.o.1 | with_reducible exact HX.out _ HE.out.drew.o.1 | ((repeat' apply And.intro) <;> go_keep) | exact HX.out _ (HE.out.other _).o.1 | exact HX.out _ (HE.out.drew.other _).o.1)
    (first
     | (go_at_call 44; go_must (refine (zf0 _ p.r p.x (by first | exact HP.out _ HE.out.o.1 | exact HP.out _ HE.out.drew.o.1)).mono ?_; rintro e w3 ⟨y, rfl, hy, hk, hb⟩; replace HE := zmZ (Env.rx HE.out hk hb); have HY := zmZ hy; replace c0 := HX.out _ HE.out.o.1; clear hk hb hy))
     | (obtain ⟨A', c', w8, hrun, hG⟩ := GL.appX (cells := twcells) zaK zbz rfl (by decide) (by decide) HG.out HE.out (⟨p.pl, y.1, p.x⟩ : TwV) rfl (zdz _) (by omega); refine zbw rfl (.tmp 11) (.tmp 24) 42 _ _ _ rfl rfl rfl hrun ?_; replace c0 := HX.out _ hG.o; have HG2 := zmZ hG; clear hrun hG HE))
   have HM3 := zmZ (HM2.out (twq ⟨p.pl, y.1, p.x⟩) rfl)
   replace HG2 := zmZ (HG2.out.imp (fun _ h => h) (fun V h => (⟨⟨(show twC ⟨p.pl, y.1, p.x⟩ V from by have h9 := h.1.1; unfold nwC nwD at h9; rw [HY.out] at h9; exact h9), trivial⟩, h.2⟩ : (twC ⟨p.pl, y.1, p.x⟩ V ∧ True) ∧ ∀ y ∈ os, twC y V)))
   go_wp2_with fail
   go_roundw
   case rel => exact ⟨A', c', i + 1, os ++ [⟨p.pl, y.1, p.x⟩], by simp, by go_num, by omega, zmZ (by rw [List.map_append]; exact HM3.out), zmZ (HG2.out.imp (fun _ h => h) (fun V h p hp => by
    rcases List.mem_append.1 hp with hp | hp
    ·exact h.2 p hp
    ·rw [List.mem_singleton.1 hp]; exact h.1.1))⟩
   case measure => (simp [intOf] <;> omega)
  ·obtain rfl : i = nl := by omega
   obtain ⟨A', c', hv, hc, hr⟩ := HG.out.tell (cells := twcells) (ok := twC) (l := os) (fun V h => h)
   obtain ⟨rfl, rfl⟩ : Ao = A' ∧ co = c' := by simpa using hv
   have Hr := zmZ (hr.and (HG.out.own _ (List.mem_cons_self ..)).ty)
   have Hc := zmZ hc
   have Hbel := zmZ HG.out.bel
   clear hr hv HG hc
   go_wp2_with fail
   go_ret
   exact ⟨Ao, co, os, rfl, Hc.out, by rw [HM.out, Hn.out, List.take_length], Hr.out, Hbel.out⟩
theorem zhC (w : World) (v : VwV) (h : vwD v w) (hl : v.ts.length ≤ 100000) : Calls Tryz.prog 43 #[.slice v.A v.ts.length v.c] w fun e w' => ∃ y : VwV, e = .returned (.slice y.A y.ts.length y.c) ∧ vwq y = vwq v ∧ Rests w' (w.heap.size ≤ ·) (vwT w.heap.size y) ∧ Below w.heap.size w w' :=
 (zlU w v.A v.c v.ts h hl _ rfl).mono fun _e _w' ⟨A, c, os, h1, _h2, h3, h4, h5⟩ => ⟨⟨A, c, os⟩, h1, h3, h4, h5⟩
set_option maxRecDepth 100000 in
theorem zlf (w : World) (A : Option Addr) (c : Nat) (l : List (VwV)) (h : LsR 1 vwcells vwD A l w) (hl : l.length ≤ 100000) (hv : ∀ v ∈ l, v.ts.length ≤ 100000) (nl : Nat) (hnl : nl = l.length) :
 Calls Tryz.prog 24 #[.slice A nl c] w (ziu 43 1 (vwcells : VwV → Array Value) (vwT w.heap.size) (vwq) (l.map (vwq)) w) := by
 have sl1 := h.sl
 rw [← hnl] at sl1
 have hsz2 := zb9
 have hadd := za3
 have hnb : nl ≤ 100000 := by omega
 have Hn := zmZ hnl
 have Hl := zmZ hl
 have Hv := zmZ hv
 clear hv
 have HG := zmZ ((GL.start (Env.start (h.old zcq))).new_ 43 1)
 clear h hnl hl
 go_enter Tryz.func24, Tryz.ntmps24
 go_wp2_with fail
 go_loopw [3, 4] (fun ov iv wr => ∃ (Ao : Option Addr) (co i : Nat) (os : List (VwV)), ov = .slice Ao os.length co ∧ iv = .int .i64 (i : Int) ∧ i ≤ nl ∧ Hid (os.map (vwq) = (l.take i).map (vwq)) ∧ Hid (GL w [⟨43, 1, .slice Ao os.length co, os.map vwcells⟩] (fun V => LsR 1 vwcells vwD A l V) (fun V => ∀ y ∈ os, vwT w.heap.size y V) wr)) (fun _ iv _ => nl - (intOf iv).toNat)
 case atStart => exact ⟨none, 0, 0, [], rfl, rfl, Nat.zero_le _, zmZ rfl, zmZ (HG.out.imp (fun _ h => h.2) (fun _ _ => by simp))⟩
 case round =>
  clear HG
  obtain ⟨Ao, co, i, os, rfl, rfl, hi, HM, HG⟩ := hrel
  by_cases hlt : i < nl
  ·have hlt2 : i < l.length := by rw [← Hn.out]; exact hlt
   have HE := zmZ HG.out.env
   have HX := zmZ (fun (V : World) (h : LsR 1 vwcells vwD A l V) => h.vw i hlt2)
   have HM2 := zmZ (fun (y : List (Int × Wd)) (hy : y = (vwq) l[i]) => zau HM.out hlt2 hy)
   have hos := congrArg List.length HM.out
   rw [List.length_map, List.length_map, List.length_take] at hos
   have hosl : os.length ≤ 100000 := by have := Hl.out; omega
   clear hos
   have HP := zmZ (fun (V : World) (h1 : LsR 1 vwcells vwD A l V) => h1.ok _ (List.getElem_mem hlt2))
   obtain ⟨p, hp⟩ : ∃ p, p = l[i] := ⟨_, rfl⟩
   rw [← hp] at HX HM2 HP
   have Hm := zmZ (show p ∈ l by rw [hp]; exact List.getElem_mem hlt2)
   clear hp
   have c0 := HX.out _ HE.out.o.1
   go_wp2_with fail
   refine (zhC _ p (HP.out _ HE.out.o.1) (Hv.out p Hm.out)).mono ?_
   rintro e w3 ⟨y, rfl, hy, hk, hb⟩
   have HM3 := zmZ (HM2.out _ hy)
   replace hk := hk.imp (ψ := vwT w.heap.size y) fun V h => h.lo HG.out.bel.size
   replace HE := zmZ (Env.ret HE.out hk hb)
   obtain ⟨A', c', w8, hrun, hG⟩ := GL.appX (cells := vwcells) zce zd6 rfl (by decide) (by decide) HG.out HE.out y rfl (zdh y) (by omega)
   have Hrun := zmZ hrun
   have HG2 := zmZ hG
   clear hrun hG hk hb hy c0
   go_wp2_with (at_builtin; refine za1 rfl (.tmp 11) (.tmp 17) 32 _ _ _ rfl rfl rfl Hrun.out ?_)
   clear Hrun
   go_wp2_with fail
   go_roundw
   case rel => exact ⟨A', c', i + 1, os ++ [y], by simp, by go_num, by omega, zmZ (by rw [List.map_append]; exact HM3.out), zmZ (HG2.out.imp (fun _ h => h) (fun V h p hp => by
    rcases List.mem_append.1 hp with hp | hp
    ·exact h.2 p hp
    ·rw [List.mem_singleton.1 hp]; exact h.1.1))⟩
   case measure => (simp [intOf] <;> omega)
  ·obtain rfl : i = nl := by omega
   obtain ⟨A', c', hv, hc, hr⟩ := HG.out.tell (cells := vwcells) (ok := vwT w.heap.size) (l := os) (fun V h => h)
   obtain ⟨rfl, rfl⟩ : Ao = A' ∧ co = c' := by simpa using hv
   have Hr := zmZ (hr.and (HG.out.own _ (List.mem_cons_self ..)).ty)
   have Hc := zmZ hc
   have Hbel := zmZ HG.out.bel
   clear hr hv HG hc
   go_wp2_with fail
   go_ret
   exact ⟨Ao, co, os, rfl, Hc.out, by rw [HM.out, Hn.out, List.take_length], Hr.out, Hbel.out⟩

structure LwT (lo : Nat) (l : LaW) (V : World) : Prop where
 rows : LsR 1 vwcells (vwT lo) l.Ar l.rows V
 tr : Ty lo V l.Ar (l.rows.length * 1) 43
 bias : LsR 4 nwcells nwC l.Ab l.bias V
 tb : Ty lo V l.Ab (l.bias.length * 4) 41
 kern : LsR 4 nwcells nwC l.Ak l.kern V
 grs : LsR 1 grcells (grT lo) l.Ag l.grs V
 tg : Ty lo V l.Ag (l.grs.length * 1) 46
theorem GL.dropT {w W : World} {ls : List Ow} {old new : World → Prop} {e : TypeId} {sz n c : Nat} {A : Option Addr} {cs : List (Array Value)} (h : GL w (⟨e, sz, .slice A n c, cs⟩ :: ls) old new W) : GL w ls old (fun V => (El V sz A cs ∧ Ty w.heap.size V A (n * sz) e) ∧ new V) W := by
 have ho : OwnE W w.heap.size e sz (.slice A n c) cs := h.own _ (List.mem_cons_self ..)
 have hnd := List.pairwise_cons.1 h.nd
 have hr : Rests W (fun b => (Value.slice A n c).ownBlock = some b) (fun V => El V sz A cs ∧ Ty w.heap.size V A (n * sz) e) := ⟨⟨ho.el.1, ho.ty.now⟩, fun w' hw => by
  have h9 := ho.keep (fun b hb e => hw b e hb)
  exact ⟨h9.el.1, h9.ty.now⟩⟩
 exact ⟨fun o ho => h.own o (List.mem_cons_of_mem _ ho), hnd.2, h.rso.mono fun n hn o ho => hn o (List.mem_cons_of_mem _ ho), Rests.and (hr.mono fun b hb => ⟨(ho.lt b hb).1, fun o ho e => hnd.1 o ho b hb e⟩) (h.rsn.mono fun n hn => ⟨hn.1, fun o ho => hn.2 o (List.mem_cons_of_mem _ ho)⟩), h.bel⟩
def zmP (q : Int × List WQ) (w : World) (e : Ending) (w' : World) : Prop := ∃ g : NeW, e = .returned (.agg #[.int .i64 g.inputs, .slice g.A g.las.length g.c]) ∧ g.wq = q ∧ g.las.length ≤ g.c ∧ Rests w' (w.heap.size ≤ ·) (fun V => LsR 13 lacells (LwT w.heap.size) g.A g.las V ∧ Ty w.heap.size V g.A (g.las.length * 13) 36) ∧ Below w.heap.size w w'
set_option maxRecDepth 100000 in
theorem zhW (w : World) (f : NeW) (h : NwD f w) (hs : ∀ l ∈ f.las, LwS2 l) (hl : f.las.length ≤ 100000) (nl : Nat) (hnl : nl = f.las.length) : Calls Tryz.prog 8 #[.agg #[.int .i64 f.inputs, .slice f.A nl f.c]] w (zmP f.wq w) := by
 have sl1 := h.sl
 rw [← hnl] at sl1
 have hsz1 := zb5
 have hszg := zbt
 have hadd := za3
 have hnlb : nl ≤ 100000 := by omega
 have Hn := zmZ hnl
 have Hs := zmZ hs
 have Hl := zmZ hl
 obtain ⟨W0, hW0⟩ : ∃ W0, W0 = ((w.alloc (.cells #[.int .i64 f.inputs, .slice f.A nl f.c] 24)).alloc (.cells #[.int .i64 0, .slice none 0 0] 24)) := ⟨_, rfl⟩
 have HE := zmZ (Env.lay2 (Env.start (h.old)) hW0)
 subst hW0
 have c := Env.c2 HE.out
 have dd := Env.d2 HE.out
 clear h hnl hs hl
 go_enter Tryz.func8, Tryz.ntmps8
 go_upto_region 3 with fail
 have HE5 := zmZ (HE.out.new_ (g := w.heap.size + 1 + 1) (by simp) 24 #[.int .i64 f.inputs, .slice none 0 0])
 have HG := zmZ (((GL.ofEnv (bs1 := [⟨w.heap.size + 1 + 1, 24, #[.int .i64 f.inputs, .slice none 0 0]⟩, ⟨w.heap.size + 1, 24, #[.int .i64 0, .slice none 0 0]⟩]) (bs2 := [⟨w.heap.size, 24, #[.int .i64 f.inputs, .slice f.A nl f.c]⟩]) HE5.out).new_ 36 13).imp (φ := fun V => (∀ b ∈ [(⟨w.heap.size, 24, #[.int .i64 f.inputs, .slice f.A nl f.c]⟩ : Bo)], Blk V b.g b.t b.cs) ∧ NwD f V) (ψ := fun V => ∀ zl ∈ ([] : List LaW), LwT w.heap.size zl V) (fun _ h => h) (fun _ _ => by simp))
 clear HE HE5 c dd
 go_loopw [4] (fun iv wr => ∃ (i : Nat) (Al : Option Addr) (cl : Nat) (ls : List LaW), iv = .int .i64 (i : Int) ∧ i ≤ nl ∧ Hid (ls.map LaG.wq = (f.las.take i).map LaG.wq) ∧ Hid (GL w (⟨36, 13, .slice Al (List.length ls) cl, List.map lacells ls⟩ :: bow (w.heap.size + 1 + 1) 24 2 #[.int .i64 f.inputs, .slice Al (List.length ls) cl] :: bow (w.heap.size + 1) 24 2 #[.int .i64 0, .slice none 0 0] :: []) (fun V => (∀ b ∈ [(⟨w.heap.size, 24, #[.int .i64 f.inputs, .slice f.A nl f.c]⟩ : Bo)], Blk V b.g b.t b.cs) ∧ NwD f V) (fun V => ∀ zl ∈ ls, LwT w.heap.size zl V) wr)) (fun iv _ => nl - (intOf iv).toNat)
 case atStart => exact ⟨0, none, 0, [], rfl, Nat.zero_le _, zmZ rfl, HG⟩
 case round =>
  clear HG
  obtain ⟨i, Al, cl, ls, rfl, hi, HM, HG⟩ := hrel
  have cf := Blk.cb (HG.out.o.1 _ (List.mem_singleton_self _))
  by_cases hlt : i < nl
  ·have hlt2 : i < f.las.length := by rw [← Hn.out]; exact hlt
   have hlsl := congrArg List.length HM.out
   rw [List.length_map, List.length_map, List.length_take] at hlsl
   have hlsb : ls.length ≤ 100000 := by have := Hl.out; omega
   clear hlsl
   have HM2 := zmZ (fun (y : WQ) (hy : y = LaG.wq f.las[i]) => zau HM.out hlt2 hy)
   have HP := zmZ (fun (V : World) (h1 : NwD f V) => h1.ok _ (List.getElem_mem hlt2))
   have HS := zmZ (Hs.out _ (List.getElem_mem hlt2))
   have c0 := HG.out.o.2.lac i hlt2
   obtain ⟨p, hp⟩ : ∃ p, p = f.las[i] := ⟨_, rfl⟩
   rw [← hp] at c0 HM2 HP HS
   clear hp
   have slg := (HP.out _ HG.out.o.2).grs.sl
   obtain ⟨nr, hnr⟩ : ∃ k, k = p.rows.length := ⟨_, rfl⟩
   obtain ⟨nb, hnb⟩ : ∃ k, k = p.bias.length := ⟨_, rfl⟩
   obtain ⟨nk, hnk⟩ : ∃ k, k = p.kern.length := ⟨_, rfl⟩
   obtain ⟨ng, hng⟩ : ∃ k, k = p.grs.length := ⟨_, rfl⟩
   dsimp only [LC] at c0
   rw [← hnr, ← hnb, ← hnk, ← hng] at c0
   rw [← hng] at slg
   have hngb : ng ≤ 100000 := by rw [hng]; exact HS.out.grs
   have Hnr := zmZ hnr
   have Hnb := zmZ hnb
   have Hnk := zmZ hnk
   have Hng := zmZ hng
   clear hnr hnb hnk hng
   go_upto_region 6 with fail
   have HG5 := HG.out.addb 36 #[.int .u8 p.kind, .slice p.Ar nr p.cr, .slice p.Ab nb p.cb, .int .i64 p.ch, .int .i64 p.high, .int .i64 p.wide, .int .i64 p.out, .int .i64 p.kh, .int .i64 p.kw, .int .i64 p.st, .int .i64 p.pad, .slice p.Ak nk p.ck, .slice p.Ag ng p.cg]
   obtain ⟨W2, g5, hW2, hg5⟩ : ∃ W2 g5, wr.alloc (.cells #[.int .u8 p.kind, .slice p.Ar nr p.cr, .slice p.Ab nb p.cb, .int .i64 p.ch, .int .i64 p.high, .int .i64 p.wide, .int .i64 p.out, .int .i64 p.kh, .int .i64 p.kw, .int .i64 p.st, .int .i64 p.pad, .slice p.Ak nk p.ck, .slice p.Ag ng p.cg] 36) = W2 ∧ wr.heap.size = g5 := ⟨_, _, rfl, rfl⟩
   rw [hW2, hg5] at HG5 ⊢
   replace HG : Hid (GL w (bow g5 36 13 #[.int .u8 p.kind, .slice p.Ar nr p.cr, .slice p.Ab nb p.cb, .int .i64 p.ch, .int .i64 p.high, .int .i64 p.wide, .int .i64 p.out, .int .i64 p.kh, .int .i64 p.kw, .int .i64 p.st, .int .i64 p.pad, .slice p.Ak nk p.ck, .slice p.Ag ng p.cg] :: ⟨36, 13, .slice Al (List.length ls) cl, List.map lacells ls⟩ :: bow (w.heap.size + 1 + 1) 24 2 #[.int .i64 f.inputs, .slice Al (List.length ls) cl] :: bow (w.heap.size + 1) 24 2 #[.int .i64 0, .slice none 0 0] :: []) (fun V => (∀ b ∈ [(⟨w.heap.size, 24, #[.int .i64 f.inputs, .slice f.A nl f.c]⟩ : Bo)], Blk V b.g b.t b.cs) ∧ NwD f V) (fun V => ∀ zl ∈ ls, LwT w.heap.size zl V) W2) := zmZ HG5
   clear HG5 hW2 hg5 c0 cf
   have cb := HG.out.cb (k := 0) rfl
   go_wp2_with fail
   clear cb
   refine (zlf _ p.Ar p.cr p.rows (HP.out _ HG.out.o.2).rows HS.out.rows HS.out.row nr Hnr.out).mono ?_
   rintro e w1 ⟨A1, c1, os1, rfl, hc1, hm1, hk9, hb9⟩
   have HM_1 := zmZ hm1
   replace hk9 := hk9.imp (ψ := (fun V => LsR 1 vwcells (vwT w.heap.size) A1 os1 V ∧ Ty w.heap.size V A1 (List.length os1 * 1) 43)) fun V h => ⟨h.1.imp fun _ _ hv => hv.lo HG.out.bel.size, h.2.lo HG.out.bel.size⟩
   replace HG := zmZ (HG.out.call hk9 hb9)
   clear hc1 hm1 hk9 hb9
   have cb := HG.out.cb (k := 0) rfl
   go_upto_region 7 with fail
   clear cb
   have HG5 := HG.out.putc (k := 0) (i := 1) rfl (by decide) (.slice A1 (List.length os1) c1)
   obtain ⟨W1, hW1⟩ : ∃ W', World.setCell w1 ⟨g5, 1, none⟩ (.slice A1 (List.length os1) c1) = W' := ⟨_, rfl⟩
   rw [hW1] at HG5 ⊢
   replace HG : Hid (GL w (bow g5 36 13 #[.int .u8 p.kind, .slice A1 (List.length os1) c1, .slice p.Ab nb p.cb, .int .i64 p.ch, .int .i64 p.high, .int .i64 p.wide, .int .i64 p.out, .int .i64 p.kh, .int .i64 p.kw, .int .i64 p.st, .int .i64 p.pad, .slice p.Ak nk p.ck, .slice p.Ag ng p.cg] :: ⟨36, 13, .slice Al (List.length ls) cl, List.map lacells ls⟩ :: bow (w.heap.size + 1 + 1) 24 2 #[.int .i64 f.inputs, .slice Al (List.length ls) cl] :: bow (w.heap.size + 1) 24 2 #[.int .i64 0, .slice none 0 0] :: []) (fun V => (∀ b ∈ [(⟨w.heap.size, 24, #[.int .i64 f.inputs, .slice f.A nl f.c]⟩ : Bo)], Blk V b.g b.t b.cs) ∧ NwD f V) _ W1) := zmZ HG5
   clear HG5 hW1
   have cb := HG.out.cb (k := 0) rfl
   go_wp2_with fail
   clear cb
   refine (zi6 _ p.Ab p.cb p.bias (HP.out _ HG.out.o.2).bias HS.out.bias nb Hnb.out).mono ?_
   rintro e w2 ⟨A2, c2, os2, rfl, hc2, hm2, hk9, hb9⟩
   have HM_2 := zmZ hm2
   replace hk9 := hk9.imp (ψ := (fun V => LsR 4 nwcells nwC A2 os2 V ∧ Ty w.heap.size V A2 (List.length os2 * 4) 41)) fun V h => ⟨h.1, h.2.lo HG.out.bel.size⟩
   replace HG := zmZ (HG.out.call hk9 hb9)
   clear hc2 hm2 hk9 hb9
   have cb := HG.out.cb (k := 0) rfl
   go_upto_region 8 with fail
   clear cb
   have HG5 := HG.out.putc (k := 0) (i := 2) rfl (by decide) (.slice A2 (List.length os2) c2)
   obtain ⟨W2, hW2⟩ : ∃ W', World.setCell w2 ⟨g5, 2, none⟩ (.slice A2 (List.length os2) c2) = W' := ⟨_, rfl⟩
   rw [hW2] at HG5 ⊢
   replace HG : Hid (GL w (bow g5 36 13 #[.int .u8 p.kind, .slice A1 (List.length os1) c1, .slice A2 (List.length os2) c2, .int .i64 p.ch, .int .i64 p.high, .int .i64 p.wide, .int .i64 p.out, .int .i64 p.kh, .int .i64 p.kw, .int .i64 p.st, .int .i64 p.pad, .slice p.Ak nk p.ck, .slice p.Ag ng p.cg] :: ⟨36, 13, .slice Al (List.length ls) cl, List.map lacells ls⟩ :: bow (w.heap.size + 1 + 1) 24 2 #[.int .i64 f.inputs, .slice Al (List.length ls) cl] :: bow (w.heap.size + 1) 24 2 #[.int .i64 0, .slice none 0 0] :: []) (fun V => (∀ b ∈ [(⟨w.heap.size, 24, #[.int .i64 f.inputs, .slice f.A nl f.c]⟩ : Bo)], Blk V b.g b.t b.cs) ∧ NwD f V) _ W2) := zmZ HG5
   clear HG5 hW2
   have cb := HG.out.cb (k := 0) rfl
   go_wp2_with fail
   clear cb
   refine (zi6 _ p.Ak p.ck p.kern (HP.out _ HG.out.o.2).kern HS.out.kern nk Hnk.out).mono ?_
   rintro e w3 ⟨A3, c3, os3, rfl, hc3, hm3, hk9, hb9⟩
   have HM_3 := zmZ hm3
   replace hk9 := hk9.imp (ψ := (fun V => LsR 4 nwcells nwC A3 os3 V ∧ Ty w.heap.size V A3 (List.length os3 * 4) 41)) fun V h => ⟨h.1, h.2.lo HG.out.bel.size⟩
   replace HG := zmZ (HG.out.call hk9 hb9)
   clear hc3 hm3 hk9 hb9
   have cb := HG.out.cb (k := 0) rfl
   go_upto_region 9 with fail
   clear cb
   have HG5 := HG.out.putc (k := 0) (i := 11) rfl (by decide) (.slice A3 (List.length os3) c3)
   obtain ⟨W3, hW3⟩ : ∃ W', World.setCell w3 ⟨g5, 11, none⟩ (.slice A3 (List.length os3) c3) = W' := ⟨_, rfl⟩
   rw [hW3] at HG5 ⊢
   replace HG : Hid (GL w (bow g5 36 13 #[.int .u8 p.kind, .slice A1 (List.length os1) c1, .slice A2 (List.length os2) c2, .int .i64 p.ch, .int .i64 p.high, .int .i64 p.wide, .int .i64 p.out, .int .i64 p.kh, .int .i64 p.kw, .int .i64 p.st, .int .i64 p.pad, .slice A3 (List.length os3) c3, .slice p.Ag ng p.cg] :: ⟨36, 13, .slice Al (List.length ls) cl, List.map lacells ls⟩ :: bow (w.heap.size + 1 + 1) 24 2 #[.int .i64 f.inputs, .slice Al (List.length ls) cl] :: bow (w.heap.size + 1) 24 2 #[.int .i64 0, .slice none 0 0] :: []) (fun V => (∀ b ∈ [(⟨w.heap.size, 24, #[.int .i64 f.inputs, .slice f.A nl f.c]⟩ : Bo)], Blk V b.g b.t b.cs) ∧ NwD f V) _ W3) := zmZ HG5
   clear HG5 hW3
   have cb := HG.out.cb (k := 0) rfl
   go_upto_region 11 with fail
   clear cb
   replace HG := zmZ (show GL w (⟨46, 1, .slice none (List.length ([] : List GrV)) 0, List.map grcells ([] : List GrV)⟩ :: bow g5 36 13 #[.int .u8 p.kind, .slice A1 (List.length os1) c1, .slice A2 (List.length os2) c2, .int .i64 p.ch, .int .i64 p.high, .int .i64 p.wide, .int .i64 p.out, .int .i64 p.kh, .int .i64 p.kw, .int .i64 p.st, .int .i64 p.pad, .slice A3 (List.length os3) c3, .slice p.Ag ng p.cg] :: ⟨36, 13, .slice Al (List.length ls) cl, List.map lacells ls⟩ :: bow (w.heap.size + 1 + 1) 24 2 #[.int .i64 f.inputs, .slice Al (List.length ls) cl] :: bow (w.heap.size + 1) 24 2 #[.int .i64 0, .slice none 0 0] :: []) (fun V => (∀ b ∈ [(⟨w.heap.size, 24, #[.int .i64 f.inputs, .slice f.A nl f.c]⟩ : Bo)], Blk V b.g b.t b.cs) ∧ NwD f V) (fun V => ((∀ zg ∈ ([] : List GrV), grT w.heap.size zg V) ∧ (fun V => (LsR 4 nwcells nwC A3 os3 V ∧ Ty w.heap.size V A3 (List.length os3 * 4) 41) ∧ (LsR 4 nwcells nwC A2 os2 V ∧ Ty w.heap.size V A2 (List.length os2 * 4) 41) ∧ (LsR 1 vwcells (vwT w.heap.size) A1 os1 V ∧ Ty w.heap.size V A1 (List.length os1 * 1) 43) ∧ ∀ zl ∈ ls, LwT w.heap.size zl V) V)) _ from (HG.out.new_ 46 1).imp (fun _ h => h) (fun V h => ⟨by simp, h⟩))
   go_loopw [6, 7] (fun gv kv wr => ∃ (Ag : Option Addr) (cg k : Nat) (gs : List GrV), gv = .slice Ag (List.length gs) cg ∧ kv = .int .i64 (k : Int) ∧ k ≤ ng ∧ Hid (gs.map GrV.l = (p.grs.take k).map GrV.l) ∧ Hid (GL w (⟨46, 1, .slice Ag (List.length gs) cg, List.map grcells gs⟩ :: bow g5 36 13 #[.int .u8 p.kind, .slice A1 (List.length os1) c1, .slice A2 (List.length os2) c2, .int .i64 p.ch, .int .i64 p.high, .int .i64 p.wide, .int .i64 p.out, .int .i64 p.kh, .int .i64 p.kw, .int .i64 p.st, .int .i64 p.pad, .slice A3 (List.length os3) c3, .slice p.Ag ng p.cg] :: ⟨36, 13, .slice Al (List.length ls) cl, List.map lacells ls⟩ :: bow (w.heap.size + 1 + 1) 24 2 #[.int .i64 f.inputs, .slice Al (List.length ls) cl] :: bow (w.heap.size + 1) 24 2 #[.int .i64 0, .slice none 0 0] :: []) (fun V => (∀ b ∈ [(⟨w.heap.size, 24, #[.int .i64 f.inputs, .slice f.A nl f.c]⟩ : Bo)], Blk V b.g b.t b.cs) ∧ NwD f V) (fun V => ((∀ zg ∈ gs, grT w.heap.size zg V) ∧ (fun V => (LsR 4 nwcells nwC A3 os3 V ∧ Ty w.heap.size V A3 (List.length os3 * 4) 41) ∧ (LsR 4 nwcells nwC A2 os2 V ∧ Ty w.heap.size V A2 (List.length os2 * 4) 41) ∧ (LsR 1 vwcells (vwT w.heap.size) A1 os1 V ∧ Ty w.heap.size V A1 (List.length os1 * 1) 43) ∧ ∀ zl ∈ ls, LwT w.heap.size zl V) V)) wr)) (fun _ kv _ => ng - (intOf kv).toNat)
   case atStart => exact ⟨none, 0, 0, [], rfl, rfl, Nat.zero_le _, zmZ rfl, HG⟩
   case round =>
    clear HG
    obtain ⟨Ag, cg, k, gs, rfl, rfl, hk, HN, HG⟩ := hrel
    have cb := HG.out.cb (k := 1) rfl
    by_cases hlk : k < ng
    ·have hlk2 : k < p.grs.length := by rw [← Hng.out]; exact hlk
     have hgl := congrArg List.length HN.out
     rw [List.length_map, List.length_map, List.length_take] at hgl
     have hgb : gs.length ≤ 100000 := by omega
     clear hgl
     have HN2 := zmZ (fun (y : List Int) (hy : y = GrV.l p.grs[k]) => zau HN.out hlk2 hy)
     have HPg := zmZ (fun (V : World) (h1 : NwD f V) => (HP.out _ h1).grs.ok _ (List.getElem_mem hlk2))
     have Hgb := zmZ (HS.out.gr _ (List.getElem_mem hlk2))
     have cg0 := (HP.out _ HG.out.o.2).grs.gc k hlk2
     obtain ⟨q, hq⟩ : ∃ q, q = p.grs[k] := ⟨_, rfl⟩
     rw [← hq] at cg0 HN2 HPg Hgb
     clear hq
     go_wp2_with fail
     refine (zgb _ q (HPg.out _ HG.out.o.2) (by have := Hgb.out; omega)).mono ?_
     rintro e w5 ⟨y, rfl, hy, hk9, hb9⟩
     have HY := zmZ (HN2.out _ hy)
     replace hk9 := hk9.imp (ψ := grT w.heap.size y) fun V h => h.lo HG.out.bel.size
     replace HG := zmZ (HG.out.call hk9 hb9)
     clear hy hk9 hb9 cg0 cb
     have HGa := HG.out.box 46 (grcells y)
     obtain ⟨A', c', w8, hrun, hG⟩ := GL.appG (k := 0) (cells := grcells) zdo zfH rfl (by decide) (by decide) HGa rfl y rfl (zci y) HGa.n.1 (by omega)
     have Hrun := zmZ hrun
     have HG2 := zmZ hG
     clear hrun hG HGa HG
     go_wp2_with (at_builtin; refine za1 rfl (.tmp 42) (.tmp 49) 34 _ _ _ rfl rfl rfl Hrun.out ?_)
     clear Hrun
     go_wp2_with fail
     go_roundw
     case rel => exact ⟨A', c', k + 1, gs ++ [y], by simp, by go_num, by omega, zmZ (by rw [List.map_append]; exact HY.out), zmZ (HG2.out.imp (fun _ h => h) (fun V h => ⟨fun zg hz => (List.mem_append.1 hz).elim (fun hz => h.2.2.1 zg hz) (fun hz => by rw [List.mem_singleton.1 hz]; exact h.2.1), h.2.2.2⟩))⟩
     case measure => (simp [intOf] <;> omega)
    ·obtain rfl : k = ng := by omega
     go_upto_region 15 with fail
     clear cb
     have HG5 := HG.out.putc (k := 1) (i := 12) rfl (by decide) (.slice Ag (List.length gs) cg)
     obtain ⟨W6, hW6⟩ : ∃ W', World.setCell wr ⟨g5, 12, none⟩ (.slice Ag (List.length gs) cg) = W' := ⟨_, rfl⟩
     rw [hW6] at HG5 ⊢
     obtain ⟨y, hy⟩ : ∃ y : LaW, y = ⟨p.kind, A1, c1, os1, A2, c2, os2, p.ch, p.high, p.wide, p.out, p.kh, p.kw, p.st, p.pad, A3, c3, os3, Ag, cg, gs⟩ := ⟨_, rfl⟩
     have HYQ := zmZ (show LaG.wq y = LaG.wq p from by rw [hy]; unfold LaG.wq; dsimp only; rw [HM_1.out, HM_2.out, HM_3.out, HN.out, Hng.out, List.take_length])
     have HYC := zmZ (show lacells y = #[.int .u8 p.kind, .slice A1 (List.length os1) c1, .slice A2 (List.length os2) c2, .int .i64 p.ch, .int .i64 p.high, .int .i64 p.wide, .int .i64 p.out, .int .i64 p.kh, .int .i64 p.kw, .int .i64 p.st, .int .i64 p.pad, .slice A3 (List.length os3) c3, .slice Ag (List.length gs) cg] from by rw [hy]; rfl)
     have HYV := zmZ hy
     clear hy
     replace HG := zmZ (show GL w (⟨46, 1, .slice Ag (List.length gs) cg, List.map grcells gs⟩ :: bow g5 36 13 #[.int .u8 p.kind, .slice A1 (List.length os1) c1, .slice A2 (List.length os2) c2, .int .i64 p.ch, .int .i64 p.high, .int .i64 p.wide, .int .i64 p.out, .int .i64 p.kh, .int .i64 p.kw, .int .i64 p.st, .int .i64 p.pad, .slice A3 (List.length os3) c3, .slice Ag (List.length gs) cg] :: ⟨36, 13, .slice Al (List.length ls) cl, List.map lacells ls⟩ :: bow (w.heap.size + 1 + 1) 24 2 #[.int .i64 f.inputs, .slice Al (List.length ls) cl] :: bow (w.heap.size + 1) 24 2 #[.int .i64 0, .slice none 0 0] :: []) (fun V => (∀ b ∈ [(⟨w.heap.size, 24, #[.int .i64 f.inputs, .slice f.A nl f.c]⟩ : Bo)], Blk V b.g b.t b.cs) ∧ NwD f V) (fun V => ((∀ zg ∈ gs, grT w.heap.size zg V) ∧ (fun V => (LsR 4 nwcells nwC A3 os3 V ∧ Ty w.heap.size V A3 (List.length os3 * 4) 41) ∧ (LsR 4 nwcells nwC A2 os2 V ∧ Ty w.heap.size V A2 (List.length os2 * 4) 41) ∧ (LsR 1 vwcells (vwT w.heap.size) A1 os1 V ∧ Ty w.heap.size V A1 (List.length os1 * 1) 43) ∧ ∀ zl ∈ ls, LwT w.heap.size zl V) V)) W6 from HG5)
     clear HG5 hW6
     replace HG := zmZ (HG.out.dropT)
     have cb := HG.out.cb (k := 0) rfl
     have co := HG.out.cb (k := 2) rfl
     have HGa := HG.out.box 36 (lacells y)
     obtain ⟨A', c', w8, hrun, hG⟩ := GL.appG (k := 1) (cells := lacells) zdE zep rfl (by decide) (by decide) HGa rfl y rfl (zdv y) HGa.n.1 (by omega)
     have Hrun := zmZ hrun
     have HG2 := zmZ hG
     clear hrun hG HGa HG
     have hcc := HYC.out
     rw [hcc] at Hrun
     clear hcc
     have co8 := HG2.out.cb (k := 2) rfl
     go_wp2_with (at_builtin; refine za1 rfl (.tmp 54) (.tmp 56) 22 _ _ _ rfl rfl rfl Hrun.out ?_)
     clear Hrun cb co co8
     go_wp2_with fail
     have HG5 := HG2.out.putc (k := 2) (i := 1) rfl (by decide) (.slice A' (List.length (ls ++ [y])) c')
     have HG6 := zmZ (show GL w (⟨36, 13, .slice A' (List.length (ls ++ [y])) c', List.map lacells (ls ++ [y])⟩ :: bow (w.heap.size + 1 + 1) 24 2 #[.int .i64 f.inputs, .slice A' (List.length (ls ++ [y])) c'] :: bow (w.heap.size + 1) 24 2 #[.int .i64 0, .slice none 0 0] :: []) (fun V => (∀ b ∈ [(⟨w.heap.size, 24, #[.int .i64 f.inputs, .slice f.A nl f.c]⟩ : Bo)], Blk V b.g b.t b.cs) ∧ NwD f V) (fun V => ∀ zl ∈ (ls ++ [y]), LwT w.heap.size zl V) _ from HG5.drop_.imp (fun _ h => h) (fun V h => fun zl hz => (List.mem_append.1 hz).elim (fun hz => h.2.2.2.2.2.2.2 zl hz) (fun hz => by rw [List.mem_singleton.1 hz, HYV.out]; exact ⟨h.2.2.2.2.2.2.1.1, h.2.2.2.2.2.2.1.2, h.2.2.2.2.2.1.1, h.2.2.2.2.2.1.2, h.2.2.2.2.1.1, LsR.mk' h.2.2.1.1 h.2.2.2.1, h.2.2.1.2⟩)))
     clear HG5 HG2
     go_roundw
     case rel => exact ⟨i + 1, A', c', ls ++ [y], by go_num, by omega, zmZ (by rw [List.map_append]; exact HM2.out _ HYQ.out), by first | exact HG6 | (have h9 := HG6; simp only [List.length_append, List.length_cons, List.length_nil, Nat.zero_add] at h9 ⊢; exact h9)⟩
     case measure => (simp [intOf] <;> omega)
  ·obtain rfl : i = nl := by omega
   have co := HG.out.cb (k := 1) rfl
   have c2 := HG.out.cb (k := 2) rfl
   go_wp2_with fail
   have hG := (HG.out.putc (k := 2) (i := 0) rfl (by decide) (.int .i64 f.inputs)).putc (k := 2) (i := 1) rfl (by decide) (.slice Al (List.length ls) cl)
   replace c2 := hG.cb (k := 2) rfl
   have hcl : ls.length ≤ cl := by
    obtain ⟨A9, c9, hv9, hc9, -⟩ := (HG.out.own _ (List.mem_cons_self ..)).form
    rw [List.length_map] at hv9 hc9
    obtain ⟨-, rfl⟩ : Al = A9 ∧ cl = c9 := by simpa using hv9
    exact hc9
   have hwq : (f.inputs, ls.map LaG.wq) = (f.inputs, f.las.map LaG.wq) := by rw [HM.out, Hn.out, List.take_length]
   exact bodyPost_ret (v := .agg #[.int .i64 f.inputs, .slice Al (List.length ls) cl]) (by simp [results, Tryz.results8, go_sem, c2]) rfl ⟨⟨f.inputs, Al, cl, ls⟩, rfl, hwq, hcl, (((hG.els9 (k := 0) rfl).and (hG.own _ (List.mem_cons_self ..)).ty).and (hG.rsn.mono fun _ h => h.1)).imp fun V h => ⟨⟨h.1.1, h.2⟩, h.1.2⟩, hG.bel⟩

theorem zem {w : World} {A : Option Addr} {l m : List Nat} (h : Rd w .u64 A l) (h' : Rd w .u64 A m) (e : l.length = m.length) : l = m := by
 refine List.ext_getElem e fun i h1 h2 => ?_
 have h3 := (h.cell i h1).symm.trans (h'.cell i h2)
 simp only [Option.some.injEq, Value.int.injEq, true_and] at h3
 have h4 : nth l i = nth m i := by omega
 simpa [nth, List.getD, h1, h2] using h4
theorem RawW.uniq {r : RV} {x y : Wd} {V : World} (h : RawW r x V) (h' : RawW r y V) : x = y := by
 obtain ⟨a, b, l, m⟩ := x
 obtain ⟨a', b', l', m'⟩ := y
 have e1 : a = a' := h.raw.na.symm.trans h'.raw.na
 have e2 : b = b' := h.raw.da.symm.trans h'.raw.da
 have e3 : l = l' := zem h.raw.nr h'.raw.nr (h.raw.nk.symm.trans h'.raw.nk)
 have e4 : m = m' := zem h.raw.dr h'.raw.dr (h.raw.dk.symm.trans h'.raw.dk)
 rw [e1, e2, e3, e4]
def qW (x : Wd) : Rat := if x.m.length = 0 then Rat.divInt (iv x.a (val B64 x.l)) 1 else Rat.divInt (iv x.a (val B64 x.l)) (iv x.b (val B64 x.m))
structure okW (n : Nat) (x : Wd) : Prop where
 l : x.l.length ≤ n ∧ ∀ y ∈ x.l, y < B64
 m : x.m.length ≤ n ∧ ∀ y ∈ x.m, y < B64
def exW (x : Wd) : Prop := x = wdN (qW x)
section
variable {r : RV} {x : Wd} {q : Rat} {n : Nat} {V : World}
theorem RatD.qw (h : RatD r q n V) (hw : RawW r x V) : q = qW x ∧ okW n x := by
 obtain ⟨a, d, ⟨⟨l, hk, hr, hl, e1⟩, -, hn⟩, ⟨⟨m, mk, mr, hm, e2⟩, -, hn2⟩, e⟩ := h.ex
 have f1 : l = x.l := zem hr hw.raw.nr (hk.symm.trans hw.raw.nk)
 have f2 : m = x.m := zem mr hw.raw.dr (mk.symm.trans hw.raw.dk)
 subst f1 f2
 refine ⟨?_, ⟨by rw [← hk]; exact hn, hl⟩, ⟨by rw [← mk]; exact hn2, hm⟩⟩
 rw [e, qW, mk, ← e1, ← e2, hw.raw.na, hw.raw.da]
theorem RawW.d (hw : RawW r x V) (hc : capR r) (hx : okW n x) : RatD r (qW x) n V := by
 refine ⟨⟨_, _, ⟨⟨x.l, hw.raw.nk, hw.raw.nr, hx.l.2, rfl⟩, hc.1, by rw [hw.raw.nk]; exact hx.l.1⟩, ⟨⟨x.m, hw.raw.dk, hw.raw.dr, hx.m.2, rfl⟩, hc.2, by rw [hw.raw.dk]; exact hx.m.1⟩, ?_⟩⟩
 rw [qW, hw.raw.na, hw.raw.da, hw.raw.dk]
theorem RatN.ex_w (h : RatN r q V) (hd : RatD r q n V) (h1 : 1 ≤ n) (hn : n ≤ 1000000) (hw : RawW r x V) : exW x := by
 have h2 := (h.w (RatD.sz hd h1) hn).uniq hw
 rw [exW, ← (hd.qw hw).1, h2]
theorem RawW.toN (hw : RawW r x V) (hc : capR r) (he : exW x) : RatN r (qW x) V := by
 have h1 := hw
 rw [he] at h1
 exact ⟨⟨h1.raw.nk, hc.1, h1.raw.na, h1.raw.nr⟩, ⟨h1.raw.dk, hc.2, h1.raw.da, h1.raw.dr⟩⟩
theorem RatD.cap (h : RatD r q n V) : capR r := by
 obtain ⟨a, d, h1, h2, -⟩ := h.ex
 exact ⟨h1.cap, h2.cap⟩
theorem RatD.n_of (h : RatD r q n V) (hw : RawW r x V) (he : exW x) : RatN r q V := by
 rw [(h.qw hw).1]; exact hw.toN h.cap he
end
def laV (l : LaW) : LaV := ⟨l.kind, l.Ar, l.cr, l.rows.map fun v => ⟨v.A, v.c, v.ts.map fun t => ⟨t.pl, t.r, qW t.x⟩⟩, l.Ab, l.cb, l.bias.map fun p => (p.1, qW p.2), l.ch, l.high, l.wide, l.out, l.kh, l.kw, l.st, l.pad, l.Ak, l.ck, l.kern.map fun p => (p.1, qW p.2), l.Ag, l.cg, l.grs⟩
theorem zgR (l : LaW) : lacells (laV l) = lacells l := by simp [lacells, laV]
structure WQ.All (q : WQ) (P : Wd → Prop) : Prop where
 rows : ∀ r ∈ q.rows, ∀ p ∈ r, P p.2
 bias : ∀ x ∈ q.bias, P x
 kern : ∀ x ∈ q.kern, P x
def WQ.q (q : WQ) : LQ := ⟨q.kind, q.rows.map (fun r => r.map fun p => (p.1, qW p.2)), q.bias.map qW, q.dims, q.kern.map qW, q.grs⟩
theorem zmT (l : LaW) : (laV l).q = l.wq.q := by
 unfold LaG.q laV WQ.q LaG.wq
 simp only [List.map_map]
 congr 1
 refine List.map_congr_left fun v _ => ?_
 show (v.ts.map _).map plq = ((vwq v).map _)
 unfold vwq
 rw [List.map_map, List.map_map]; rfl
theorem zmU {l : LaW} {lo n : Nat} {V : World} (h : LwT lo l V) (hx : l.wq.All (okW n)) : LaD n (laV l) V := by
 refine ⟨⟨?_, fun v hv => ?_⟩, ⟨?_, fun p hp => ?_⟩, ⟨?_, fun p hp => ?_⟩, ⟨h.grs.el, fun g hg => (h.grs.ok g hg).1.2⟩⟩
 ·have e : (laV l).rows.map vecells = l.rows.map vwcells := by
   show (l.rows.map _).map vecells = _
   rw [List.map_map]
   exact List.map_congr_left fun v _ => by simp [vecells, vwcells]
  rw [e]; exact h.rows.el
 ·obtain ⟨u, hu, rfl⟩ := List.mem_map.1 hv
  have h1 := (h.rows.ok u hu).1
  refine ⟨?_, fun t ht => ?_⟩
  ·have e : (u.ts.map fun t => (⟨t.pl, t.r, qW t.x⟩ : TeV)).map tecells = u.ts.map twcells := by
    rw [List.map_map]; rfl
   show El V 5 u.A ((u.ts.map _).map tecells)
   rw [e]; exact h1.el
  ·obtain ⟨t, ht2, rfl⟩ := List.mem_map.1 ht
   have h2 := h1.ok t ht2
   exact RawW.d h2.2 h2.1 (hx.rows (vwq u) (List.mem_map_of_mem hu) (twq t) (List.mem_map_of_mem ht2))
 ·have e : (laV l).bias.map rtcells = l.bias.map nwcells := by
   show (l.bias.map _).map rtcells = _
   rw [List.map_map]; rfl
  rw [e]; exact h.bias.el
 ·obtain ⟨u, hu, rfl⟩ := List.mem_map.1 hp
  have h2 := h.bias.ok u hu
  exact RawW.d h2.2 h2.1 (hx.bias _ (List.mem_map_of_mem (f := Prod.snd) hu))
 ·have e : (laV l).kern.map rtcells = l.kern.map nwcells := by
   show (l.kern.map _).map rtcells = _
   rw [List.map_map]; rfl
  rw [e]; exact h.kern.el
 ·obtain ⟨u, hu, rfl⟩ := List.mem_map.1 hp
  have h2 := h.kern.ok u hu
  exact RawW.d h2.2 h2.1 (hx.kern _ (List.mem_map_of_mem (f := Prod.snd) hu))
structure Wds (l : LaV) (lw : WQ) (V : World) : Prop where
 kind : lw.kind = l.kind
 rows : ∃ F : RV → Wd, lw.rows = l.rows.map (fun v => v.ts.map fun t => (t.pl, F t.r)) ∧ ∀ v ∈ l.rows, ∀ t ∈ v.ts, RawW t.r (F t.r) V
 bias : ∃ F : RV → Wd, lw.bias = l.bias.map (fun p => F p.1) ∧ ∀ p ∈ l.bias, RawW p.1 (F p.1) V
 dims : lw.dims = [l.ch, l.high, l.wide, l.out, l.kh, l.kw, l.st, l.pad]
 kern : ∃ F : RV → Wd, lw.kern = l.kern.map (fun p => F p.1) ∧ ∀ p ∈ l.kern, RawW p.1 (F p.1) V
 grs : lw.grs = l.grs.map GrV.l
section
variable {l l' : LaV} {lw : WQ} {n : Nat} {V W : World}
theorem Wds.q (h : Wds l lw V) (hl : LaD n l V) : l.q = lw.q ∧ lw.All (okW n) := by
 obtain ⟨F, e1, f1⟩ := h.rows
 obtain ⟨G, e2, f2⟩ := h.bias
 obtain ⟨K, e3, f3⟩ := h.kern
 have d1 : ∀ v ∈ l.rows, ∀ t ∈ v.ts, t.q = qW (F t.r) ∧ okW n (F t.r) := fun v hv t ht => RatD.qw (show RatD t.r t.q n V from (show LsR 5 tecells (teD n) v.A v.ts V from hl.rows.ok v hv).ok t ht) (f1 v hv t ht)
 have d2 : ∀ p ∈ l.bias, p.2 = qW (G p.1) ∧ okW n (G p.1) := fun p hp => RatD.qw (show RatD p.1 p.2 n V from hl.bias.ok p hp) (f2 p hp)
 have d3 : ∀ p ∈ l.kern, p.2 = qW (K p.1) ∧ okW n (K p.1) := fun p hp => RatD.qw (show RatD p.1 p.2 n V from hl.kern.ok p hp) (f3 p hp)
 refine ⟨?_, fun r hr p hp => ?_, fun x hx => ?_, fun x hx => ?_⟩
 ·unfold LaG.q WQ.q
  rw [h.kind, h.dims, h.grs, e1, e2, e3]
  simp only [List.map_map]
  congr 1
  ·refine List.map_congr_left fun v hv => ?_
   show v.ts.map plq = (v.ts.map _).map _
   rw [List.map_map]
   exact List.map_congr_left fun t ht => by show (t.pl, t.q) = (t.pl, qW (F t.r)); rw [← (d1 v hv t ht).1]
  ·exact List.map_congr_left fun p hp => (d2 p hp).1
  ·exact List.map_congr_left fun p hp => (d3 p hp).1
 ·rw [e1] at hr
  obtain ⟨v, hv, rfl⟩ := List.mem_map.1 hr
  obtain ⟨t, ht, rfl⟩ := List.mem_map.1 hp
  exact (d1 v hv t ht).2
 ·rw [e2] at hx
  obtain ⟨p, hp, rfl⟩ := List.mem_map.1 hx
  exact (d2 p hp).2
 ·rw [e3] at hx
  obtain ⟨p, hp, rfl⟩ := List.mem_map.1 hx
  exact (d3 p hp).2
theorem Wds.ex (h : Wds l lw V) (hl : LaD n l V) (h1 : 1 ≤ n) (hn : n ≤ 1000000) :
 ((∀ v ∈ l.rows, ∀ t ∈ v.ts, RatN t.r t.q V) ↔ ∀ r ∈ lw.rows, ∀ p ∈ r, exW p.2) ∧ ((∀ p ∈ l.bias, exP V p) ↔ ∀ x ∈ lw.bias, exW x) ∧ ((∀ p ∈ l.kern, exP V p) ↔ ∀ x ∈ lw.kern, exW x) := by
 obtain ⟨F, e1, f1⟩ := h.rows
 obtain ⟨G, e2, f2⟩ := h.bias
 obtain ⟨K, e3, f3⟩ := h.kern
 have d1 : ∀ v ∈ l.rows, ∀ t ∈ v.ts, RatD t.r t.q n V := fun v hv t ht => (show LsR 5 tecells (teD n) v.A v.ts V from hl.rows.ok v hv).ok t ht
 have d2 : ∀ p ∈ l.bias, RatD p.1 p.2 n V := fun p hp => hl.bias.ok p hp
 have d3 : ∀ p ∈ l.kern, RatD p.1 p.2 n V := fun p hp => hl.kern.ok p hp
 rw [e1, e2, e3]
 refine ⟨⟨fun hh r hr p hp => ?_, fun hh v hv t ht => ?_⟩, ⟨fun hh x hx => ?_, fun hh p hp => ?_⟩, ⟨fun hh x hx => ?_, fun hh p hp => ?_⟩⟩
 ·obtain ⟨v, hv, rfl⟩ := List.mem_map.1 hr
  obtain ⟨t, ht, rfl⟩ := List.mem_map.1 hp
  exact (hh v hv t ht).ex_w (d1 v hv t ht) h1 hn (f1 v hv t ht)
 ·exact (d1 v hv t ht).n_of (f1 v hv t ht) (hh _ (List.mem_map_of_mem (f := fun v : VeV => v.ts.map fun t => (t.pl, F t.r)) hv) _ (List.mem_map_of_mem (f := fun t : TeV => (t.pl, F t.r)) ht))
 ·obtain ⟨p, hp, rfl⟩ := List.mem_map.1 hx
  exact RatN.ex_w (hh p hp) (d2 p hp) h1 hn (f2 p hp)
 ·exact (d2 p hp).n_of (f2 p hp) (hh _ (List.mem_map_of_mem (f := fun p : RV × Rat => G p.1) hp))
 ·obtain ⟨p, hp, rfl⟩ := List.mem_map.1 hx
  exact RatN.ex_w (hh p hp) (d3 p hp) h1 hn (f3 p hp)
 ·exact (d3 p hp).n_of (f3 p hp) (hh _ (List.mem_map_of_mem (f := fun p : RV × Rat => K p.1) hp))
theorem zi4 (h : l'.q = l.q) : l'.kind = l.kind ∧ l'.rows.map (fun v => v.ts.map plq) = l.rows.map (fun v => v.ts.map plq) ∧ l'.bias.map Prod.snd = l.bias.map Prod.snd ∧ (l'.ch = l.ch ∧ l'.high = l.high ∧ l'.wide = l.wide ∧ l'.out = l.out ∧ l'.kh = l.kh ∧ l'.kw = l.kw ∧ l'.st = l.st ∧ l'.pad = l.pad) ∧ l'.kern.map Prod.snd = l.kern.map Prod.snd ∧ l'.grs.map GrV.l = l.grs.map GrV.l := by
 unfold LaG.q at h
 simp only [LQ.mk.injEq, List.cons.injEq, and_true] at h
 exact h
theorem zbm {α β κ : Type} {f : α → κ} {g : β → κ} {a : List α} {b : List β} (e : a.map f = b.map g) (h : b = []) : a = [] := by
 rw [h] at e; exact List.map_eq_nil_iff.1 e
theorem Fits.tr {N : Int} (hq : l'.q = l.q) (hR : (∀ v ∈ l.rows, ∀ t ∈ v.ts, RatN t.r t.q V) → ∀ v ∈ l'.rows, ∀ t ∈ v.ts, RatN t.r t.q W) (hB : (∀ p ∈ l.bias, exP V p) → ∀ p ∈ l'.bias, exP W p) (hK : (∀ p ∈ l.kern, exP V p) → ∀ p ∈ l'.kern, exP W p) (h : Fits V l N) : Fits W l' N := by
 obtain ⟨hk, hr, hb, ⟨d1, d2, d3, d4, d5, d6, d7, d8⟩, hkn, hg⟩ := zi4 hq
 have lr := (zbp hr).1
 have lb := (zbp hb).1
 have lk := (zbp hkn).1
 have hP : zap l → zap l' := fun ⟨p0, p1, p2, p3, p4, p5, p6, p7, p8⟩ => ⟨zbm hkn p0, by rw [d1]; exact p1, by rw [d2]; exact p2, by rw [d3]; exact p3, by rw [d4]; exact p4, by rw [d5]; exact p5, by rw [d6]; exact p6, by rw [d7]; exact p7, by rw [d8]; exact p8⟩
 rcases h with ⟨k, h⟩ | ⟨k, h⟩ | ⟨k, p, h1, h2, h3⟩ | ⟨k, h⟩
 ·refine .inl ⟨hk.trans k, hP h.p, zbm hg h.g, fun e => h.r (zbm hr.symm e), by rw [lr, lb]; exact h.b, fun v hv => ?_, hB h.eb⟩
  have h4 : v.ts.map plq ∈ l.rows.map fun v => v.ts.map plq := by rw [← hr]; exact List.mem_map_of_mem (f := fun v : VeV => v.ts.map plq) hv
  obtain ⟨u, hu, e⟩ := List.mem_map.1 h4
  have h5 := h.er u hu
  have h6 : ∀ t ∈ v.ts, ∃ s ∈ u.ts, plq s = plq t := fun t ht => by
   have h7 : plq t ∈ u.ts.map plq := by rw [e]; exact List.mem_map_of_mem ht
   exact List.mem_map.1 h7
  refine ⟨fun t ht => ?_, ?_, fun t ht => ?_, hR (fun v hv => (h.er v hv).one) v hv⟩
  ·obtain ⟨s, hs, e2⟩ := h6 t ht
   have e3 : s.pl = t.pl := congrArg Prod.fst e2
   rw [← e3]; exact h5.rng s hs
  ·have h8 : (u.ts.map plq).Pairwise fun p q => p.1 < q.1 := (List.pairwise_map (f := plq) (R := fun p q : Int × Rat => p.1 < q.1)).2 h5.rise
   rw [e] at h8
   exact (List.pairwise_map (f := plq) (R := fun p q : Int × Rat => p.1 < q.1)).1 h8
  ·obtain ⟨s, hs, e2⟩ := h6 t ht
   show nzP (plq t) = true
   rw [← e2]; exact h5.nz s hs
 ·refine .inr (.inl ⟨hk.trans k, ?_⟩)
  obtain ⟨s, pd, hn, hh, kk, bb, ee, ek, eb⟩ := h
  refine ⟨by rw [d1, d2, d3, d4, d5, d6, d7]; exact s, by rw [d8, d5, d6]; exact pd, by rw [d1, d2, d3]; exact hn, by rw [d2, d8, d5, d3, d6]; exact hh, by rw [lk, d4, d1, d5, d6]; exact kk, by rw [lb, d4]; exact bb, ⟨zbm hr ee.1, zbm hg ee.2⟩, hK ek, hB eb⟩
 ·exact .inr (.inr (.inl ⟨hk.trans k, hP p, zbm hr h1, zbm hb h2, zbm hg h3⟩))
 ·refine .inr (.inr (.inr ⟨hk.trans k, hP h.p, ⟨zbm hr h.r.1, zbm hb h.r.2⟩, fun e => h.g (zbm hg.symm e), fun g hm => ?_⟩))
  have h4 : g.l ∈ l.grs.map GrV.l := by rw [← hg]; exact List.mem_map_of_mem (f := GrV.l) hm
  obtain ⟨u, hu, e⟩ := List.mem_map.1 h4
  have h5 := h.eg u hu
  unfold GrP at h5 ⊢
  rw [← e]; exact h5
theorem zj1 (hq : l'.q = l.q) (N : Int) : zae l' N = zae l N ∧ zay l' = zay l := by
 obtain ⟨hk, hr, hb, ⟨d1, d2, d3, d4, d5, d6, d7, d8⟩, hkn, hg⟩ := zi4 hq
 have lr := (zbp hr).1
 have lg := (zbp hg).1
 have e1 : (l'.rows.map fun v => (v.ts.length : Int)) = l.rows.map fun v => (v.ts.length : Int) := by
  have h1 := congrArg (List.map fun r : List (Int × Rat) => (r.length : Int)) hr
  rw [List.map_map, List.map_map] at h1
  simpa [Function.comp_def] using h1
 have e2 : (l'.grs.map fun g => (g.l.length : Int)) = l.grs.map fun g => (g.l.length : Int) := by
  have h1 := congrArg (List.map fun r : List Int => (r.length : Int)) hg
  rw [List.map_map, List.map_map] at h1
  simpa [Function.comp_def] using h1
 unfold zae zay zbA zbx
 rw [hk, lr, lg, e1, e2, d1, d2, d3, d4, d5, d6, d7, d8]
 exact ⟨rfl, rfl⟩
end
theorem zh5 {V W : World} {n : Nat} (h1 : 1 ≤ n) (hn : n ≤ 1000000) : ∀ {ls ls' : List LaV} {ws : List WQ} {N s e : Int}, ls.length = ws.length → ls'.length = ws.length → (∀ i (hi : i < ls.length) (hw : i < ws.length), Wds ls[i] ws[i] V ∧ LaD n ls[i] V) → (∀ i (hi : i < ls'.length) (hw : i < ws.length), Wds ls'[i] ws[i] W ∧ LaD n ls'[i] W) → ChkP V ls N s e → ChkP W ls' N s e
 | [], [], _, _, _, _, _, _, _, _, h => h
 | [], _ :: _, [], _, _, _, _, e, _, _, _ => by simp at e
 | [], _ :: _, _ :: _, _, _, _, e, _, _, _, _ => by simp at e
 | _ :: _, [], [], _, _, _, e, _, _, _, _ => by simp at e
 | _ :: _, [], _ :: _, _, _, _, _, e, _, _, _ => by simp at e
 | _ :: _, _ :: _, [], _, _, _, e, _, _, _, _ => by simp at e
 | l :: ls, l' :: ls', q :: ws, N, s, e, el, el', hA, hB, h => by
  obtain ⟨a1, a2⟩ := hA 0 (by simp) (by simp)
  obtain ⟨b1, b2⟩ := hB 0 (by simp) (by simp)
  have a1 : Wds l q V := a1
  have b1 : Wds l' q W := b1
  have hq : l'.q = l.q := (b1.q b2).1.trans (a1.q a2).1.symm
  have ea := a1.ex a2 h1 hn
  have eb := b1.ex b2 h1 hn
  have hf : Fits V l N → Fits W l' N := Fits.tr hq (fun h => eb.1.2 (ea.1.1 h)) (fun h => eb.2.1.2 (ea.2.1.1 h)) (fun h => eb.2.2.2 (ea.2.2.1 h))
  have hf' : Fits W l' N → Fits V l N := Fits.tr hq.symm (fun h => ea.1.2 (eb.1.1 h)) (fun h => ea.2.1.2 (eb.2.1.1 h)) (fun h => ea.2.2.2 (eb.2.2.1 h))
  obtain ⟨u1, u2⟩ := zj1 hq N
  rcases h with ⟨g1, g2⟩ | ⟨g1, ⟨g2, g3⟩ | ⟨g2, g3⟩⟩
  ·exact .inl ⟨fun h => g1 (hf' h), g2⟩
  ·exact .inr ⟨hf g1, .inl ⟨by rw [u1, u2]; exact g2, g3⟩⟩
  ·refine .inr ⟨hf g1, .inr ⟨by rw [u1, u2]; exact g2, ?_⟩⟩
   rw [u1, u2]
   exact zh5 h1 hn (by simpa using el) (by simpa using el') (fun i hi hw => hA (i + 1) (by simpa using hi) (by simpa using hw)) (fun i hi hw => hB (i + 1) (by simpa using hi) (by simpa using hw)) g3

def Tw (lo hi : Nat) (V : World) (A : Option Addr) (m : Nat) (e : TypeId) : Prop := 0 < m → ∃ g cur, A = some ⟨g, 0, none⟩ ∧ lo ≤ g ∧ g < hi ∧ Blk V g e cur ∧ m ≤ cur.size
theorem Ty.w {lo : Nat} {V : World} {A : Option Addr} {m : Nat} {e : TypeId} (h : Ty lo V A m e) : Tw lo V.heap.size V A m e := fun h0 => by
 obtain ⟨g, cur, h1, h2, h3, h4⟩ := h h0
 exact ⟨g, cur, h1, h2, h3.lt, h3, h4⟩
def wrT (e : TypeId) : Prop := e = 41 ∨ e = 45 ∨ e = 3
def hdT (e : TypeId) : Prop := e = 36 ∨ e = 43 ∨ e = 46
theorem zln {e e' : TypeId} (h : hdT e) (h' : wrT e') : e ≠ e' := by
 rcases h with rfl | rfl | rfl <;> rcases h' with rfl | rfl | rfl <;> decide
section
variable {lo hi m sz : Nat} {V : World} {A : Option Addr} {e : TypeId} {cs : List (Array Value)}
theorem Tw.set (h : Tw lo hi V A m e) (b i : Nat) (u : Value) : Tw lo hi (V.setCell ⟨b, i, none⟩ u) A m e := fun h0 => by
 obtain ⟨g, cur, h1, h2, h3, h4, h5⟩ := h h0
 by_cases hb : g = b
 ·subst hb
  exact ⟨g, _, h1, h2, h3, h4.set_ i u, by simpa using h5⟩
 ·exact ⟨g, cur, h1, h2, h3, h4.far (p := ⟨b, i, none⟩) hb u, h5⟩
theorem Tw.alloc (h : Tw lo hi V A m e) (o : Obj) : Tw lo hi (V.alloc o) A m e := fun h0 => by
 obtain ⟨g, cur, h1, h2, h3, h4, h5⟩ := h h0
 exact ⟨g, cur, h1, h2, h3, h4.alloc o, h5⟩
theorem Tw.sl (h : Tw lo hi V A (m * (sz + 1)) e) : Sl A m := fun h0 => by
 obtain ⟨g, cur, h1, -⟩ := h (Nat.mul_pos h0 (Nat.succ_pos _))
 exact ⟨g, 0, h1⟩
theorem Tw.at_ (h : Tw lo hi V A m e) {i : Nat} (hi' : i < m) : (∃ u, V.cell? (adr A i) = some u) ∧ ∀ n, V.frozen? (adr A n) = false := by
 obtain ⟨g, cur, rfl, h2, h3, h4, h5⟩ := h (by omega)
 refine ⟨⟨cur[i]'(by omega), ?_⟩, fun n => ?_⟩
 ·rw [za4, h4.cell, Nat.zero_add, Array.getElem?_eq_getElem]
 ·rw [za4]; exact h4.frozen _
theorem Tw.other {b : Nat} {e' : TypeId} {cur' : Array Value} (h : Tw lo hi V A m e) (h0 : 0 < m) (hb : Blk V b e' cur') (he : e ≠ e') (n : Nat) : (adr A n).block ≠ b := by
 obtain ⟨g, cur, rfl, h2, h3, h4, h5⟩ := h h0
 rw [za4]
 rintro rfl
 unfold Blk at h4 hb
 rw [h4] at hb
 simp only [Option.some.injEq, Obj.cells.injEq] at hb
 exact he hb.2.1
theorem El.far_ {b i : Nat} {e' : TypeId} {cur' : Array Value} (h : El V sz A cs) (ht : Tw lo hi V A (cs.length * sz) e) (hb : Blk V b e' cur') (he : e ≠ e') (u : Value) : El (V.setCell ⟨b, i, none⟩ u) sz A cs := by
 refine ⟨h.sl, h.size, fun k hk j hj => ?_⟩
 rw [← h.cell k hk j hj]
 have h0 : 0 < cs.length * sz := Nat.mul_pos (by omega) (by omega)
 have h1 := ht.other h0 hb he (k * sz + j)
 exact World.cell?_setCell_other _ _ _ _ (fun e => h1 (by rw [← e]))
theorem El.alloc_ (h : El V sz A cs) (o : Obj) : El (V.alloc o) sz A cs := by
 refine ⟨h.sl, h.size, fun k hk j hj => ?_⟩
 rw [← h.cell k hk j hj]
 exact World.cell?_of_block (Below.heap_alloc V o _ (h.lt k hk j hj))
end
structure WrL (lo hi : Nat) (l : LaW) (V : World) : Prop where
 rows : El V 1 l.Ar (l.rows.map vwcells)
 tr : Tw lo hi V l.Ar (l.rows.length * 1) 43
 row : ∀ v ∈ l.rows, Tw lo hi V v.A (v.ts.length * 5) 45
 tb : Tw lo hi V l.Ab (l.bias.length * 4) 41
 grs : El V 1 l.Ag (l.grs.map grcells)
 tg : Tw lo hi V l.Ag (l.grs.length * 1) 46
 gr : ∀ g ∈ l.grs, Tw lo hi V g.A (g.l.length * 1) 3
structure WrN (lo hi : Nat) (g : NeW) (V : World) : Prop where
 las : El V 13 g.A (g.las.map lacells)
 tl : Tw lo hi V g.A (g.las.length * 13) 36
 la : ∀ l ∈ g.las, WrL lo hi l V
theorem LwT.wr {lo : Nat} {l : LaW} {V : World} (h : LwT lo l V) : WrL lo V.heap.size l V :=
 ⟨h.rows.el, h.tr.w, fun v hv => (h.rows.ok v hv).2.w, h.tb.w, h.grs.el, h.tg.w, fun g hg => (h.grs.ok g hg).2.w⟩
section
variable {lo hi : Nat} {V : World} {l : LaW} {g : NeW}
theorem WrL.set {b i : Nat} {e : TypeId} {cur : Array Value} (h : WrL lo hi l V) (hb : Blk V b e cur) (he : wrT e) (u : Value) : WrL lo hi l (V.setCell ⟨b, i, none⟩ u) :=
 ⟨h.rows.far_ (by rw [List.length_map]; exact h.tr) hb (zln (.inr (.inl rfl)) he) u, h.tr.set b i u, fun v hv => (h.row v hv).set b i u, h.tb.set b i u, h.grs.far_ (by rw [List.length_map]; exact h.tg) hb (zln (.inr (.inr rfl)) he) u, h.tg.set b i u, fun g hg => (h.gr g hg).set b i u⟩
theorem WrL.alloc (h : WrL lo hi l V) (o : Obj) : WrL lo hi l (V.alloc o) :=
 ⟨h.rows.alloc_ o, h.tr.alloc o, fun v hv => (h.row v hv).alloc o, h.tb.alloc o, h.grs.alloc_ o, h.tg.alloc o, fun g hg => (h.gr g hg).alloc o⟩
end
structure SpS (w : World) (lo hi : Nat) (g : NeW) (Φ : World → Prop) (V : World) : Prop where
 wn : WrN lo hi g V
 out : Rests V (fun b => b < lo ∨ hi ≤ b) Φ
 bel : Below w.heap.size w V
 lo : w.heap.size ≤ lo
 hi : hi ≤ V.heap.size
section
variable {w V : World} {lo hi : Nat} {g : NeW} {Φ Ψ : World → Prop}
theorem SpS.at_ {A : Option Addr} {m : Nat} {e : TypeId} (h : SpS w lo hi g Φ V) (ht : Tw lo hi V A m e) (he : wrT e) {i : Nat} (hi' : i < m) (u : Value) : SpS w lo hi g Φ (V.setCell (adr A i) u) := by
 obtain ⟨b, cur, rfl, h2, h3, h4, h5⟩ := ht (by omega)
 rw [za4]
 refine ⟨⟨h.wn.las.far_ (by rw [List.length_map]; exact h.wn.tl) h4 (zln (.inl rfl) he) u, h.wn.tl.set b _ u, fun l hl => (h.wn.la l hl).set h4 he u⟩, h.out.set (a := ⟨b, 0 + i, none⟩) (fun hx => ?_) u, h.bel.setCell (p := ⟨b, 0 + i, none⟩) (Nat.le_trans h.lo h2) u, h.lo, ?_⟩
 ·rcases hx with hx | hx
  ·exact absurd hx (Nat.not_lt.2 h2)
  ·exact absurd hx (Nat.not_le.2 h3)
 ·have := h.hi
  simpa [World.setCell] using this
theorem SpS.at4 {A : Option Addr} {m : Nat} {e : TypeId} (h : SpS w lo hi g Φ V) (ht : ∀ V', SpS w lo hi g Φ V' → Tw lo hi V' A m e) (he : wrT e) {i : Nat} (hi' : i + 3 < m) (a b c d : Value) : SpS w lo hi g Φ ((((V.setCell (adr A i) a).setCell (adr A (i + 1)) b).setCell (adr A (i + 2)) c).setCell (adr A (i + 3)) d) := by
 have h1 := h.at_ (ht _ h) he (show i < m by omega) a
 have h2 := h1.at_ (ht _ h1) he (show i + 1 < m by omega) b
 have h3 := h2.at_ (ht _ h2) he (show i + 2 < m by omega) c
 exact h3.at_ (ht _ h3) he hi' d
theorem SpS.al (h : SpS w lo hi g Φ V) (t : TypeId) (cs : Array Value) : ∃ V' gb, V.alloc (.cells cs t) = V' ∧ V.heap.size = gb ∧ Hid (SpS w lo hi g (fun U => Blk U gb t cs ∧ Φ U) V') := by
 refine ⟨_, _, rfl, rfl, zmZ ⟨⟨h.wn.las.alloc_ _, h.wn.tl.alloc _, fun l hl => (h.wn.la l hl).alloc _⟩, ?_, h.bel.alloc h.bel.size _, h.lo, ?_⟩⟩
 ·refine Rests.and ⟨Blk.new V t cs, fun w' hw => ?_⟩ (h.out.alloc _)
  have h1 := Blk.new V t cs
  exact (hw _ (.inr h.hi) h1.lt).trans h1
 ·have := h.hi
  simp; omega
theorem SpS.imp (h : SpS w lo hi g Φ V) (hi' : ∀ U, Φ U → Ψ U) : SpS w lo hi g Ψ V := ⟨h.wn, h.out.imp hi', h.bel, h.lo, h.hi⟩
end
section
variable {w V V' : World} {lo hi : Nat} {g : NeW} {Φ ψ : World → Prop}
theorem Tw.below {A : Option Addr} {m : Nat} {e : TypeId} (h : Tw lo hi V A m e) (hb : Below V.heap.size V V') : Tw lo hi V' A m e := fun h0 => by
 obtain ⟨g, cur, h1, h2, h3, h4, h5⟩ := h h0
 exact ⟨g, cur, h1, h2, h3, h4.below hb h4.lt, h5⟩
theorem El.below_ {sz : Nat} {A : Option Addr} {cs : List (Array Value)} (h : El V sz A cs) (hb : Below V.heap.size V V') : El V' sz A cs :=
 ⟨h.sl, h.size, fun k hk j hj => by rw [← h.cell k hk j hj]; exact World.cell?_of_block (hb.block _ (h.lt k hk j hj))⟩
theorem WrN.below (h : WrN lo hi g V) (hb : Below V.heap.size V V') : WrN lo hi g V' :=
 ⟨h.las.below_ hb, h.tl.below hb, fun l hl => ⟨(h.la l hl).rows.below_ hb, (h.la l hl).tr.below hb, fun v hv => ((h.la l hl).row v hv).below hb, (h.la l hl).tb.below hb, (h.la l hl).grs.below_ hb, (h.la l hl).tg.below hb, fun u hu => ((h.la l hl).gr u hu).below hb⟩⟩
theorem SpS.call (h : SpS w lo hi g Φ V) (hb : Below V.heap.size V V') : SpS w lo hi g Φ V' := ⟨h.wn.below hb, h.out.below hb, Below.after h.bel hb, h.lo, Nat.le_trans h.hi hb.size⟩
theorem SpS.ret (h : SpS w lo hi g Φ V) (hr : Rests V' (V.heap.size ≤ ·) ψ) (hb : Below V.heap.size V V') : SpS w lo hi g (fun U => ψ U ∧ Φ U) V' :=
 ⟨h.wn.below hb, (hr.mono fun _ hx => .inr (Nat.le_trans h.hi hx)).and (h.out.below hb), Below.after h.bel hb, h.lo, Nat.le_trans h.hi hb.size⟩
end
theorem zkB {l : LaW} {lo : Nat} {V : World} (h : LwT lo l V) : Wds (laV l) l.wq V := by
 obtain ⟨F, hF⟩ := zba V
 have d1 : ∀ v ∈ l.rows, ∀ t ∈ v.ts, RawW t.r (F t.r) V ∧ t.x = F t.r := fun v hv t ht => by
  have h1 : RawW t.r t.x V := ((h.rows.ok v hv).1.ok t ht).2
  have h2 := hF t.r ⟨_, h1⟩
  exact ⟨h2, h1.uniq h2⟩
 have d2 : ∀ p : RV × Wd, nwC p V → RawW p.1 (F p.1) V ∧ p.2 = F p.1 := fun p hp => by
  have h1 : RawW p.1 p.2 V := hp.2
  have h2 := hF p.1 ⟨_, h1⟩
  exact ⟨h2, h1.uniq h2⟩
 refine ⟨rfl, ⟨F, ?_, fun v hv t ht => ?_⟩, ⟨F, ?_, fun p hp => ?_⟩, rfl, ⟨F, ?_, fun p hp => ?_⟩, rfl⟩
 ·show l.rows.map vwq = (l.rows.map _).map _
  rw [List.map_map]
  refine List.map_congr_left fun v hv => ?_
  show v.ts.map twq = (v.ts.map _).map _
  rw [List.map_map]
  exact List.map_congr_left fun t ht => by show (t.pl, t.x) = (t.pl, F t.r); rw [(d1 v hv t ht).2]
 ·obtain ⟨u, hu, rfl⟩ := List.mem_map.1 hv
  obtain ⟨s, hs, rfl⟩ := List.mem_map.1 ht
  exact (d1 u hu s hs).1
 ·show l.bias.map Prod.snd = (l.bias.map _).map _
  rw [List.map_map]
  exact List.map_congr_left fun p hp => (d2 p (h.bias.ok p hp)).2
 ·obtain ⟨u, hu, rfl⟩ := List.mem_map.1 hp
  exact (d2 u (h.bias.ok u hu)).1
 ·show l.kern.map Prod.snd = (l.kern.map _).map _
  rw [List.map_map]
  exact List.map_congr_left fun p hp => (d2 p (h.kern.ok p hp)).2
 ·obtain ⟨u, hu, rfl⟩ := List.mem_map.1 hp
  exact (d2 u (h.kern.ok u hu)).1
theorem zkU {l : LaV} {F : RV → Wd} {V : World} (h : LwD (laF (fun r _ => F r) l) V) : Wds l (laF (fun r _ => F r) l).wq V := by
 refine ⟨rfl, ⟨F, ?_, fun v hv t ht => ?_⟩, ⟨F, ?_, fun p hp => ?_⟩, rfl, ⟨F, ?_, fun p hp => ?_⟩, rfl⟩
 ·show (l.rows.map _).map vwq = _
  rw [List.map_map]
  refine List.map_congr_left fun v _ => ?_
  show (v.ts.map _).map twq = _
  rw [List.map_map]; rfl
 ·have h1 : vwD (⟨v.A, v.c, v.ts.map fun t => ⟨t.pl, t.r, F t.r⟩⟩ : VwV) V := h.rows.ok _ (List.mem_map_of_mem (f := fun v : VeV => (⟨v.A, v.c, v.ts.map fun t => ⟨t.pl, t.r, F t.r⟩⟩ : VwV)) hv)
  exact (show LsR 5 twcells twD v.A (v.ts.map fun t => ⟨t.pl, t.r, F t.r⟩) V from h1).ok _ (List.mem_map_of_mem (f := fun t : TeV => (⟨t.pl, t.r, F t.r⟩ : TwV)) ht)
 ·show (l.bias.map _).map Prod.snd = _
  rw [List.map_map]; rfl
 ·exact h.bias.ok _ (List.mem_map_of_mem (f := fun p : RV × Rat => (p.1, F p.1)) hp)
 ·show (l.kern.map _).map Prod.snd = _
  rw [List.map_map]; rfl
 ·exact h.kern.ok _ (List.mem_map_of_mem (f := fun p : RV × Rat => (p.1, F p.1)) hp)
def neV (g : NeW) : NeV := ⟨g.inputs, g.A, g.c, g.las.map laV⟩
theorem zmi {n lo : Nat} {f : NeV} {F : RV → Wd} {g : NeW} {w V : World} (h1 : 1 ≤ n) (hn : n ≤ 1000000) (hf : NeD n f w) (hw : NwD (neF (fun r _ => F r) f) w) (hq : g.wq = (neF (fun r _ => F r) f).wq) (hg : LsR 13 lacells (LwT lo) g.A g.las V) :
 NeD n (neV g) V ∧ g.inputs = f.inputs ∧ g.las.length = f.las.length ∧ (neV g).las.map LaG.q = f.las.map LaG.q ∧ ∀ e, NetP V (neV g) e ↔ NetP w f e := by
 have q1 : g.inputs = f.inputs := congrArg Prod.fst hq
 have q2 : g.las.map LaG.wq = (f.las.map (laF fun r _ => F r)).map LaG.wq := congrArg Prod.snd hq
 have q3 : g.las.length = f.las.length := by simpa using congrArg List.length q2
 have hwl : ∀ l ∈ f.las, Wds l (laF (fun r _ => F r) l).wq w := fun l hl => zkU (hw.ok _ (List.mem_map_of_mem hl))
 have hok : ∀ y ∈ g.las, y.wq.All (okW n) := fun y hy => by
  have h3 : y.wq ∈ (f.las.map (laF fun r _ => F r)).map LaG.wq := by rw [← q2]; exact List.mem_map_of_mem (f := LaG.wq) hy
  obtain ⟨z, hz, e⟩ := List.mem_map.1 h3
  obtain ⟨l, hl, rfl⟩ := List.mem_map.1 hz
  rw [← e]
  exact ((hwl l hl).q (hf.ok l hl)).2
 have hd : NeD n (neV g) V := by
  refine ⟨?_, fun y hy => ?_⟩
  ·show El V 13 g.A ((g.las.map laV).map lacells)
   rw [List.map_map, show (lacells ∘ laV) = (lacells : LaW → Array Value) from funext zgR]
   exact hg.el
  ·obtain ⟨z, hz, rfl⟩ := List.mem_map.1 hy
   exact zmU (hg.ok z hz) (hok z hz)
 have e1 : (neV g).las.map LaG.q = f.las.map LaG.q := by
  show (g.las.map laV).map LaG.q = _
  rw [List.map_map]
  have h3 : g.las.map (LaG.q ∘ laV) = (g.las.map LaG.wq).map WQ.q := by rw [List.map_map]; exact List.map_congr_left fun y _ => zmT y
  rw [h3, q2, List.map_map, List.map_map]
  exact List.map_congr_left fun l hl => ((hwl l hl).q (hf.ok l hl)).1.symm
 have hA : ∀ i (hi : i < f.las.length) (hi' : i < (g.las.map LaG.wq).length), Wds f.las[i] (g.las.map LaG.wq)[i] w ∧ LaD n f.las[i] w := fun i hi hi' => by
  refine ⟨?_, hf.ok _ (List.getElem_mem hi)⟩
  have h4 := (zbp q2).2 i (by simpa using hi') (by simpa using hi)
  rw [List.getElem_map, h4, List.getElem_map]
  exact hwl _ (List.getElem_mem hi)
 have hB : ∀ i (hi : i < (neV g).las.length) (hi' : i < (g.las.map LaG.wq).length), Wds (neV g).las[i] (g.las.map LaG.wq)[i] V ∧ LaD n (neV g).las[i] V := fun i hi hi' => by
  refine ⟨?_, hd.ok _ (List.getElem_mem hi)⟩
  have hi2 : i < g.las.length := by simpa using hi'
  have h5 : (neV g).las[i] = laV g.las[i] := List.getElem_map laV
  rw [h5, List.getElem_map]
  exact zkB (hg.ok _ (List.getElem_mem hi2))
 have l1 : f.las.length = (g.las.map LaG.wq).length := by rw [List.length_map, q3]
 have l2 : (neV g).las.length = (g.las.map LaG.wq).length := by show (g.las.map laV).length = _; rw [List.length_map, List.length_map]
 refine ⟨hd, q1, q3, e1, fun e => ?_⟩
 have hsz : zfc (neV g) ↔ zfc f := by
  unfold zfc
  rw [show (neV g).inputs = f.inputs from q1, show (neV g).las.length = f.las.length from l2.trans l1.symm]
 unfold NetP
 rw [hsz, show (neV g).inputs = f.inputs from q1]
 exact ⟨fun h => h.imp id fun h => ⟨h.1, zh5 h1 hn l2 l1 hB hA h.2⟩, fun h => h.imp id fun h => ⟨h.1, zh5 h1 hn l1 l2 hA hB h.2⟩⟩
end Go.Proofs.YtikmgoefjbhcjaaGreatDoor
