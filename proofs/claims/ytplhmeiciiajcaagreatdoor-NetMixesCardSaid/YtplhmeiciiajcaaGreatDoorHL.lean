/-
 A network cut in two: its first layers, its last ones (plain laws). net.Run. What the laws of law 13 call: Run of the net, of its first layers, of its last ones.
-/
import Derived.Test.YtplhmeiciiajcaaGreatDoorYL
import Derived.Test.YtplhmeiciiajcaaGreatDoorYG
namespace Go.Proofs.YtplhmeiciiajcaaGreatDoor
set_option maxHeartbeats 4000000
open Go.RowKit

theorem trAt_take (qs : List LQ) (xs : List Rat) (c : Nat) : ∀ i, i ≤ c → trAt (qs.take c) xs i = trAt qs xs i
 | 0, _ => rfl
 | i + 1, h => by rw [trAt, trAt, List.getElem?_take_of_lt (by omega), trAt_take qs xs c i (by omega)]
theorem trAt_drop (qs : List LQ) (xs : List Rat) (c : Nat) : ∀ i, trAt (qs.drop c) (trAt qs xs c) i = trAt qs xs (c + i)
 | 0 => rfl
 | i + 1 => by rw [trAt, List.getElem?_drop, trAt_drop qs xs c i, ← Nat.add_assoc, trAt]
def unAt : List LaV → Int → Nat → Int
 | _, n, 0 => n
 | [], n, _ + 1 => n
 | l :: ls, n, c + 1 => unAt ls (unitsQ l n) c
theorem unAt_0 (ls : List LaV) (n : Int) : unAt ls n 0 = n := by cases ls <;> rfl
theorem unitsL_at : ∀ (ls : List LaV) (n : Int) (c : Nat), c ≤ ls.length → (unitsL ls n)[c]? = some (unAt ls n c)
 | [], n, 0, _ => rfl
 | l :: ls, n, 0, _ => rfl
 | l :: ls, n, c + 1, h => by rw [unitsL, List.getElem?_cons_succ, unAt]; exact unitsL_at ls _ c (by simpa using h)
theorem tr_un {w : World} : ∀ {ls : List LaV} {xs : List Rat}, FitsL w ls (xs.length : Int) → ∀ i, i ≤ ls.length → ((trAt (ls.map LaG.q) xs i).length : Int) = unAt ls (xs.length : Int) i
 | ls, xs, _, 0, _ => by rw [unAt_0]; rfl
 | l :: ls, xs, h, i + 1, hi => by
  have e := says_len h.1 rfl
  have h2 := h.2.2
  rw [← e] at h2
  rw [List.map_cons, trAt_cons, unAt, ← e]
  exact tr_un (xs := saysR l.q xs) h2 i (by simpa using hi)
theorem chk_take {w : World} : ∀ {ls : List LaV} {n s : Int} (c : Nat), ChkP w ls n s 0 → ChkP w (ls.take c) n s 0
 | _, _, _, 0, _ => by rw [List.take_zero]; rfl
 | [], _, _, _ + 1, h => h
 | l :: ls, n, s, c + 1, h => by
  rcases h with ⟨-, h2⟩ | ⟨h1, ⟨-, h3⟩ | ⟨h2, h3⟩⟩
  ·omega
  ·omega
  ·exact .inr ⟨h1, .inr ⟨h2, chk_take c h3⟩⟩
theorem chk_less {w : World} : ∀ {ls : List LaV} {n s s' : Int}, ChkP w ls n s 0 → s' ≤ s → ChkP w ls n s' 0
 | [], _, _, _, h, _ => h
 | l :: ls, n, s, s', h, hs => by
  rcases h with ⟨-, h2⟩ | ⟨h1, ⟨-, h3⟩ | ⟨h2, h3⟩⟩
  ·omega
  ·omega
  ·exact .inr ⟨h1, .inr ⟨by omega, chk_less h3 (by omega)⟩⟩
theorem units_pos {w : World} {l : LaV} {n : Int} (h : Fits w l n) (hn : 1 ≤ n) : 1 ≤ unitsQ l n := by
 unfold unitsQ
 rcases h with ⟨k, h⟩ | ⟨k, h⟩ | ⟨k, -⟩ | ⟨k, h⟩
 ·rw [if_pos k]
  have := List.length_pos_iff.2 h.r
  omega
 ·rw [if_neg (by omega), if_pos k]
  have h1 := h.s.2.2.2.1.1
  have h7 := h.s.2.2.2.2.2.2.1
  have r1 : 1 ≤ rowsQ l := by
   unfold rowsQ
   have := Int.ediv_nonneg h.h.1 (show (0 : Int) ≤ l.st by omega)
   omega
  have r2 : 1 ≤ colsQ l := by
   unfold colsQ
   have := Int.ediv_nonneg h.h.2 (show (0 : Int) ≤ l.st by omega)
   omega
  have h8 : 0 < l.out * rowsQ l * colsQ l := Int.mul_pos (Int.mul_pos (by omega) (by omega)) (by omega)
  omega
 ·rw [if_neg (by omega), if_neg (by omega), if_pos k]
  exact hn
 ·rw [if_neg (by omega), if_neg (by omega), if_neg (by omega)]
  have := List.length_pos_iff.2 h.g
  omega
theorem chk_drop {w : World} : ∀ {ls : List LaV} {n s : Int} (c : Nat), (∀ l ∈ ls, LaS l) → 1 ≤ n ∧ n ≤ 256 → ChkP w ls n s 0 → ChkP w (ls.drop c) (unAt ls n c) s 0 ∧ 1 ≤ unAt ls n c ∧ unAt ls n c ≤ 256
 | ls, n, _, 0, _, hn, h => by rw [List.drop_zero, unAt_0]; exact ⟨h, hn⟩
 | [], _, _, _ + 1, _, hn, h => ⟨h, hn⟩
 | l :: ls, n, s, c + 1, hl, hn, h => by
  rcases h with ⟨-, h2⟩ | ⟨h1, ⟨-, h3⟩ | ⟨h2, h3⟩⟩
  ·omega
  ·omega
  ·have hb := beh_b h1 (hl l (List.mem_cons_self ..)) (by omega)
   have hp := units_pos h1 hn.1
   obtain ⟨k1, k2⟩ := chk_drop c (fun x hx => hl x (List.mem_cons_of_mem _ hx)) (by omega) h3
   exact ⟨chk_less k1 (by omega), k2⟩
theorem NetP.z {w : World} {f : NeV} (h : NetP w f 0) : netSz f ∧ ChkP w f.las f.inputs 0 0 := by
 rcases h with ⟨-, h⟩ | h
 ·omega
 ·exact h
theorem net_take {w : World} {f : NeV} {A : Option Addr} {k : Nat} (c : Nat) (h : NetP w f 0) : NetP w ⟨f.inputs, A, k, f.las.take c⟩ 0 := by
 obtain ⟨h1, h2⟩ := h.z
 exact .inr ⟨⟨h1.1, h1.2.1, by show (f.las.take c).length ≤ 16; rw [List.length_take]; have := h1.2.2; omega⟩, chk_take c h2⟩
theorem net_drop {w : World} {f : NeV} {A : Option Addr} {k : Nat} (c : Nat) (h : NetP w f 0) (hs : NeS f) (hu : unAt f.las f.inputs c ≤ 64) : NetP w ⟨unAt f.las f.inputs c, A, k, f.las.drop c⟩ 0 := by
 obtain ⟨h1, h2⟩ := h.z
 obtain ⟨k1, k2, -⟩ := chk_drop c hs.la ⟨h1.1, by have := h1.2.1; omega⟩ h2
 exact .inr ⟨⟨k2, hu, by show (f.las.drop c).length ≤ 16; rw [List.length_drop]; have := h1.2.2; omega⟩, k1⟩
theorem El.drop {w : World} {sz : Nat} {A B : Option Addr} {cs : List (Array Value)} (h : El w sz A cs) (n : Nat) (hs : Sl B (cs.length - n)) (hB : ∀ k, k < (cs.length - n) * sz → adr B k = adr A (n * sz + k)) : El w sz B (cs.drop n) := by
 have hl : (cs.drop n).length = cs.length - n := List.length_drop ..
 refine ⟨by rw [hl]; exact hs, fun i hi => ?_, fun i hi j hj => ?_⟩
 ·rw [List.getElem_drop]; exact h.size (n + i) (by omega)
 ·rw [List.getElem_drop, hB _ (Nat.lt_of_lt_of_le (show i * sz + j < (i + 1) * sz by rw [Nat.add_mul, Nat.one_mul]; omega) (Nat.mul_le_mul_right sz (by omega)))]
  have := h.cell (n + i) (by omega) j hj
  rwa [Nat.add_mul, Nat.add_assoc] at this
theorem LsR.drop {α : Type} {sz : Nat} {cells : α → Array Value} {ok : α → World → Prop} {A B : Option Addr} {l : List α} {w : World} (h : LsR sz cells ok A l w) (n : Nat) (hs : Sl B (l.length - n)) (hB : ∀ k, k < (l.length - n) * sz → adr B k = adr A (n * sz + k)) : LsR sz cells ok B (l.drop n) w :=
 ⟨by have := h.el.drop n (B := B) (by rw [List.length_map]; exact hs) (by rw [List.length_map]; exact hB); rwa [← List.map_drop] at this, fun p hp => h.ok p (List.mem_of_mem_drop hp)⟩
theorem las_hi {A : Option Addr} {n c k : Nat} (hs : Sl A n) (hk : k ≤ n) (hc : n ≤ c) : ∃ d, ∀ W : World, (Instr.sliceAt 22 (.slice A n c) none (some (.int .i64 (k : Int))) none).run Tryz.prog W = .ok (.slice A k d) W := by
 refine ⟨c, fun W => ?_⟩
 have hu : Tryz.prog.underlying 22 = some (.slice (Tryz.prog.elem 22)) := by kernel_rfl
 rw [run_sliceAt_slice (h := hu), run_slice_h (ht := hu) (h0 := by omega) (h2 := by omega), size_las W]
 show Result.ok (sliced A 0 (k : Int).toNat c 13) W = _
 rw [Int.toNat_natCast]
 unfold sliced
 split
 ·rename_i h
  have : k = 0 := by omega
  subst h this
  rfl
 ·rcases A with - | ⟨b, o, sp⟩
  ·rfl
  ·rcases Nat.eq_zero_or_pos n with e | e
   ·have : k = 0 := by omega
    subst this
    cases sp <;> rfl
   ·obtain ⟨b', o', e'⟩ := hs e
    cases e'
    rfl
theorem las_lo {A : Option Addr} {n c k : Nat} (hs : Sl A n) (hk : k ≤ n) (hc : n ≤ c) : ∃ B d, (∀ W : World, (Instr.sliceAt 22 (.slice A n c) (some (.int .i64 (k : Int))) none none).run Tryz.prog W = .ok (.slice B (n - k) d) W) ∧ Sl B (n - k) ∧ ∀ j, j < (n - k) * 13 → adr B j = adr A (k * 13 + j) := by
 have hr : ∀ W : World, (Instr.sliceAt 22 (.slice A n c) (some (.int .i64 (k : Int))) none none).run Tryz.prog W = .ok (sliced A k n c 13) W := fun W => by
  have hu : Tryz.prog.underlying 22 = some (.slice (Tryz.prog.elem 22)) := by kernel_rfl
  rw [run_sliceAt_slice (h := hu), run_slice_l (ht := hu) (h0 := by omega) (h1 := by omega), size_las W]
  show Result.ok (sliced A (k : Int).toNat n c 13) W = _
  rw [Int.toNat_natCast]
 by_cases h : c = k
 ·have hn : n = k := by omega
  subst h hn
  exact ⟨A, 0, fun W => by rw [hr]; unfold sliced; rw [if_pos rfl, Nat.sub_self], fun h0 => absurd h0 (by omega), fun j hj => absurd hj (by omega)⟩
 ·by_cases hn : n = k
  ·refine ⟨A.map (·.add (k * 13)), c - k, fun W => by rw [hr]; unfold sliced; rw [if_neg h], fun h0 => absurd h0 (by omega), fun j hj => absurd hj (by omega)⟩
  ·obtain ⟨b, o, rfl⟩ := hs (by omega)
   refine ⟨some ⟨b, o + k * 13, none⟩, c - k, fun W => by rw [hr]; unfold sliced; rw [if_neg h, Option.map_some, show (⟨b, o, none⟩ : Addr).add (k * 13) = ⟨b, o + k * 13, none⟩ by simp [Addr.add]], Sl.some_ _ _ _, fun j _ => ?_⟩
   rw [adr_some, adr_some]; congr 1; omega
theorem SmL.up {U V d : Nat} {l : LaV} (h : SmL U d l) (hU : U ≤ V) : SmL V d l :=
 ⟨⟨by have := h.rows.1; omega, fun v hv => ⟨by have := (h.rows.2 v hv).1; omega, (h.rows.2 v hv).2⟩⟩, ⟨by have := h.bias.1; omega, h.bias.2⟩, ⟨by have := h.kern.1; omega, h.kern.2⟩, by have := h.grs; omega, by have := h.dims; omega, fun g hg => by have := h.gr g hg; omega⟩
end Go.Proofs.YtplhmeiciiajcaaGreatDoor
namespace Go.Proofs.YtplhmeiciiajcaaGreatDoor
set_option maxHeartbeats 4000000
open Go.RowKit

def RuRes (f : NeV) (xs : List Rat) (w : World) (e : Ending) (w' : World) : Prop :=
 (∃ err : Int, e = .returned (.tuple #[.slice none 0 0, .int .i64 err]) ∧ ((err ≠ 0 ∧ NetP w f err) ∨ (err = 22 ∧ NetP w f 0 ∧ f.inputs ≠ (xs.length : Int))) ∧ Below w.heap.size w w') ∨
 (NetP w f 0 ∧ f.inputs = (xs.length : Int) ∧ ∃ (A : Option Addr) (c : Nat) (os : List (RV × Rat)), e = .returned (.tuple #[.slice A (List.length os) c, .int .i64 0]) ∧ os.map Prod.snd = trAt (f.las.map LaG.q) xs f.las.length ∧ Rests w' (w.heap.size ≤ ·) (LsR 4 rtcells roN A os) ∧ Below w.heap.size w w')
theorem LsR.rsc {ok : RsV → World → Prop} {A : Option Addr} {l : List RsV} {w : World} (h : LsR 1 rscells ok A l w) (i : Nat) (hi : i < l.length) : w.cell? (adr A i) = some (.slice (l[i]).A (l[i]).l.length (l[i]).c) := by
 have h1 := h.el.cell (i := i) (j := 0) (by simpa using hi) (by decide)
 simpa [rscells] using h1
set_option maxRecDepth 100000 in
theorem run_any (w : World) (n N : Nat) (hnN : n ≤ N) (hN : N ≤ 100000) (h1n : 1 ≤ n) (f : NeV) (h : NeD n f w) (hs : NeS f) (hT : Tz w) (nl : Nat) (hnl : nl = f.las.length) (Ax : Option Addr) (cx : Nat) (xs : List (RV × Rat)) (nx : Nat) (hx : LsR 4 rtcells (roD N) Ax xs w) (hnx : nx = xs.length) (hxb : nx ≤ 1000) (hst : NetP w f 0 → f.inputs = (xs.length : Int) → ∀ i (hi : i < f.las.length), StOk N f.las[i] (trAt (f.las.map LaG.q) (xs.map Prod.snd) i)) : Calls Tryz.prog 12 #[.agg #[.int .i64 f.inputs, .slice f.A nl f.c], .slice Ax nx cx] w (RuRes f (xs.map Prod.snd) w) := by
 have Hst := Lib.hid hst
 have Hs := Lib.hid hs
 have Hn := Lib.hid hnx
 have Hl := Lib.hid hnl
 have hadd := adr_add
 have szs := size_rs9
 obtain ⟨W0, hW0⟩ : ∃ W0, W0 = (w.alloc (.cells #[.int .i64 f.inputs, .slice f.A nl f.c] 24)) := ⟨_, rfl⟩
 have HE := Lib.hid (Env.lay1 (Env.start ((h.old).and (((hx.old roD_old)).and ((hT.old).and ((NeD.iffR h)))))) hW0)
 subst hW0
 have c := Env.c1 HE.out
 clear h hx hT hs hst hnx hnl
 go_enter Tryz.func12, Tryz.ntmps12
 go_wp2_with fail
 refine (trace_any _ n N hnN hN h1n f HE.out.o.1 Hs.out HE.out.o.2.2.1 nl Hl.out Ax cx xs nx HE.out.o.2.1 Hn.out hxb (fun h0 hi => Hst.out ((HE.out.o.2.2.2 0).1 h0) hi)).mono ?_
 rintro e w1 (⟨err, rfl, hN9, hb9⟩ | ⟨hN9, hi9, A, c1, os, rfl, hq9, hr9, hb9⟩)
 ·have HN := Lib.hid (show (err ≠ 0 ∧ NetP w f err) ∨ (err = 22 ∧ NetP w f 0 ∧ f.inputs ≠ ((xs.map Prod.snd).length : Int)) from hN9.imp (fun h => ⟨h.1, (HE.out.o.2.2.2 err).1 h.2⟩) (fun h => ⟨h.1, (HE.out.o.2.2.2 0).1 h.2.1, h.2.2⟩))
  replace HE := Lib.hid (Env.call HE.out hb9)
  have h1 : (err != 0) = true := by rcases HN.out with h | h <;> simp [h.1]
  clear hN9 hb9
  go_wp2_with fail
  exact bodyPost_ret (v := .tuple #[.slice none 0 0, .int .i64 err]) (by simp [results, Tryz.results12, go_sem]) rfl (.inl ⟨err, rfl, HN.out, HE.out.bel⟩)
 ·have HN := Lib.hid ((HE.out.o.2.2.2 0).1 hN9)
  have Hi := Lib.hid hi9
  replace HE := Lib.hid (Env.ret HE.out hr9 hb9)
  have hol : os.length = f.las.length + 1 := by
   have := congrArg List.length hq9
   rw [List.length_map, trQ, List.length_map, List.length_range, List.length_map] at this
   exact this
  obtain ⟨no, hno⟩ : ∃ no, no = os.length := ⟨_, rfl⟩
  obtain ⟨m, hm⟩ : ∃ m, m = f.las.length := ⟨_, rfl⟩
  have hmo : m < os.length := by omega
  have cm := HE.out.n.1.rsc m hmo
  have slo := HE.out.n.1.sl
  have HQ := Lib.hid (show (os[m]).q = trAt (f.las.map LaG.q) (xs.map Prod.snd) f.las.length from by
   have h1 : (os.map RsV.q)[m]? = (trQ (f.las.map LaG.q) (xs.map Prod.snd))[m]? := by rw [hq9]
   rw [List.getElem?_map, List.getElem?_eq_getElem hmo, trQ, List.getElem?_map, List.getElem?_range (by rw [List.length_map]; omega)] at h1
   have h2 := Option.some.inj h1
   rw [h2, hm])
  have Hmm := Lib.hid (List.getElem_mem hmo)
  obtain ⟨v, hv⟩ : ∃ v, v = os[m] := ⟨_, rfl⟩
  rw [← hv] at cm HQ Hmm
  have hnb : no ≤ 100001 := by have := Hs.out.n; omega
  have e2 : (no : Int) - 1 = (m : Int) := by omega
  have hmn : m < no := by omega
  rw [← hno] at slo
  rw [← hno]
  clear hv hN9 hi9 hq9 hr9 hb9 hol hno hm hmo
  go_wp2_with fail
  exact bodyPost_ret (v := .tuple #[.slice v.A v.l.length v.c, .int .i64 0]) (by simp [results, Tryz.results12, go_sem]) rfl (.inr ⟨HN.out, Hi.out, v.A, v.c, v.l, rfl, HQ.out, (HE.out.rsn.mono fun _ h => h.1).imp fun V h => h.1.ok v Hmm.out, HE.out.bel⟩)
end Go.Proofs.YtplhmeiciiajcaaGreatDoor
namespace Go.Proofs.YtplhmeiciiajcaaGreatDoor
set_option maxHeartbeats 4000000
open Go.RowKit

def ErrP (w : World) (f : NeV) (xs : List (RV × Rat)) (err : Int) : Prop := (err ≠ 0 ∧ NetP w f err) ∨ (err = 22 ∧ NetP w f 0 ∧ f.inputs ≠ (xs.length : Int))
theorem ErrP.uniq {w : World} {f : NeV} {xs : List (RV × Rat)} {a b : Int} (h : ErrP w f xs a) (h' : ErrP w f xs b) : a = b := by
 rcases h with ⟨h1, h2⟩ | ⟨h1, h2, h3⟩ <;> rcases h' with ⟨k1, k2⟩ | ⟨k1, k2, k3⟩
 ·exact NetP.uniq h2 k2
 ·exact absurd (NetP.uniq h2 k2) h1
 ·exact absurd (NetP.uniq k2 h2) k1
 ·exact h1.trans k1.symm
theorem ErrP.ne {w : World} {f : NeV} {xs : List (RV × Rat)} {a : Int} (h : ErrP w f xs a) : a ≠ 0 := by
 rcases h with ⟨h1, -⟩ | ⟨h1, -⟩ <;> omega
theorem ErrP.no {w : World} {f : NeV} {xs : List (RV × Rat)} {a : Int} (h : ErrP w f xs a) (hN : NetP w f 0) (hx : f.inputs = (xs.length : Int)) : False := by
 rcases h with ⟨h1, h2⟩ | ⟨h1, h2, h3⟩
 ·exact h1 (NetP.uniq h2 hN)
 ·exact h3 hx
def outQ (f : NeV) (xs : List (RV × Rat)) (k : Nat) : List Rat := trAt (f.las.map LaG.q) (xs.map Prod.snd) k
def RunV (f : NeV) (xs : List (RV × Rat)) (w V : World) (e : Ending) (V' : World) : Prop :=
 (∃ err, e = .returned (.tuple #[.slice none 0 0, .int .i64 err]) ∧ ErrP w f xs err ∧ Below V.heap.size V V') ∨
 (NetP w f 0 ∧ f.inputs = (xs.length : Int) ∧ ∃ v : RsV, e = .returned (.tuple #[.slice v.A v.l.length v.c, .int .i64 0]) ∧ v.q = outQ f xs f.las.length ∧ Rests V' (V.heap.size ≤ ·) (rsN v) ∧ Below V.heap.size V V')
def TraV (f : NeV) (xs : List (RV × Rat)) (w V : World) (e : Ending) (V' : World) : Prop :=
 (∃ err, e = .returned (.tuple #[.slice none 0 0, .int .i64 err]) ∧ ErrP w f xs err ∧ Below V.heap.size V V') ∨
 (NetP w f 0 ∧ f.inputs = (xs.length : Int) ∧ ∃ (A : Option Addr) (c : Nat) (os : List RsV), e = .returned (.tuple #[.slice A (List.length os) c, .int .i64 0]) ∧ os.map RsV.q = (List.range (f.las.length + 1)).map (outQ f xs) ∧ Rests V' (V.heap.size ≤ ·) (LsR 1 rscells rsN A os) ∧ Below V.heap.size V V')
section
variable {w : World} {f : NeV} {xs : List (RV × Rat)} {nl nx cx k d : Nat} {Ax : Option Addr} (hS : SayIn w f xs) {V : World} (hT : Tz V) (hV : NeD 1 f V) (hI : ∀ err, NetP V f err ↔ NetP w f err) (hX : LsR 4 rtcells (roD 1) Ax xs V) (hx : nx = xs.length)
include hS
theorem out_ok (hN : NetP w f 0) (he : f.inputs = (xs.length : Int)) (k : Nat) (hk : k ≤ f.las.length) : (outQ f xs k).length ≤ 256 ∧ (∀ q ∈ outQ f xs k, Sz q 5000) ∧ ((outQ f xs k).length : Int) = unAt f.las f.inputs k := by
 have h1 := tr_all hS hN (outQ f xs k) (by unfold trL; rw [if_pos he]; exact List.mem_map.2 ⟨k, by rw [List.mem_range, List.length_map]; omega, rfl⟩)
 refine ⟨h1.1, h1.2, ?_⟩
 have hF := fits_of hN
 rw [he] at hF
 have h2 := tr_un (xs := xs.map Prod.snd) (by rw [List.length_map]; exact hF) k hk
 rw [List.length_map, ← he] at h2
 exact h2
include hT hV hI hX hx
theorem run_n (hl : nl = f.las.length) : Calls Tryz.prog 12 #[.agg #[.int .i64 f.inputs, .slice f.A nl f.c], .slice Ax nx cx] V (RunV f xs w V) := by
 refine (run_any V 1 5000 (by decide) (by decide) (by decide) f hV hS.s hT nl hl Ax cx xs nx (hX.imp fun p hp hp' => RatD.mono hp' (by decide)) hx (by have := hS.x; omega) (fun h0 he i hi => hS.st ((hI 0).1 h0) he i hi)).mono ?_
 rintro e V' (⟨err, rfl, h, hb⟩ | ⟨hN, he, A, c, os, rfl, hq, hr, hb⟩)
 ·exact .inl ⟨err, rfl, h.imp (fun h => ⟨h.1, (hI err).1 h.2⟩) (fun h => ⟨h.1, (hI 0).1 h.2.1, by have := h.2.2; rwa [List.length_map] at this⟩), hb⟩
 ·exact .inr ⟨(hI 0).1 hN, by rwa [List.length_map] at he, ⟨A, c, os⟩, rfl, hq, hr, hb⟩
theorem tra_n (hl : nl = f.las.length) : Calls Tryz.prog 16 #[.agg #[.int .i64 f.inputs, .slice f.A nl f.c], .slice Ax nx cx] V (TraV f xs w V) := by
 refine (trace_any V 1 5000 (by decide) (by decide) (by decide) f hV hS.s hT nl hl Ax cx xs nx (hX.imp fun p hp hp' => RatD.mono hp' (by decide)) hx (by have := hS.x; omega) (fun h0 he i hi => hS.st ((hI 0).1 h0) he i hi)).mono ?_
 rintro e V' (⟨err, rfl, h, hb⟩ | ⟨hN, he, A, c, os, rfl, hq, hr, hb⟩)
 ·exact .inl ⟨err, rfl, h.imp (fun h => ⟨h.1, (hI err).1 h.2⟩) (fun h => ⟨h.1, (hI 0).1 h.2.1, by have := h.2.2; rwa [List.length_map] at this⟩), hb⟩
 ·exact .inr ⟨(hI 0).1 hN, by rwa [List.length_map] at he, A, c, os, rfl, by rw [hq, trQ, List.length_map]; rfl, hr, hb⟩
theorem run_hi (hN : NetP w f 0) (he : f.inputs = (xs.length : Int)) (hk : k ≤ f.las.length) : Calls Tryz.prog 12 #[.agg #[.int .i64 f.inputs, .slice f.A k d], .slice Ax nx cx] V fun e V' => ∃ v : RsV, e = .returned (.tuple #[.slice v.A v.l.length v.c, .int .i64 0]) ∧ v.q = outQ f xs k ∧ Rests V' (V.heap.size ≤ ·) (rsN v) ∧ Below V.heap.size V V' := by
 have hlen : (f.las.take k).length = k := by rw [List.length_take]; omega
 have hN' : NetP V ⟨f.inputs, f.A, d, f.las.take k⟩ 0 := net_take k ((hI 0).2 hN)
 refine (run_any V 1 5000 (by decide) (by decide) (by decide) ⟨f.inputs, f.A, d, f.las.take k⟩ (LsR.take hV k) ⟨by show (f.las.take k).length ≤ _; have := hS.n; omega, fun l hl => hS.s.la l (List.mem_of_mem_take hl)⟩ hT k hlen.symm Ax cx xs nx (hX.imp fun p hp hp' => RatD.mono hp' (by decide)) hx (by have := hS.x; omega) (fun _ _ i hi => ?_)).mono ?_
 ·have hi' : i < k := by rw [← hlen]; exact hi
  have h1 := hS.st hN he i (by omega)
  show StOk 5000 (f.las.take k)[i] (trAt ((f.las.take k).map LaG.q) _ i)
  rw [List.getElem_take, List.map_take, trAt_take _ _ _ _ (by omega)]
  exact h1
 ·rintro e V' (⟨err, rfl, h, hb⟩ | ⟨-, -, A, c, os, rfl, hq, hr, hb⟩)
  ·rcases h with ⟨h0, h⟩ | ⟨-, -, h⟩
   ·exact absurd (NetP.uniq h hN') h0
   ·rw [List.length_map] at h; exact absurd he h
  ·refine ⟨⟨A, c, os⟩, rfl, ?_, hr, hb⟩
   show os.map Prod.snd = _
   rw [hq]
   show trAt ((f.las.take k).map LaG.q) _ (f.las.take k).length = _
   rw [hlen, List.map_take, trAt_take _ _ _ _ (Nat.le_refl k)]
   rfl
omit hX hx in
theorem run_lo {B : Option Addr} {v : RsV} {n2 nv : Nat} (hN : NetP w f 0) (he : f.inputs = (xs.length : Int)) (hk : k ≤ f.las.length) (hB : Sl B (f.las.length - k)) (hA : ∀ j, j < (f.las.length - k) * 13 → adr B j = adr f.A (k * 13 + j)) (hv : rsN v V) (hq : v.q = outQ f xs k) (h64 : nv ≤ 64) (hnv : nv = v.l.length) (hn2 : n2 = f.las.length - k) :
 Calls Tryz.prog 12 #[.agg #[.int .i64 (nv : Int), .slice B n2 d], .slice v.A nv v.c] V fun e V' => ∃ u : RsV, e = .returned (.tuple #[.slice u.A u.l.length u.c, .int .i64 0]) ∧ u.q = outQ f xs f.las.length ∧ Rests V' (V.heap.size ≤ ·) (rsN u) ∧ Below V.heap.size V V' := by
 have hlen : (f.las.drop k).length = f.las.length - k := List.length_drop ..
 obtain ⟨o1, o2, o3⟩ := out_ok hS hN he k hk
 have hvl : v.q.length = v.l.length := List.length_map ..
 have hu : (nv : Int) = unAt f.las f.inputs k := by rw [← o3, ← hq, hvl, hnv]
 have hN' : NetP V ⟨(nv : Int), B, d, f.las.drop k⟩ 0 := by rw [hu]; exact net_drop k ((hI 0).2 hN) hS.s (by omega)
 have hd : NeD 1 ⟨(nv : Int), B, d, f.las.drop k⟩ V := LsR.drop hV k hB hA
 refine (run_any V 1 5000 (by decide) (by decide) (by decide) ⟨(nv : Int), B, d, f.las.drop k⟩ hd ⟨by show (f.las.drop k).length ≤ _; have := hS.n; omega, fun l hl => hS.s.la l (List.mem_of_mem_drop hl)⟩ hT n2 (hn2.trans hlen.symm) v.A v.c v.l nv (hv.imp fun p hp hp' => RatN.rat hp' (o2 p.2 (by rw [← hq]; exact List.mem_map_of_mem (f := Prod.snd) hp))) hnv (by omega) (fun _ _ i hi => ?_)).mono ?_
 ·have hi' : k + i < f.las.length := by have : i < (f.las.drop k).length := hi; omega
  have h1 := hS.st hN he (k + i) hi'
  show StOk 5000 (f.las.drop k)[i] (trAt ((f.las.drop k).map LaG.q) v.q i)
  rw [hq, outQ, List.getElem_drop, List.map_drop, trAt_drop]
  exact h1
 ·rintro e V' (⟨err, rfl, h, hb⟩ | ⟨-, -, A, c, os, rfl, hq9, hr, hb⟩)
  ·rcases h with ⟨h0, h⟩ | ⟨-, -, h⟩
   ·exact absurd (NetP.uniq h hN') h0
   ·rw [List.length_map, ← hnv] at h; exact absurd rfl h
  ·refine ⟨⟨A, c, os⟩, rfl, ?_, hr, hb⟩
   show os.map Prod.snd = _
   rw [hq9]
   show trAt ((f.las.drop k).map LaG.q) v.q (f.las.drop k).length = _
   rw [hlen, hq, outQ, List.map_drop, trAt_drop]
   unfold outQ
   congr 1
   omega
end
end Go.Proofs.YtplhmeiciiajcaaGreatDoor
