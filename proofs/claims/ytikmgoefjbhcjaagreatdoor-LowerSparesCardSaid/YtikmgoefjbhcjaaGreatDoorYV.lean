/-
 tripwirelaw14.LowerSpares. LowerSpares returns true, whatever the input; no conditions: the row and its card.
-/
import Derived.Test.YtikmgoefjbhcjaaGreatDoorYT
import Derived.Test.YtikmgoefjbhcjaaGreatDoorMI
import Derived.Test.YtikmgoefjbhcjaaGreatDoorMJ
import Derived.ChangeMaps5
namespace Go.Proofs.YtikmgoefjbhcjaaGreatDoor
set_option maxHeartbeats 16000000
open Go.RowKit

theorem LQ.Ln.w2 {l : LaV} (h : l.q.Ln) (f : RV → Rat → Wd) : LwS2 (laF f l) := by
 have h1 := h.s
 refine ⟨?_, fun v hv => ?_, ?_, ?_, h1.grs, fun g hg => ?_⟩
 ·show (l.rows.map _).length ≤ _
  rw [List.length_map]; exact h1.rows
 ·obtain ⟨u, hu, rfl⟩ := List.mem_map.1 (show v ∈ l.rows.map _ from hv)
  rw [List.length_map]; have := h1.row u hu; omega
 ·show (l.bias.map _).length ≤ _
  rw [List.length_map]; exact h1.bias
 ·show (l.kern.map _).length ≤ _
  rw [List.length_map]; exact h1.kern
 ·have := h1.gr g hg; omega
def SpM (f : NeV) (w : World) (e : Ending) (w' : World) : Prop := ∃ (err : Int) (m : NeW), e = .returned (.tuple #[.agg #[.int .i64 m.inputs, .slice m.A m.las.length m.c], .int .i64 err]) ∧ NetP w f err ∧ (∀ l ∈ m.las, LwS2 l) ∧ m.las.length ≤ 100000 ∧ Rests w' (w.heap.size ≤ ·) (NwD m) ∧ Below w.heap.size w w'
theorem zm1 (w : World) (f : NeV) (h : NeD 2 f w) (hs : NeS f) (hk : ∀ l ∈ f.las, l.kern.length ≤ 1000) (hT : Tz w) (nl : Nat) (hnl : nl = f.las.length) : Calls Tryz.prog 9 #[.agg #[.int .i64 f.inputs, .slice f.A nl f.c]] w (SpM f w) := by
 refine (zcy w 2 (by decide) (by decide) f h hs hk hT nl hnl).mono ?_
 rintro e w' (⟨err, h0, hN, rfl, hb⟩ | ⟨hN, A, c, ls, rfl, -, hq, hr, hb⟩)
 ·exact ⟨err, nilW, rfl, hN, fun l hl => (by cases hl), by decide, ⟨zhU _, fun _ _ => zhU _⟩, hb⟩
 ·have hF : zc0 w f.las f.inputs := zcm hN
  have hO := zd9 hF fun l hl => ⟨hs.la l hl, hk l hl⟩
  have hz : ∀ y ∈ ls, y.q.Sz' 2 ∧ y.q.Ln := fun y hy => by
   have h1 : y.q ∈ f.las.map lowQ := by rw [← hq]; exact List.mem_map_of_mem (f := LaG.q) hy
   obtain ⟨l, hl, e⟩ := List.mem_map.1 h1
   rw [← e]
   exact ⟨zhd (LaD.sz (h.ok l hl) (by decide)) (by decide), zhM (hO l hl)⟩
  refine ⟨0, ⟨f.inputs, A, c, ls.map (laF fN)⟩, by rw [show (⟨f.inputs, A, c, ls.map (laF fN)⟩ : NeW).las.length = ls.length from List.length_map _], hN, fun x hx => ?_, ?_, hr.imp fun V hV => zjf hV.el fun l hl => (hV.ok l hl).w (hz l hl).1 (by decide), hb⟩
  ·obtain ⟨y, hy, rfl⟩ := List.mem_map.1 (show x ∈ ls.map (laF fN) from hx)
   exact (hz y hy).2.w2 fN
  ·show (ls.map (laF fN)).length ≤ _
   rw [List.length_map, show ls.length = f.las.length from by simpa using congrArg List.length hq]; exact hs.n
theorem zmC {f : NeV} {g : NeW} (hP : f.las.length ≤ 6 ∧ ∀ l ∈ f.las, SmL 24 2 l) (hl : g.las.length = f.las.length) (hq : (neV g).las.map LaG.q = f.las.map LaG.q) : NeS (neV g) ∧ ∀ l ∈ (neV g).las, l.kern.length ≤ 1000 := by
 have h1 : ∀ y ∈ (neV g).las, ∃ l ∈ f.las, y.q = l.q := fun y hy => by
  have h2 : y.q ∈ f.las.map LaG.q := by rw [← hq]; exact List.mem_map_of_mem (f := LaG.q) hy
  obtain ⟨l, hl, e⟩ := List.mem_map.1 h2
  exact ⟨l, hl, e.symm⟩
 refine ⟨⟨?_, fun y hy => ?_⟩, fun y hy => ?_⟩
 ·show (g.las.map laV).length ≤ _
  rw [List.length_map, hl]; have := hP.1; omega
 ·obtain ⟨l, hl, e⟩ := h1 y hy
  have h2 := (((hP.2 l hl).t (by decide)).toLaS).ln
  rw [← e] at h2
  exact h2.s
 ·obtain ⟨l, hl, e⟩ := h1 y hy
  have h2 := (hP.2 l hl).kern.1
  have h3 : y.q.kern.length = y.kern.length := List.length_map _
  have h4 : l.q.kern.length = l.kern.length := List.length_map _
  rw [e] at h3
  omega
section
variable {lo hi : Nat} {l : LaW} {V : World} {g : NeW}
theorem WrN.lc (h : WrN lo hi g V) (i : Nat) (hi' : i < g.las.length) : LC g.A i g.las[i] V := LsR.lac (ok := fun _ _ => True) ⟨h.las, fun _ _ => trivial⟩ i hi'
theorem WrL.vh (h : WrL lo hi l V) (k : Nat) (hk : k < l.rows.length) : V.cell? (adr l.Ar k) = some (.slice (l.rows[k]).A (l.rows[k]).ts.length (l.rows[k]).c) := LsR.vw (ok := fun _ _ => True) ⟨h.rows, fun _ _ => trivial⟩ k hk
theorem WrL.gh (h : WrL lo hi l V) (k : Nat) (hk : k < l.grs.length) : V.cell? (adr l.Ag k) = some (.slice (l.grs[k]).A (l.grs[k]).l.length (l.grs[k]).c) := LsR.gc (ok := fun _ _ => True) ⟨h.grs, fun _ _ => trivial⟩ k hk
end
set_option maxRecDepth 100000 in
theorem zdx (w : World) (n : Nat) (f : NeV) (h : NeD n f w) (hm : ∀ l ∈ f.las, LaM l) (hml : f.las.length ≤ 9223372036854775807) (hT : Tz w) (nl : Nat) (hnl : nl = f.las.length) : Calls Tryz.prog 3 #[.agg #[.int .i64 f.inputs, .slice f.A nl f.c]] w fun e w' => e = .returned (.bool true) ∧ Below w.heap.size w w' := by
 have Hw := zmZ h
 have Hn := zmZ hnl
 have Hm := zmZ hm
 have Hl := zmZ hml
 obtain ⟨W0, hW0⟩ : ∃ W0, W0 = (w.alloc (.cells #[.int .i64 f.inputs, .slice f.A nl f.c] 24)) := ⟨_, rfl⟩
 have HE := zmZ (Env.lay1 (Env.start ((h.old).and (((NeD.iffR h)).and (hT.old)))) hW0)
 subst hW0
 have c := Env.c1 HE.out
 clear h hT hnl hm hml
 go_enter Tryz.func3, Tryz.ntmps3
 go_wp2_with fail
 refine (zd1 _ n f HE.out.o.1 Hm.out Hl.out 6 24 2 (by decide) nl Hn.out).mono ?_
 rintro e w1 ⟨⟨B, rfl, hB⟩, hb⟩
 have HB := zmZ hB
 replace HE := zmZ (Env.call HE.out hb)
 replace c := Env.c1 HE.out
 clear hB hb
 cases B
 ·go_wp2_with fail
  refine (zaY _ HE.out.o.2.2).mono ?_
  rintro e w9 ⟨rfl, hb⟩
  have Hb9 := zmZ (Below.after HE.out.bel hb)
  clear hb
  go_wp2_with fail
  exact bodyPost_ret (v := .bool true) (by simp [results, Tryz.results3, go_sem]) rfl ⟨rfl, Hb9.out⟩
 ·have HP := zmZ (HB.out rfl)
  clear HB
  have Hw2 := zmZ (show NeD 2 f w from LsR.imp Hw.out fun l hl hl' => (HP.out.2 l hl).d hl')
  obtain ⟨gw, hgw⟩ := NeD.w Hw2.out (by decide)
  replace HE := zmZ ((HE.out.more hgw.old).imp (φ := fun V => (NwD (neF (fun r _ => gw r) f) V ∧ NeD 2 f V ∧ (∀ err, NetP V f err ↔ NetP w f err) ∧ Tz V)) (ψ := fun _ => True) (fun V h => ⟨h.1, LsR.imp h.2.1 fun l hl hl' => (HP.out.2 l hl).d hl', h.2.2.1, h.2.2.2⟩) (fun _ _ => trivial))
  have Hgw := zmZ hgw
  clear hgw
  have HLW := zmZ (show ∀ x ∈ (neF (fun r _ => gw r) f).las, LwS2 x from fun x hx => by
   obtain ⟨l, hl, rfl⟩ := List.mem_map.1 hx
   exact (HP.out.2 l hl).lw2 (by decide) _)
  have HNL := zmZ (show f.las.length ≤ 6 from HP.out.1)
  have HNW := zmZ (show nl = (neF (fun r _ => gw r) f).las.length from by rw [Hn.out]; exact (List.length_map _).symm)
  replace c := Env.c1 HE.out
  go_wp2_with fail
  refine (zhW _ (neF (fun r _ => gw r) f) HE.out.o.1 HLW.out (by rw [← HNW.out, Hn.out]; have := HNL.out; omega) nl HNW.out).mono ?_
  rintro e w2 ⟨g, rfl, hwq, -, hk9, hb9⟩
  have HK := zmZ hk9
  have HV := zmZ (fun (V : World) (hV : LsR 13 lacells (LwT w1.heap.size) g.A g.las V) => zmi (by decide) (by decide) Hw2.out Hgw.out hwq hV)
  have HGL := zmZ (show g.las.length = f.las.length from (HV.out _ hk9.now.1).2.2.1)
  have HLS := zmZ (show ∀ x ∈ g.las, LwS x from zmd (congrArg Prod.snd hwq) fun x hx => (HLW.out x hx).s)
  have HGS := zmZ (zmC HP.out HGL.out (HV.out _ hk9.now.1).2.2.2.1)
  have HX := zmZ (show SpS w w1.heap.size w2.heap.size g (fun V => Blk V (w.heap.size) 24 #[.int .i64 f.inputs, .slice f.A nl f.c] ∧ NeD 2 f V ∧ (∀ err, NetP V f err ↔ NetP w f err) ∧ Tz V) w2 from ⟨⟨hk9.now.1.el, hk9.now.2.w, fun l hl => (hk9.now.1.ok l hl).wr⟩, Rests.and (by
   have hB := HE.out.bx ⟨w.heap.size, 24, #[.int .i64 f.inputs, .slice f.A nl f.c]⟩ (by simp)
   have hB2 := hB.below hb9 hB.lt
   exact ⟨hB2, fun w' hw => (hw _ (.inl hB.lt) hB2.lt).trans hB2⟩) (((HE.out.rso.lt.mono fun _ h => Or.inl h.2).below hb9).imp fun _ h => h.2), Below.after HE.out.bel hb9, HE.out.bel.size, Nat.le_refl _⟩)
  clear hwq hk9 hb9 c
  obtain ⟨ng, hng⟩ : ∃ x, x = g.las.length := ⟨_, rfl⟩
  rw [← hng]
  have Hng := zmZ hng
  have hngb : ng ≤ 100000 := by rw [hng, HGL.out]; have := HNL.out; omega
  clear hng
  go_upto_region 4 with fail
  obtain ⟨W3, g3, hW, hg, HX⟩ := HX.out.al 24 #[.int .i64 g.inputs, .slice g.A ng g.c]
  have HK3 := zmZ (show LsR 13 lacells (LwT w1.heap.size) g.A g.las W3 from by rw [← hW]; exact ((HK.out.alloc _).now).1)
  rw [hW, hg]
  clear hW hg HE HK
  have c := (HX.out.out.now).1.cb
  go_wp2_with fail
  refine (zm1 _ (neV g) (HV.out _ HK3.out).1 HGS.out.1 HGS.out.2 HX.out.out.now.2.2.2.2 ng (by rw [Hng.out]; exact (List.length_map _).symm)).mono ?_
  rintro e w4 ⟨err, m, rfl, hN, hms, hml, hk9, hb9⟩
  have HNE := zmZ (((HV.out _ HK3.out).2.2.2.2 err).1 hN)
  have HMS := zmZ hms
  have HML := zmZ hml
  replace HX := zmZ (HX.out.ret hk9 hb9)
  clear hN hms hml hk9 hb9 c HK3
  obtain ⟨nm, hnm⟩ : ∃ x, x = m.las.length := ⟨_, rfl⟩
  rw [← hnm]
  have Hnm := zmZ hnm
  clear hnm
  go_upto_region 5 with fail
  obtain ⟨W5, g4, hW, hg, HX⟩ := HX.out.al 24 #[.int .i64 m.inputs, .slice m.A nm m.c]
  rw [hW, hg]
  clear hW hg
  have c := (HX.out.out.now).1.cb
  go_wp2_with fail
  refine (zfv _ m HX.out.out.now.2.1 HMS.out HML.out nm Hnm.out).mono ?_
  rintro e w6 ⟨q, rfl, hwq, -, hk9, hb9⟩
  have HWQ := zmZ hwq
  replace HX := zmZ (HX.out.ret hk9 hb9)
  clear hwq hk9 hb9 c
  obtain ⟨nq, hnq⟩ : ∃ x, x = q.las.length := ⟨_, rfl⟩
  rw [← hnq]
  have Hnq := zmZ hnq
  clear hnq
  go_upto_region 7 with fail
  obtain ⟨W7, g6, hW, hg, HX⟩ := HX.out.al 24 #[.int .i64 q.inputs, .slice q.A nq q.c]
  rw [hW, hg]
  clear hW hg
  obtain ⟨bl, hbl⟩ : ∃ x, x = w1.heap.size := ⟨_, rfl⟩
  obtain ⟨bh, hbh⟩ : ∃ x, x = w2.heap.size := ⟨_, rfl⟩
  rw [← hbl, ← hbh] at HX
  replace HX := zmZ (show SpS w bl bh g (fun V => NwD q V ∧ Blk V g6 24 #[.int .i64 q.inputs, .slice q.A nq q.c] ∧ NwD m V ∧ Blk V g4 24 #[.int .i64 m.inputs, .slice m.A nm m.c] ∧ Blk V g3 24 #[.int .i64 g.inputs, .slice g.A ng g.c] ∧ Blk V (w.heap.size) 24 #[.int .i64 f.inputs, .slice f.A nl f.c] ∧ NeD 2 f V ∧ (∀ err, NetP V f err ↔ NetP w f err) ∧ Tz V) _ from HX.out.imp fun U h => ⟨h.2.1, h.1, h.2.2.2.1, h.2.2.1, h.2.2.2.2⟩)
  have hadd := za3
  have szl := zb5
  have szr := zak
  have szv := zb9
  have szt := zas
  have szg := zbt
  have szi := zaF
  have sga := HX.out.wn.tl.sl (m := g.las.length) (sz := 12)
  rw [← Hng.out] at sga
  go_loopw [7] (fun iv wr => ∃ i : Nat, iv = .int .i64 (i : Int) ∧ i ≤ ng ∧ Hid (SpS w bl bh g (fun V => NwD q V ∧ Blk V g6 24 #[.int .i64 q.inputs, .slice q.A nq q.c] ∧ NwD m V ∧ Blk V g4 24 #[.int .i64 m.inputs, .slice m.A nm m.c] ∧ Blk V g3 24 #[.int .i64 g.inputs, .slice g.A ng g.c] ∧ Blk V (w.heap.size) 24 #[.int .i64 f.inputs, .slice f.A nl f.c] ∧ NeD 2 f V ∧ (∀ err, NetP V f err ↔ NetP w f err) ∧ Tz V) wr)) (fun iv _ => ng - (intOf iv).toNat)
  case atStart => exact ⟨0, rfl, Nat.zero_le _, HX⟩
  case round =>
   clear HX
   obtain ⟨i, rfl, hi, HX⟩ := hrel
   have c3 := HX.out.out.now.2.2.2.2.1.cb
   by_cases hlt : i < ng
   ·have hlt2 : i < g.las.length := by rw [← Hng.out]; exact hlt
    have c0 := HX.out.wn.lc i hlt2
    have HLM := zmZ (List.getElem_mem hlt2)
    obtain ⟨l, hl⟩ : ∃ l, l = g.las[i] := ⟨_, rfl⟩
    rw [← hl] at c0 HLM
    clear hl
    obtain ⟨nr, hnr⟩ : ∃ k, k = l.rows.length := ⟨_, rfl⟩
    obtain ⟨nb, hnb⟩ : ∃ k, k = l.bias.length := ⟨_, rfl⟩
    obtain ⟨nk, hnk⟩ : ∃ k, k = l.kern.length := ⟨_, rfl⟩
    obtain ⟨ngr, hngr⟩ : ∃ k, k = l.grs.length := ⟨_, rfl⟩
    have hnrb : nr ≤ 1000000 := by rw [hnr]; exact (HLS.out l HLM.out).rows
    have hnbb : nb ≤ 1000000 := by rw [hnb]; exact (HLS.out l HLM.out).bias
    have hngrb : ngr ≤ 1000000 := by rw [hngr]; exact (HLS.out l HLM.out).grs
    dsimp only [LC] at c0
    rw [← hnr, ← hnb, ← hnk, ← hngr] at c0
    have slb := (HX.out.wn.la l HLM.out).tb.sl (m := l.bias.length) (sz := 3)
    have slr := (HX.out.wn.la l HLM.out).tr.sl (m := l.rows.length) (sz := 0)
    have slg := (HX.out.wn.la l HLM.out).tg.sl (m := l.grs.length) (sz := 0)
    rw [← hnb] at slb
    rw [← hnr] at slr
    rw [← hngr] at slg
    have Hnr := zmZ hnr
    have Hnb := zmZ hnb
    have Hnk := zmZ hnk
    have Hngr := zmZ hngr
    clear hnr hnb hnk hngr
    go_upto_region 11 with fail
    obtain ⟨W8, gl, hW, hg, HX⟩ := HX.out.al 36 #[.int .u8 l.kind, .slice l.Ar nr l.cr, .slice l.Ab nb l.cb, .int .i64 l.ch, .int .i64 l.high, .int .i64 l.wide, .int .i64 l.out, .int .i64 l.kh, .int .i64 l.kw, .int .i64 l.st, .int .i64 l.pad, .slice l.Ak nk l.ck, .slice l.Ag ngr l.cg]
    rw [hW, hg]
    clear hW hg c0 c3
    replace HX : Hid (SpS w bl bh g (fun V => Blk V gl 36 #[.int .u8 l.kind, .slice l.Ar nr l.cr, .slice l.Ab nb l.cb, .int .i64 l.ch, .int .i64 l.high, .int .i64 l.wide, .int .i64 l.out, .int .i64 l.kh, .int .i64 l.kw, .int .i64 l.st, .int .i64 l.pad, .slice l.Ak nk l.ck, .slice l.Ag ngr l.cg] ∧ ((fun V => NwD q V ∧ Blk V g6 24 #[.int .i64 q.inputs, .slice q.A nq q.c] ∧ NwD m V ∧ Blk V g4 24 #[.int .i64 m.inputs, .slice m.A nm m.c] ∧ Blk V g3 24 #[.int .i64 g.inputs, .slice g.A ng g.c] ∧ Blk V (w.heap.size) 24 #[.int .i64 f.inputs, .slice f.A nl f.c] ∧ NeD 2 f V ∧ (∀ err, NetP V f err ↔ NetP w f err) ∧ Tz V)) V) W8) := HX
    go_loopw [9] (fun kv wr => ∃ k : Nat, kv = .int .i64 (k : Int) ∧ k ≤ nb ∧ Hid (SpS w bl bh g (fun V => Blk V gl 36 #[.int .u8 l.kind, .slice l.Ar nr l.cr, .slice l.Ab nb l.cb, .int .i64 l.ch, .int .i64 l.high, .int .i64 l.wide, .int .i64 l.out, .int .i64 l.kh, .int .i64 l.kw, .int .i64 l.st, .int .i64 l.pad, .slice l.Ak nk l.ck, .slice l.Ag ngr l.cg] ∧ ((fun V => NwD q V ∧ Blk V g6 24 #[.int .i64 q.inputs, .slice q.A nq q.c] ∧ NwD m V ∧ Blk V g4 24 #[.int .i64 m.inputs, .slice m.A nm m.c] ∧ Blk V g3 24 #[.int .i64 g.inputs, .slice g.A ng g.c] ∧ Blk V (w.heap.size) 24 #[.int .i64 f.inputs, .slice f.A nl f.c] ∧ NeD 2 f V ∧ (∀ err, NetP V f err ↔ NetP w f err) ∧ Tz V)) V) wr)) (fun kv _ => nb - (intOf kv).toNat)
    case atStart => exact ⟨0, rfl, Nat.zero_le _, HX⟩
    case round =>
     clear HX
     obtain ⟨k, rfl, hk, HX⟩ := hrel
     have cl := HX.out.out.now.1.cb
     by_cases hlk : k < nb
     ·have hkb : k * 4 + 3 < l.bias.length * 4 := by rw [← Hnb.out]; omega
      obtain ⟨⟨u0, d0⟩, fr⟩ := (HX.out.wn.la l HLM.out).tb.at_ (i := k * 4) (by omega)
      obtain ⟨⟨u1, d1⟩, -⟩ := (HX.out.wn.la l HLM.out).tb.at_ (i := k * 4 + 1) (by omega)
      obtain ⟨⟨u2, d2⟩, -⟩ := (HX.out.wn.la l HLM.out).tb.at_ (i := k * 4 + 2) (by omega)
      obtain ⟨⟨u3, d3⟩, -⟩ := (HX.out.wn.la l HLM.out).tb.at_ (i := k * 4 + 3) (by omega)
      have hadd2 : ∀ (n j : Nat), (⟨(adr l.Ab n).block, (adr l.Ab n).off + j, none⟩ : Addr) = adr l.Ab (n + j) := fun n j => by unfold adr; simp [Nat.add_assoc]
      have hs01 := za5 l.Ab (show k * 4 ≠ k * 4 + 1 by omega)
      have hs02 := za5 l.Ab (show k * 4 ≠ k * 4 + 2 by omega)
      have hs03 := za5 l.Ab (show k * 4 ≠ k * 4 + 3 by omega)
      have hs12 := za5 l.Ab (show k * 4 + 1 ≠ k * 4 + 2 by omega)
      have hs13 := za5 l.Ab (show k * 4 + 1 ≠ k * 4 + 3 by omega)
      have hs23 := za5 l.Ab (show k * 4 + 2 ≠ k * 4 + 3 by omega)
      go_upto_region 12 with fail
      have HX5 := HX.out.at4 (i := k * 4) (fun V' h' => (h'.wn.la l HLM.out).tb) (.inl rfl) hkb (.bool false) (.slice none 0 0) (.bool false) (.slice none 0 0)
      obtain ⟨W9, hW9⟩ : ∃ W', ((((World.setCell wr (adr l.Ab (k * 4)) (.bool false)).setCell (adr l.Ab (k * 4 + 1)) (.slice none 0 0)).setCell (adr l.Ab (k * 4 + 2)) (.bool false)).setCell (adr l.Ab (k * 4 + 3)) (.slice none 0 0)) = W' := ⟨_, rfl⟩
      rw [hW9] at HX5 ⊢
      replace HX := zmZ HX5
      clear HX5 hW9 hadd2 fr d0 d1 d2 d3 hs01 hs02 hs03 hs12 hs13 hs23
      go_wp2_with fail
      go_roundw
      case rel => exact ⟨k + 1, by go_num, by omega, HX⟩
      case measure => (simp [intOf] <;> omega)
     ·obtain rfl : nb = k := by omega
      clear hlk hk
      go_upto_region 15 with fail
      clear cl
      go_loopw [10] (fun kv wr => ∃ k : Nat, kv = .int .i64 (k : Int) ∧ k ≤ nr ∧ Hid (SpS w bl bh g (fun V => Blk V gl 36 #[.int .u8 l.kind, .slice l.Ar nr l.cr, .slice l.Ab nb l.cb, .int .i64 l.ch, .int .i64 l.high, .int .i64 l.wide, .int .i64 l.out, .int .i64 l.kh, .int .i64 l.kw, .int .i64 l.st, .int .i64 l.pad, .slice l.Ak nk l.ck, .slice l.Ag ngr l.cg] ∧ ((fun V => NwD q V ∧ Blk V g6 24 #[.int .i64 q.inputs, .slice q.A nq q.c] ∧ NwD m V ∧ Blk V g4 24 #[.int .i64 m.inputs, .slice m.A nm m.c] ∧ Blk V g3 24 #[.int .i64 g.inputs, .slice g.A ng g.c] ∧ Blk V (w.heap.size) 24 #[.int .i64 f.inputs, .slice f.A nl f.c] ∧ NeD 2 f V ∧ (∀ err, NetP V f err ↔ NetP w f err) ∧ Tz V)) V) wr)) (fun kv _ => nr - (intOf kv).toNat)
      case atStart => exact ⟨0, rfl, Nat.zero_le _, HX⟩
      case round =>
       clear HX
       obtain ⟨k, rfl, hk, HX⟩ := hrel
       have cl := HX.out.out.now.1.cb
       by_cases hlk : k < nr
       ·have hk2 : k < l.rows.length := by rw [← Hnr.out]; exact hlk
        have HH := zmZ (fun (V : World) (h : SpS w bl bh g (fun V => Blk V gl 36 #[.int .u8 l.kind, .slice l.Ar nr l.cr, .slice l.Ab nb l.cb, .int .i64 l.ch, .int .i64 l.high, .int .i64 l.wide, .int .i64 l.out, .int .i64 l.kh, .int .i64 l.kw, .int .i64 l.st, .int .i64 l.pad, .slice l.Ak nk l.ck, .slice l.Ag ngr l.cg] ∧ ((fun V => NwD q V ∧ Blk V g6 24 #[.int .i64 q.inputs, .slice q.A nq q.c] ∧ NwD m V ∧ Blk V g4 24 #[.int .i64 m.inputs, .slice m.A nm m.c] ∧ Blk V g3 24 #[.int .i64 g.inputs, .slice g.A ng g.c] ∧ Blk V (w.heap.size) 24 #[.int .i64 f.inputs, .slice f.A nl f.c] ∧ NeD 2 f V ∧ (∀ err, NetP V f err ↔ NetP w f err) ∧ Tz V)) V) V) => (h.wn.la l HLM.out).vh k hk2)
        have HM := zmZ (List.getElem_mem hk2)
        obtain ⟨v, hv⟩ : ∃ v, v = l.rows[k] := ⟨_, rfl⟩
        rw [← hv] at HH HM
        clear hv
        obtain ⟨nv, hnv⟩ : ∃ x, x = v.ts.length := ⟨_, rfl⟩
        rw [← hnv] at HH
        have hnvb : nv ≤ 1000000 := by rw [hnv]; exact (HLS.out l HLM.out).row v HM.out
        have HTV := zmZ (fun (V : World) (h : SpS w bl bh g (fun V => Blk V gl 36 #[.int .u8 l.kind, .slice l.Ar nr l.cr, .slice l.Ab nb l.cb, .int .i64 l.ch, .int .i64 l.high, .int .i64 l.wide, .int .i64 l.out, .int .i64 l.kh, .int .i64 l.kw, .int .i64 l.st, .int .i64 l.pad, .slice l.Ak nk l.ck, .slice l.Ag ngr l.cg] ∧ ((fun V => NwD q V ∧ Blk V g6 24 #[.int .i64 q.inputs, .slice q.A nq q.c] ∧ NwD m V ∧ Blk V g4 24 #[.int .i64 m.inputs, .slice m.A nm m.c] ∧ Blk V g3 24 #[.int .i64 g.inputs, .slice g.A ng g.c] ∧ Blk V (w.heap.size) 24 #[.int .i64 f.inputs, .slice f.A nl f.c] ∧ NeD 2 f V ∧ (∀ err, NetP V f err ↔ NetP w f err) ∧ Tz V)) V) V) => (h.wn.la l HLM.out).row v HM.out)
        have slv := (HTV.out _ HX.out).sl (m := v.ts.length) (sz := 4)
        rw [← hnv] at slv
        have Hnv := zmZ hnv
        clear hnv
        go_upto_region 18 with fail
        clear cl
        go_loopw [11] (fun jv wr => ∃ j : Nat, jv = .int .i64 (j : Int) ∧ j ≤ nv ∧ Hid (SpS w bl bh g (fun V => Blk V gl 36 #[.int .u8 l.kind, .slice l.Ar nr l.cr, .slice l.Ab nb l.cb, .int .i64 l.ch, .int .i64 l.high, .int .i64 l.wide, .int .i64 l.out, .int .i64 l.kh, .int .i64 l.kw, .int .i64 l.st, .int .i64 l.pad, .slice l.Ak nk l.ck, .slice l.Ag ngr l.cg] ∧ ((fun V => NwD q V ∧ Blk V g6 24 #[.int .i64 q.inputs, .slice q.A nq q.c] ∧ NwD m V ∧ Blk V g4 24 #[.int .i64 m.inputs, .slice m.A nm m.c] ∧ Blk V g3 24 #[.int .i64 g.inputs, .slice g.A ng g.c] ∧ Blk V (w.heap.size) 24 #[.int .i64 f.inputs, .slice f.A nl f.c] ∧ NeD 2 f V ∧ (∀ err, NetP V f err ↔ NetP w f err) ∧ Tz V)) V) wr)) (fun jv _ => nv - (intOf jv).toNat)
        case atStart => exact ⟨0, rfl, Nat.zero_le _, HX⟩
        case round =>
         clear HX
         obtain ⟨j, rfl, hj, HX⟩ := hrel
         have cl := HX.out.out.now.1.cb
         have ch := HH.out _ HX.out
         by_cases hlj : j < nv
         ·have hjb : j * 5 < v.ts.length * 5 := by rw [← Hnv.out]; omega
          obtain ⟨⟨u0, d0⟩, fr⟩ := (HTV.out _ HX.out).at_ hjb
          go_upto_region 19 with fail
          have HX5 := HX.out.at_ (i := j * 5) (HTV.out _ HX.out) (.inr (.inl rfl)) (by first | exact hjb | omega) (.int .i64 79)
          obtain ⟨W9, hW9⟩ : ∃ W', World.setCell wr (adr v.A (j * 5)) (.int .i64 79) = W' := ⟨_, rfl⟩
          rw [hW9] at HX5 ⊢
          replace HX := zmZ HX5
          clear HX5 hW9 d0 fr ch cl
          go_wp2_with fail
          go_roundw
          case rel => exact ⟨j + 1, by go_num, by omega, HX⟩
          case measure => (simp [intOf] <;> omega)
         ·obtain rfl : nv = j := by omega
          clear hlj
          go_wp2_with fail
          go_roundw
          case rel => exact ⟨k + 1, by go_num, by omega, HX⟩
          case measure => (simp [intOf] <;> omega)
       ·obtain rfl : nr = k := by omega
        clear hlk hk
        go_upto_region 22 with fail
        clear cl
        go_loopw [12] (fun kv wr => ∃ k : Nat, kv = .int .i64 (k : Int) ∧ k ≤ ngr ∧ Hid (SpS w bl bh g (fun V => Blk V gl 36 #[.int .u8 l.kind, .slice l.Ar nr l.cr, .slice l.Ab nb l.cb, .int .i64 l.ch, .int .i64 l.high, .int .i64 l.wide, .int .i64 l.out, .int .i64 l.kh, .int .i64 l.kw, .int .i64 l.st, .int .i64 l.pad, .slice l.Ak nk l.ck, .slice l.Ag ngr l.cg] ∧ ((fun V => NwD q V ∧ Blk V g6 24 #[.int .i64 q.inputs, .slice q.A nq q.c] ∧ NwD m V ∧ Blk V g4 24 #[.int .i64 m.inputs, .slice m.A nm m.c] ∧ Blk V g3 24 #[.int .i64 g.inputs, .slice g.A ng g.c] ∧ Blk V (w.heap.size) 24 #[.int .i64 f.inputs, .slice f.A nl f.c] ∧ NeD 2 f V ∧ (∀ err, NetP V f err ↔ NetP w f err) ∧ Tz V)) V) wr)) (fun kv _ => ngr - (intOf kv).toNat)
        case atStart => exact ⟨0, rfl, Nat.zero_le _, HX⟩
        case round =>
         clear HX
         obtain ⟨k, rfl, hk, HX⟩ := hrel
         have cl := HX.out.out.now.1.cb
         by_cases hlk : k < ngr
         ·have hk2 : k < l.grs.length := by rw [← Hngr.out]; exact hlk
          have HH := zmZ (fun (V : World) (h : SpS w bl bh g (fun V => Blk V gl 36 #[.int .u8 l.kind, .slice l.Ar nr l.cr, .slice l.Ab nb l.cb, .int .i64 l.ch, .int .i64 l.high, .int .i64 l.wide, .int .i64 l.out, .int .i64 l.kh, .int .i64 l.kw, .int .i64 l.st, .int .i64 l.pad, .slice l.Ak nk l.ck, .slice l.Ag ngr l.cg] ∧ ((fun V => NwD q V ∧ Blk V g6 24 #[.int .i64 q.inputs, .slice q.A nq q.c] ∧ NwD m V ∧ Blk V g4 24 #[.int .i64 m.inputs, .slice m.A nm m.c] ∧ Blk V g3 24 #[.int .i64 g.inputs, .slice g.A ng g.c] ∧ Blk V (w.heap.size) 24 #[.int .i64 f.inputs, .slice f.A nl f.c] ∧ NeD 2 f V ∧ (∀ err, NetP V f err ↔ NetP w f err) ∧ Tz V)) V) V) => (h.wn.la l HLM.out).gh k hk2)
          have HM := zmZ (List.getElem_mem hk2)
          obtain ⟨v, hv⟩ : ∃ v, v = l.grs[k] := ⟨_, rfl⟩
          rw [← hv] at HH HM
          clear hv
          obtain ⟨nv, hnv⟩ : ∃ x, x = v.l.length := ⟨_, rfl⟩
          rw [← hnv] at HH
          have hnvb : nv ≤ 1000000 := by rw [hnv]; exact (HLS.out l HLM.out).gr v HM.out
          have HTV := zmZ (fun (V : World) (h : SpS w bl bh g (fun V => Blk V gl 36 #[.int .u8 l.kind, .slice l.Ar nr l.cr, .slice l.Ab nb l.cb, .int .i64 l.ch, .int .i64 l.high, .int .i64 l.wide, .int .i64 l.out, .int .i64 l.kh, .int .i64 l.kw, .int .i64 l.st, .int .i64 l.pad, .slice l.Ak nk l.ck, .slice l.Ag ngr l.cg] ∧ ((fun V => NwD q V ∧ Blk V g6 24 #[.int .i64 q.inputs, .slice q.A nq q.c] ∧ NwD m V ∧ Blk V g4 24 #[.int .i64 m.inputs, .slice m.A nm m.c] ∧ Blk V g3 24 #[.int .i64 g.inputs, .slice g.A ng g.c] ∧ Blk V (w.heap.size) 24 #[.int .i64 f.inputs, .slice f.A nl f.c] ∧ NeD 2 f V ∧ (∀ err, NetP V f err ↔ NetP w f err) ∧ Tz V)) V) V) => (h.wn.la l HLM.out).gr v HM.out)
          have slv := (HTV.out _ HX.out).sl (m := v.l.length) (sz := 0)
          rw [← hnv] at slv
          have Hnv := zmZ hnv
          clear hnv
          go_upto_region 25 with fail
          clear cl
          go_loopw [13] (fun jv wr => ∃ j : Nat, jv = .int .i64 (j : Int) ∧ j ≤ nv ∧ Hid (SpS w bl bh g (fun V => Blk V gl 36 #[.int .u8 l.kind, .slice l.Ar nr l.cr, .slice l.Ab nb l.cb, .int .i64 l.ch, .int .i64 l.high, .int .i64 l.wide, .int .i64 l.out, .int .i64 l.kh, .int .i64 l.kw, .int .i64 l.st, .int .i64 l.pad, .slice l.Ak nk l.ck, .slice l.Ag ngr l.cg] ∧ ((fun V => NwD q V ∧ Blk V g6 24 #[.int .i64 q.inputs, .slice q.A nq q.c] ∧ NwD m V ∧ Blk V g4 24 #[.int .i64 m.inputs, .slice m.A nm m.c] ∧ Blk V g3 24 #[.int .i64 g.inputs, .slice g.A ng g.c] ∧ Blk V (w.heap.size) 24 #[.int .i64 f.inputs, .slice f.A nl f.c] ∧ NeD 2 f V ∧ (∀ err, NetP V f err ↔ NetP w f err) ∧ Tz V)) V) wr)) (fun jv _ => nv - (intOf jv).toNat)
          case atStart => exact ⟨0, rfl, Nat.zero_le _, HX⟩
          case round =>
           clear HX
           obtain ⟨j, rfl, hj, HX⟩ := hrel
           have cl := HX.out.out.now.1.cb
           have ch := HH.out _ HX.out
           by_cases hlj : j < nv
           ·have hjb : j * 1 < v.l.length * 1 := by rw [← Hnv.out]; omega
            obtain ⟨⟨u0, d0⟩, fr⟩ := (HTV.out _ HX.out).at_ hjb
            rw [Nat.mul_one] at d0 hjb
            go_upto_region 26 with fail
            have HX5 := HX.out.at_ (i := j) (HTV.out _ HX.out) (.inr (.inr rfl)) (by first | exact hjb | omega) (.int .i64 80)
            obtain ⟨W9, hW9⟩ : ∃ W', World.setCell wr (adr v.A (j)) (.int .i64 80) = W' := ⟨_, rfl⟩
            rw [hW9] at HX5 ⊢
            replace HX := zmZ HX5
            clear HX5 hW9 d0 fr ch cl
            go_wp2_with fail
            go_roundw
            case rel => exact ⟨j + 1, by go_num, by omega, HX⟩
            case measure => (simp [intOf] <;> omega)
           ·obtain rfl : nv = j := by omega
            clear hlj
            go_wp2_with fail
            go_roundw
            case rel => exact ⟨k + 1, by go_num, by omega, HX⟩
            case measure => (simp [intOf] <;> omega)
         ·obtain rfl : ngr = k := by omega
          clear hlk hk
          go_wp2_with fail
          go_roundw
          case rel => exact ⟨i + 1, by go_num, by omega, zmZ (HX.out.imp fun U h => h.2)⟩
          case measure => (simp [intOf] <;> omega)
   ·obtain rfl : ng = i := by omega
    clear hlt hi
    have c1 := HX.out.out.now.2.2.2.2.2.1.cb
    have c4 := HX.out.out.now.2.2.2.1.cb
    have c6 := HX.out.out.now.2.1.cb
    go_wp2_with fail
    refine (zc4 _ 2 (by decide) (by decide) f HX.out.out.now.2.2.2.2.2.2.1 (NeT.s ⟨by have := HNL.out; omega, fun l hl => (HP.out.2 l hl).t (by decide)⟩) HX.out.out.now.2.2.2.2.2.2.2.2 nl Hn.out).mono ?_
    rintro e w8 ⟨⟨err2, rfl, hN⟩, hb⟩
    obtain rfl : err2 = err := NetP.uniq ((HX.out.out.now.2.2.2.2.2.2.2.1 err2).1 hN) HNE.out
    replace HX := zmZ (HX.out.call hb)
    clear hN hb c1 c3 c4 c6
    have c4 := HX.out.out.now.2.2.2.1.cb
    have c6 := HX.out.out.now.2.1.cb
    have hee := beq_self_eq_true (err2 == 0)
    go_wp2_with fail
    refine (zcY _ m q HX.out.out.now.2.2.1 HX.out.out.now.1 (fun l hl => (HMS.out l hl).s) (by have := HML.out; omega) HWQ.out.symm nm nq Hnm.out Hnq.out).mono ?_
    rintro e w9 ⟨rfl, hb⟩
    replace HX := zmZ (HX.out.call hb)
    clear hb c4 c6
    go_wp2_with fail
    refine (zaY _ HX.out.out.now.2.2.2.2.2.2.2.2).mono ?_
    rintro e w9 ⟨rfl, hb⟩
    have Hb9 := zmZ (Below.after HX.out.bel hb)
    clear hb
    go_wp2_with fail
    exact bodyPost_ret (v := .bool true) (by simp [results, Tryz.results3, go_sem]) rfl ⟨rfl, Hb9.out⟩
theorem zdq (w : World) (n : Nat) (f : NeV) (h : NeD n f w) (hm : ∀ l ∈ f.las, LaM l) (hml : f.las.length ≤ 9223372036854775807) (hT : Tz w) : Calls Tryz.prog 3 #[.agg #[.int .i64 f.inputs, .slice f.A f.las.length f.c]] w fun e w' => e = .returned (.bool true) ∧ Below w.heap.size w w' := zdx w n f h hm hml hT _ rfl
end Go.Proofs.YtikmgoefjbhcjaaGreatDoor
namespace Go.Proofs.YtikmgoefjbhcjaaGreatDoor.lowerSpares
set_option maxHeartbeats 16000000
open Go.ChangeShapes Go.WideShapes Go.ChangeAt Go.RowKit Go.ChangeMaps

set_option maxRecDepth 100000 in
theorem zej (H : Type) (enc : TypeId × Value → H) (W : World) (base : Nat) (args : Array Value) (ds gs : List (DataW H)) (before : List MemPlace)
 (hval : ∀ (j : Nat) t v, Tryz.f3.params[j]? = some t → args[j]? = some v → Value.okWide Tryz.prog W .any base t v)
 (hW : DataW.Whole enc Tryz.prog Tryz.f3.params.toList Rows.lowerSparesSpec.vars false W args.toList ds gs before) (hL : laidMetH Tryz.prog Rows.lowerSparesRow.laid W) :
 Calls Tryz.prog 3 args W fun e W' => ∃ v, e = .returned v ∧ Rows.lowerSparesSpec.post enc Tryz.prog Tryz.f3 false true false false W args v W' := by
 have hW' := hW
 have hlt := hW.lt
 obtain ⟨p, q, hA, hV, rfl, hfz, hnd⟩ := hW
 obtain ⟨rfl, rfl⟩ := trodVars_none hV
 rw [Tryz.params3] at hA
 obtain ⟨v0, vs0, d0, ds0, p0, q0, hargs, rfl, rfl, h0, t0⟩ := trodAll_cons hA
 obtain ⟨rfl, rfl, rfl⟩ := trodAll_nil t0
 obtain rfl : args = #[v0] := by cases args; simp_all
 obtain ⟨f0, rfl, hn0, hm0, x0⟩ := zi9 (hval 0 _ v0 (by rw [Tryz.params3]; rfl) rfl) h0
 refine (zdq W 9223372036854775807 f0 x0 hm0 hn0 (zmk hL)).mono fun e W' ⟨he, hb⟩ => ?_
 subst he
 exact ⟨_, rfl, zeK hW' rfl rfl rfl hb (by rw [Tryz.params3]; simpa only [List.append_nil] using trodAll_cons_mk (Below.trod zfu (by kernel_rfl) (of_decide_eq_true (by kernel_rfl)) h0 hb (fun x hx => hlt x (by simp [hx]))) (trodAll_mk0))⟩

theorem ze0 (os : Os) : laidMet Tryz.prog Rows.lowerSparesRow.laid ((zby os).forCall (fun _ _ => 0) ⟨#[], #[.agg #[.int .i64 0, .slice none 0 0]], []⟩).memory :=
 laidMet_of_run' 8 (by kernel_rfl) (by kernel_rfl)
theorem reads (os : Os) {H : Type} (enc : TypeId × Value → H) : ∃ places, DataW.whole enc Tryz.prog ((zby os).forCall (fun _ _ => 0) ⟨#[], #[.agg #[.int .i64 0, .slice none 0 0]], []⟩).memory Tryz.f3.params.toList Rows.lowerSparesSpec.vars false (#[.agg #[.int .i64 0, .slice none 0 0]] : Array Value).toList 8 = some ([.agg [.lit (.int .i64 0), .nil]], [], places) :=
 ⟨[], by kernel_rfl⟩

set_option maxRecDepth 100000 in
theorem zhK (os : Os) (started : os.Started) (H : Type) (enc : TypeId × Value → H) (F : Stop.Interp) :
 ReturnsInHanded {} Tryz.checked os 3 .any ((OpenSpec.ofChange Rows.lowerSparesSpec).preRow enc Tryz.prog Tryz.f3 Rows.lowerSparesRow.domain false Rows.lowerSparesRow.laid) (((OpenSpec.ofChange Rows.lowerSparesSpec).at F).post enc Tryz.prog Tryz.f3 false true false false) := by
 obtain ⟨places, hx⟩ := reads os enc
 refine returnsInHanded_of_row (C := Tryz.checked) (s := OpenSpec.ofChange Rows.lowerSparesSpec) own started (by kernel_rfl) Tryz.func3
  (witness_row_at (enc := enc) (C := Tryz.checked) false (zby os) #[.agg #[.int .i64 0, .slice none 0 0]] rfl (by kernel_rfl) (by kernel_rfl) (by kernel_rfl)
   (OpenSpec.preRow_of_cond 8 hx (by kernel_rfl) (fun k hk => by cases hk) (by kernel_rfl) (ze0 os))) ?_
 intro W base args ds gs before hval hW _ _ _ hL _ _
 exact zej H enc W base args ds gs before hval hW hL

theorem zhi {a b : Bool} (h : a = true) (h' : b = true) : (a && b) = true := by rw [h, h']; rfl
theorem zeV : joinedFacts Tryz.pinned.checked.prog 3 Tryz.f3 (OpenSpec.ofChange Rows.lowerSparesSpec).bare Rows.lowerSparesRow = true := by
 unfold joinedFacts
 repeat' (with_reducible refine zhi ?_ ?_)
 all_goals (as_aux_lemma => kernel_rfl)
theorem said : Rows.LowerSparesSaid :=
 OpenClaim.holds_of_cond 3 Tryz.f3 rfl rfl rfl rfl rfl rfl rfl ⟨rfl, rfl, rfl, rfl, rfl⟩ rfl rfl rfl rfl rfl (by kernel_rfl) Tryz.func3 zeV
  (of_decide_eq_true (by kernel_rfl)) (by unfold Func.isWrapper; first | (rw [if_pos (by decide +kernel)]; kernel_rfl) | (rw [if_neg (by decide +kernel)]; exact ⟨rfl, rfl⟩))
  (fun os started H enc _ F => by rw [OpenClaim.pre_eq_preRow]; exact zhK os started H enc F)

theorem plain (f : FuncId) (fn : Func) (hf : Tryz.pinned.checked.prog.funcNamed "tripwire/tripwirelaw14.LowerSpares" = some f) (hfn : Tryz.pinned.checked.prog.funcs[f]? = some fn) :
 false = Tryz.pinned.checked.prog.looks [] ∧ ∀ (j : Nat) t, fn.params[j]? = some t → Tryz.pinned.checked.prog.wantsStandIn t = false := by
 obtain rfl : f = 3 := Option.some.inj ((show Tryz.prog.funcNamed "tripwire/tripwirelaw14.LowerSpares" = some 3 by kernel_rfl).symm.trans hf) |>.symm
 obtain rfl : fn = Tryz.f3 := (Option.some.inj (Tryz.func3.symm.trans hfn)).symm
 refine ⟨by kernel_rfl, fun j t ht => ?_⟩
 rw [Tryz.params3] at ht
 match j, ht with
 | 0, ht => have e := Option.some.inj ht; rw [← e]; exact (show Tryz.prog.wantsStandIn 24 = false by kernel_rfl)
 | n + 1, ht => simp at ht

theorem card : Rows.LowerSparesCardSaid :=
 Claim7.holds_tied_plain_at .later [] _ _ _ _ said (fun _ h => by cases h) (by kernel_rfl) (fun _ h => by cases h) lowerSpares_row_tie rfl ⟨rfl, rfl⟩ (by kernel_rfl) rfl plain (by kernel_rfl)
end Go.Proofs.YtikmgoefjbhcjaaGreatDoor.lowerSpares
#print axioms Go.Proofs.YtikmgoefjbhcjaaGreatDoor.lowerSpares.card
