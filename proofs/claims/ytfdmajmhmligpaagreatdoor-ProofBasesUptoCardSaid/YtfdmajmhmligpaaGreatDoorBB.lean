/-
 The walk of ProofBases.
-/
import Derived.Test.YtfdmajmhmligpaaGreatDoorBA
namespace Go.Proofs.YtfdmajmhmligpaaGreatDoor
set_option maxHeartbeats 20000000
open Go.RowKit

set_option maxRecDepth 100000 in
theorem zop (w:World) (N:Nat) (hN:N≤10000000) (h1N:1≤N) (p:PrV) (hp:PrD N p w) (hts:∀r∈p.rows,r.ts.length≤1000000) (hck:p.cost.length≤1000000) (SA:Option Addr) (sc:Nat) (st:List Int) (hs:LsR 1 stc (fun _ _=>True) SA st w) (hT:Tz w):
 Calls Tryz.prog 4 #[.agg #[.slice p.Av p.vars.length p.cv,.slice p.Ar p.rows.length p.cr,.slice p.Ak p.cost.length p.ck],.slice SA st.length sc] w fun e w'=>e=.returned (.bool true)∧Below w.heap.size w w':=by
 have HD:=znd hp
 have hszr:=zal
 have szs:=zcf
 have hadd:=zaa
 have slS:=hs.sl
 obtain⟨W0,hW0⟩:∃W0,W0=(w.alloc (.cells #[.slice p.Av p.vars.length p.cv,.slice p.Ar p.rows.length p.cr,.slice p.Ak p.cost.length p.ck] 27)):=⟨_,rfl⟩
 have HE:=znd (Env.lay1 (Env.start ((hp.old).and (((hs.old zdk)).and (hT.old)))) hW0)
 subst hW0
 have c:=Env.c1 HE.out
 clear hp hs hT
 go_enter Tryz.func4,Tryz.ntmps4
 go_wp2_with fail
 refine(zjC _ N hN h1N p HE.out.o.1 hts hck HE.out.o.2.2).mono ?_
 rintro e w1 ⟨hres,hb⟩
 rcases hres with⟨k,hk,rfl⟩|⟨f,rfl,hR,hk⟩
 ·have hk0:(k != 0)=true:=by simpa using hk
  replace HE:=znd (Env.call HE.out hb)
  replace c:=Env.c1 HE.out
  clear hb hk
  go_upto_region 2 with fail
  obtain⟨W2,gf,hW2,hgf,HE⟩:=Env.al HE.out 32 #[.int .i64 0,.slice none 0 0,.slice none 0 0,.slice none 0 0,.slice none 0 0,.slice none 0 0]
  rw[hW2,hgf]
  clear hW2 hgf
  replace c:=Env.c2 HE.out
  go_wp2_with fail
  refine(zd7 _ HE.out.o.2.2).mono ?_
  rintro e w9 ⟨rfl,hb⟩
  replace HE:=znd (Env.call HE.out hb)
  clear hb
  go_wp2_with fail
  exact bodyPost_ret (v:=.bool true) (by simp[results,Tryz.results4,go_sem]) rfl ⟨rfl,HE.out.bel⟩
 ·have HR:=znd ((PRight.same HD.out HE.out.bel).1 hR)
  replace HE:=znd (Env.ret HE.out hk hb)
  replace c:=Env.c1 HE.out
  clear hb hk hR
  go_upto_region 2 with fail
  obtain⟨W2,gf,hW2,hgf,HE⟩:=Env.al HE.out 32 #[.int .i64 f.M,.slice f.Ac f.cols.length f.cc,.slice f.Al f.lo.length f.cl,.slice f.Ah f.hi.length f.ch,.slice f.Ak f.cost.length f.ck,.slice f.Ab f.b.length f.cb]
  rw[hW2,hgf]
  clear hW2 hgf
  replace c:=Env.c2 HE.out
  go_wp2_with fail
  refine(ziC _ f HE.out.n.1.1.foA none 0 [] (LsR.nil_ _) (by decide)).mono ?_
  rintro e w4 ⟨⟨B,rfl,hB⟩,hb⟩
  replace HE:=znd (Env.call HE.out hb)
  have HBg:=znd hB
  clear hb hB
  replace c:=Env.c2 HE.out
  cases B
  rotate_left 1
  ·go_wp2_with fail
   refine(zd7 _ HE.out.o.2.2).mono ?_
   rintro e w9 ⟨rfl,hb⟩
   replace HE:=znd (Env.call HE.out hb)
   clear hb
   go_wp2_with fail
   exact bodyPost_ret (v:=.bool true) (by simp[results,Tryz.results4,go_sem]) rfl ⟨rfl,HE.out.bel⟩
  have HNG:=znd (HBg.out rfl)
  have HS:=znd HNG.out.small
  clear HBg c
  have HE2:=znd (show Env w [] (fun V=>PrD N p V∧LsR 1 stc (fun _ _=>True) SA st V∧Tz V) (fun V=>Blk V gf 32 #[.int .i64 f.M,.slice f.Ac f.cols.length f.cc,.slice f.Al f.lo.length f.cl,.slice f.Ah f.hi.length f.ch,.slice f.Ak f.cost.length f.ck,.slice f.Ab f.b.length f.cb]∧FoD 4 f V∧FRight f V) _ from((HE.out.perm (List.Perm.swap _ _ _)).drop.read).imp (fun V h=>h) (fun V h=>⟨h.1,h.2.1.1.foA.cut HNG.out,h.2.1.2.fright HR.out⟩))
  clear HE
  have HE:=HE2
  clear HE2 HNG
  have hn12:f.cols.length≤12:=HS.out.cols
  have hm5:f.b.length≤5:=by have h9:=HS.out.M;rw[←HE.out.n.2.2.b]at h9;omega
  have HZ:=znd (zor f.b.length (by omega) f.cols.length (by omega))
  have c:=Blk.cb HE.out.n.1
  go_wp2_with fail
  refine(ze7 _ 4 (by omega) (by omega) f HE.out.n.2.1 HS.out HE.out.n.2.2 zdw HZ.out.1 (by have:=HZ.out.2.1;omega) SA sc st HE.out.o.2.1 HE.out.o.2.2).mono ?_
  rintro e w6 ⟨B,rfl,hb,h3,-⟩
  replace HE:=znd (Env.call HE.out hb)
  clear hb
  replace c:=Blk.cb HE.out.n.1
  cases B
  ·clear h3
   go_wp2_with fail
   refine(zd7 _ HE.out.o.2.2).mono ?_
   rintro e w9 ⟨rfl,hb⟩
   replace HE:=znd (Env.call HE.out hb)
   clear hb
   go_wp2_with fail
   exact bodyPost_ret (v:=.bool true) (by simp[results,Tryz.results4,go_sem]) rfl ⟨rfl,HE.out.bel⟩
  obtain⟨hB,hpr⟩:=h3 rfl
  have HB:=znd hB
  have HP:=znd hpr
  clear h3 hB hpr
  go_wp2_with fail
  refine(zdf _ 4 (by omega) (by omega) f HE.out.n.2.1 HS.out HE.out.n.2.2 zdw HZ.out.2.2.1 (by have:=HZ.out.2.2.2;omega) SA sc st HE.out.o.2.1 HE.out.o.2.2).mono ?_
  rintro e w7 (⟨-,X,cx,xs,rfl,hv,hxz,hk,hb⟩|⟨hB2,-⟩)
  rotate_left 1
  ·exact absurd HB.out hB2
  replace HE:=znd (Env.ret HE.out hk hb)
  clear hk hb
  replace c:=Blk.cb HE.out.n.2.1
  have HV:=znd hv
  have HXZ:=znd (show∀q∈xs,Sz q.2 700000000 from fun q hq=>(hxz q hq).up HZ.out.2.2.2)
  clear hv hxz
  go_wp2_with fail
  refine(zcR _ 4 (by omega) (by omega) f HE.out.n.2.2.1 HS.out HE.out.n.2.2.2 zdw HZ.out.1 (by have:=HZ.out.2.1;omega) SA sc st HE.out.o.2.1 HE.out.o.2.2).mono ?_
  rintro e w8 (⟨-,Y,cy,ys,D,ds,rfl,hcy,hd,hyz,-,hk,hb⟩|⟨hB2,-⟩)
  rotate_left 1
  ·exact absurd HB.out hB2
  replace HE:=znd (Env.ret HE.out hk hb)
  clear hk hb
  have HDU:=znd hd
  have HCY:=znd hcy
  have HYZ:=znd (show∀q∈ys,Sz q.2 700000000 from fun q hq=>(hyz q hq).up HZ.out.2.1)
  clear hd hyz hcy
  have HFR:=znd HE.out.n.2.2.2.2
  have HBB:=znd (zos HFR.out HB.out HV.out HDU.out HP.out)
  have HBC:=znd (zot HFR.out HV.out.len)
  go_upto_region 9 with fail
  obtain⟨W9,gc,hW9,hgc,HE⟩:=Env.al HE.out 48 #[.bool false,.slice none 0 0,.bool false,.slice none 0 0]
  rw[hW9,hgc]
  clear hW9 hgc
  have HE2:=znd (show Env w [⟨gc,48,#[.bool zeroR.num.neg,.slice zeroR.num.A zeroR.num.k zeroR.num.c,.bool zeroR.den.neg,.slice zeroR.den.A zeroR.den.k zeroR.den.c]⟩] (fun V=>Blk V gf 32 #[.int .i64 f.M,.slice f.Ac f.cols.length f.cc,.slice f.Al f.lo.length f.cl,.slice f.Ah f.hi.length f.ch,.slice f.Ak f.cost.length f.ck,.slice f.Ab f.b.length f.cb]∧FoD 4 f V∧FRight f V∧LsR 4 za0 roN X xs V∧LsR 4 za0 roN Y ys V∧Tz V) (fun V=>RatN zeroR 0 V) _ from HE.out.sink.imp (fun V h=>⟨h.1.2.2.1,h.1.2.2.2.1,h.1.2.2.2.2,h.1.2.1,h.1.1.1,h.2.2.2⟩) (fun V _=>zbX V))
  clear HE c
  have HE:=HE2
  clear HE2
  have slX:=HE.out.o.2.2.2.1.sl
  rw[HV.out.len]at slX
  have slk:=HE.out.o.2.1.cost.sl
  go_wp2_with fail
  go_loopw [54] (fun jv wr=>∃(j:Nat) (kc:RV) (cq:Rat),jv=.int .i64 (j:Int)∧j≤f.cols.length∧Hid (CosI f xs 700000000 j cq)∧Hid (Env w [⟨gc,48,#[.bool kc.num.neg,.slice kc.num.A kc.num.k kc.num.c,.bool kc.den.neg,.slice kc.den.A kc.den.k kc.den.c]⟩] (fun V=>Blk V gf 32 #[.int .i64 f.M,.slice f.Ac f.cols.length f.cc,.slice f.Al f.lo.length f.cl,.slice f.Ah f.hi.length f.ch,.slice f.Ak f.cost.length f.ck,.slice f.Ab f.b.length f.cb]∧FoD 4 f V∧FRight f V∧LsR 4 za0 roN X xs V∧LsR 4 za0 roN Y ys V∧Tz V) (fun V=>RatN kc cq V) wr)) (fun jv _=>f.cols.length-(intOf jv).toNat)
  case atStart=>exact⟨0,zeroR,0,rfl,Nat.zero_le _,znd (CosI.start f xs _),HE⟩
  case round=>
   clear HE
   obtain⟨j,kc,cq,rfl,hj,HI,HE⟩:=hrel
   by_cases hlt:j<f.cols.length
   ·have hjx:j<xs.length:=by rw[HV.out.len];exact hlt
    have hjk:j<f.cost.length:=by rw[HFR.out.cost];exact hlt
    have HC:=znd (show∀V,(fun V=>Blk V gf 32 #[.int .i64 f.M,.slice f.Ac f.cols.length f.cc,.slice f.Al f.lo.length f.cl,.slice f.Ah f.hi.length f.ch,.slice f.Ak f.cost.length f.ck,.slice f.Ab f.b.length f.cb]∧FoD 4 f V∧FRight f V∧LsR 4 za0 roN X xs V∧LsR 4 za0 roN Y ys V∧Tz V) V→RC X j xs[j] V∧RC f.Ak j f.cost[j] V from fun V h=>⟨h.2.2.2.1.rc j hjx,h.2.1.cost.rc j hjk⟩)
    have HRA:=znd (show∀V,(fun V=>Blk V gf 32 #[.int .i64 f.M,.slice f.Ac f.cols.length f.cc,.slice f.Al f.lo.length f.cl,.slice f.Ah f.hi.length f.ch,.slice f.Ak f.cost.length f.ck,.slice f.Ab f.b.length f.cb]∧FoD 4 f V∧FRight f V∧LsR 4 za0 roN X xs V∧LsR 4 za0 roN Y ys V∧Tz V) V→RatD (xs[j]).1 (xs[j]).2 700000000 V∧RatD (f.cost[j]).1 (f.cost[j]).2 700000000 V from fun V h=>⟨RatN.rat (h.2.2.2.1.ok _ (List.getElem_mem hjx)) (HXZ.out _ (List.getElem_mem hjx)),RatD.mono (h.2.1.cost.ok _ (List.getElem_mem hjk)) (by omega)⟩)
    have HKZ:=znd (show Sz (f.cost[j]).2 4 from RatD.sz (HE.out.o.2.1.cost.ok _ (List.getElem_mem hjk)) (by omega))
    have HNX:=znd (show CosI f xs 700000000 (j+1) (cq+(xs[j]).2*(f.cost[j]).2)from by
     have h9:=HI.out.next (by rw[zao hjx];exact HXZ.out _ (List.getElem_mem hjx)) (by rw[zao hjk];exact HKZ.out)
     rwa [zao hjx,zao hjk]at h9)
    have HZM:=znd (show Sz ((xs[j]).2*(f.cost[j]).2) 400000000000 from((HXZ.out _ (List.getElem_mem hjx)).mul HKZ.out).up (by omega))
    have Hcz:=znd (show Sz cq 400000000000 from HI.out.sz.up (by have:=Nat.mul_le_mul_right (700000000+6) (show j≤12 by omega);omega))
    obtain⟨x,hx⟩:∃x,x=xs[j]:=⟨_,rfl⟩
    obtain⟨k,hk⟩:∃k,k=f.cost[j]:=⟨_,rfl⟩
    rw[←hx,←hk]at HC
    rw[←hx,←hk]at HRA
    rw[←hx,←hk]at HNX
    rw[←hx,←hk]at HZM
    clear hx hk hjx HKZ HI
    go_upto_region 12 with fail
    refine wp_region_noPanic ?_
    refine zab 12 (fun W=>RC X j x W∧CB gf #[.int .i64 f.M,.slice f.Ac f.cols.length f.cc,.slice f.Al f.lo.length f.cl,.slice f.Ah f.hi.length f.ch,.slice f.Ak f.cost.length f.ck,.slice f.Ab f.b.length f.cb] W∧RC f.Ak j k W∧CB gc #[.bool kc.num.neg,.slice kc.num.A kc.num.k kc.num.c,.bool kc.den.neg,.slice kc.den.A kc.den.k kc.den.c] W) (by kernel_rfl) (by with_reducible first|exact⟨(HC.out _ HE.out.o).1,Blk.cb HE.out.o.1,(HC.out _ HE.out.o).2,(Env.c1 HE.out)⟩|exact⟨(HC.out _ HE.out.drew.o).1,Blk.cb HE.out.drew.o.1,(HC.out _ HE.out.drew.o).2,(Env.c1 HE.out.drew)⟩) (fun hHeld=>?_)
    replace HE:=znd HE.out.drew
    refine gTa 0 57 hHeld ?_
    refine gTa 1 58 hHeld ?_
    refine gTa 2 59 hHeld ?_
    refine gTa 3 60 hHeld ?_
    refine gTa 4 61 hHeld ?_
    refine gTa 5 62 hHeld ?_
    refine gTa 6 63 hHeld ?_
    refine gTa 7 64 hHeld ?_
    refine gTa 8 65 hHeld ?_
    refine gTa 9 66 hHeld ?_
    refine gC 10 rfl (by kernel_rfl) (by rfl) (fun K hK=>?_)
    clear hHeld
    simp only[q1,q2,q3]
    go_simp
    refine(zaN _ x.1 k.1 x.2 k.2 700000000 (by omega) (by omega) (HRA.out _ HE.out.o).1 (HRA.out _ HE.out.o).2 HE.out.o.2.2.2.2.2).mono ?_
    rintro e w3 ⟨km,rfl,hk,hb⟩
    replace HE:=znd (Env.ret HE.out hk hb)
    clear hk hb
    (try(go_wp2_with fail))
    refine hK.out _ _ (by with_reducible first|exact⟨(HC.out _ HE.out.o).1,Blk.cb HE.out.o.1,(HC.out _ HE.out.o).2,(Env.c1 HE.out)⟩|exact⟨(HC.out _ HE.out.drew.o).1,Blk.cb HE.out.drew.o.1,(HC.out _ HE.out.drew.o).2,(Env.c1 HE.out.drew)⟩) (fun hHeld=>?_)
    clear hK K
    try simp only[p1,p2,p3,p4]
    refine gC 11 rfl (by kernel_rfl) (by rfl) (fun K hK=>?_)
    clear hHeld
    simp only[q1,q2,q3]
    go_simp
    refine(zbL _ kc km cq (x.2*k.2) 400000000000 (by omega) (by omega) (RatN.rat HE.out.n.2 Hcz.out) (RatN.rat HE.out.n.1 HZM.out) HE.out.o.2.2.2.2.2).mono ?_
    rintro e w3 ⟨kc2,rfl,hk,hb⟩
    replace HE:=znd (Env.ret HE.out hk hb)
    clear hk hb
    (try(go_wp2_with fail))
    refine hK.out _ _ (by with_reducible first|exact⟨(HC.out _ HE.out.o).1,Blk.cb HE.out.o.1,(HC.out _ HE.out.o).2,(Env.c1 HE.out)⟩|exact⟨(HC.out _ HE.out.drew.o).1,Blk.cb HE.out.drew.o.1,(HC.out _ HE.out.drew.o).2,(Env.c1 HE.out.drew)⟩) (fun hHeld=>?_)
    clear hK K
    try simp only[p1,p2,p3,p4]
    have c:=Env.c1 HE.out
    refine gL rfl (by kernel_rfl) (by kernel_rfl) (by rfl) (fun K hK=>?_)
    clear hHeld
    simp only[q1,q2,q3]
    go_simp
    (try(go_wp2_with fail))
    refine hK.out _ _ ?_
    clear hK K
    try simp only[p1,p2,p3,p4]
    refine NoPanic.normal ?_
    clear c
    have HE2:=znd (HE.out.put4 (.bool kc2.num.neg) (.slice kc2.num.A kc2.num.k kc2.num.c) (.bool kc2.den.neg) (.slice kc2.den.A kc2.den.k kc2.den.c))
    clear HE
    obtain⟨W5,hW5,HE⟩:=Env.nm HE2.out
    rw[hW5]
    clear hW5 HE2
    go_wp2_with fail
    go_roundw
    case rel=>exact⟨j+1,kc2,_,by go_num,by omega,HNX,znd (HE.out.imp (fun V h=>h) (fun V h=>h.1))⟩
    case measure=>(simp[intOf]<;>omega)
   ·obtain rfl:j=f.cols.length:=by omega
    have hnu:¬((f.cols.length:Nat):Int)<((f.cols.length:Nat):Int):=by omega
    have HCZ:=znd (show Sz cq 400000000000 from HI.out.sz.up (by have:=Nat.mul_le_mul_right (700000000+6) (show f.cols.length≤12 by omega);omega))
    have HCO:=znd HI.out.cost
    clear HI
    rw[←HCO.out]at HBB HBC
    have HE3:=znd (show Env wr [] (fun V=>Blk V gc 48 #[.bool kc.num.neg,.slice kc.num.A kc.num.k kc.num.c,.bool kc.den.neg,.slice kc.den.A kc.den.k kc.den.c]∧Blk V gf 32 #[.int .i64 f.M,.slice f.Ac f.cols.length f.cc,.slice f.Al f.lo.length f.cl,.slice f.Ah f.hi.length f.ch,.slice f.Ak f.cost.length f.ck,.slice f.Ab f.b.length f.cb]∧FoD 4 f V∧FRight f V∧LsR 4 za0 roN X xs V∧LsR 4 za0 roN Y ys V∧Tz V∧RatN kc cq V) (fun _=>True) wr from(GL.start HE.out).env.imp (fun V h=>⟨h.1.1 _ (List.mem_singleton.2 rfl),h.1.2.1,h.1.2.2.1,h.1.2.2.2.1,h.1.2.2.2.2.1,h.1.2.2.2.2.2.1,h.1.2.2.2.2.2.2,h.2⟩) (fun _ h=>h))
    have HFD:=znd HE.out.o.2.1
    have HO9:=znd (fun(V:World) (h:(fun V=>Blk V gc 48 #[.bool kc.num.neg,.slice kc.num.A kc.num.k kc.num.c,.bool kc.den.neg,.slice kc.den.A kc.den.k kc.den.c]∧Blk V gf 32 #[.int .i64 f.M,.slice f.Ac f.cols.length f.cc,.slice f.Al f.lo.length f.cl,.slice f.Ah f.hi.length f.ch,.slice f.Ak f.cost.length f.ck,.slice f.Ab f.b.length f.cb]∧FoD 4 f V∧FRight f V∧LsR 4 za0 roN X xs V∧LsR 4 za0 roN Y ys V∧Tz V∧RatN kc cq V) V)=>And.intro (Blk.cb h.1) (Blk.cb h.2.1))
    obtain⟨B,hBf⟩:∃B:Bool,B=true↔FeasP f xs wr:=(Classical.em (FeasP f xs wr)).elim (fun h=>⟨true,by simp[h]⟩) (fun h=>⟨false,by simp[h]⟩)
    have HBF:=znd hBf
    clear hBf
    go_upto_region 14 with fail
    clear hnu
    have HE0:=HE
    clear HE
    refine zou [(0,some 70,[],.pu (.agg #[.int .i64 f.M,.slice f.Ac f.cols.length f.cc,.slice f.Al f.lo.length f.cl,.slice f.Ah f.hi.length f.ch,.slice f.Ak f.cost.length f.ck,.slice f.Ab f.b.length f.cb])),(1,some 71,[],.pu (.slice Y f.b.length cy)),(2,some 72,[0,1],.ca (fun kb:RV=>.agg #[.bool kb.num.neg,.slice kb.num.A kb.num.k kb.num.c,.bool kb.den.neg,.slice kb.den.A kb.den.k kb.den.c]) (fun kb=>RatN kb cq)),(3,some 73,[],.pu (.agg #[.bool kc.num.neg,.slice kc.num.A kc.num.k kc.num.c,.bool kc.den.neg,.slice kc.den.A kc.den.k kc.den.c])),(4,some 74,[2,3],.pu (.bool true)),(5,some 75,[4],.pu (.bool true)),(6,some 76,[5],.pu (.agg #[.int .i64 f.M,.slice f.Ac f.cols.length f.cc,.slice f.Al f.lo.length f.cl,.slice f.Ah f.hi.length f.ch,.slice f.Ak f.cost.length f.ck,.slice f.Ab f.b.length f.cb])),(7,some 77,[5],.pu (.slice X f.cols.length cx)),(8,some 78,[5],.pu (.slice Y f.b.length cy)),(9,some 79,[5,6,7,8],.pu (.bool B)),(10,some 80,[5],.pu (.agg #[.int .i64 f.M,.slice f.Ac f.cols.length f.cc,.slice f.Al f.lo.length f.cl,.slice f.Ah f.hi.length f.ch,.slice f.Ak f.cost.length f.ck,.slice f.Ab f.b.length f.cb])),(11,some 81,[5],.pu (.slice X f.cols.length cx)),(12,some 82,[5,10,11],.pu (.bool B)),(13,some 83,[5,9,12],.pu (.bool true)),(14,some 84,[5,13],.pu (.bool true)),(15,some 85,[14],.pu (.bool true)),(16,some 86,[15],.pu (.bool true)),(17,some 87,[15,16],.pu (.bool true)),(18,some 4,[17],.pu (.bool true))] HE3.out ?_ ?_ (by kernel_rfl) (by kernel_rfl) rfl (by kernel_rfl)
    all_goals clear HE3
    ·refine armD (armD (armC rfl ?_ (armD (armC rfl ?_ (armD (armD (armD (armD (armC rfl ?_ (armD (armD (armC rfl ?_ (armD (armD (armD (armC rfl ?_ (armD (armD trivial))))))))))))))))))
     ·intro u ao W ea HE K hK
      simp only[Act.put,List.setIfInBounds_toArray,List.set_cons_zero,List.set_cons_succ]at ea
      subst ea
      refine⟨?_⟩
      have h9:=zns W 700000000 (by omega) (by omega) f (HE.out.o.2.2.1.mono (by omega)) HS.out Y cy ys (HE.out.o.2.2.2.2.2.1.imp fun q hq h=>RatN.rat h (HYZ.out q hq)) (by rw[HDU.out.ly];omega) (by rw[HDU.out.ly];exact HCY.out) HE.out.o.2.2.2.2.2.2.1 HE.out.o.2.2.2.1
      rw[HBB.out,HDU.out.ly]at h9
      rw[if_pos (by rfl)]
      simp only[q1,q2,q3]
      go_simp
      refine(h9).mono ?_
      rintro e wq ⟨kb,rfl,hk,hb⟩
      (try(go_wp2_with fail))
      exact hK.out _ _ _ rfl hb ⟨kb,rfl,hk.ltX⟩
     ·intro u kb ao W ea HE K hK
      simp only[Act.put,List.setIfInBounds_toArray,List.set_cons_zero,List.set_cons_succ]at ea
      subst ea
      refine⟨?_⟩
      rw[if_pos (by rfl)]
      simp only[q1,q2,q3]
      go_simp
      refine(zco _ kb kc cq cq 400000000000 (by omega) (by omega) (RatN.rat HE.out.n.1 HCZ.out) (RatN.rat HE.out.o.2.2.2.2.2.2.2 HCZ.out)).mono ?_
      rintro e wq ⟨rfl,hb⟩
      rw[decide_eq_true rfl]
      (try(go_wp2_with fail))
      exact hK.out _ _ _ rfl hb rfl
     ·intro u ao W ea HE K hK
      simp only[Act.put,List.setIfInBounds_toArray,List.set_cons_zero,List.set_cons_succ]at ea
      subst ea
      refine⟨?_⟩
      have h9:=zo0 W 700000000 (by omega) (by omega) f (HE.out.o.2.2.1.mono (by omega)) HS.out X cx xs (HE.out.o.2.2.2.2.1.imp fun q hq h=>RatN.rat h (HXZ.out q hq)) Y cy ys (HE.out.o.2.2.2.2.2.1.imp fun q hq h=>RatN.rat h (HYZ.out q hq)) (by rw[HDU.out.ly];omega) (by rw[HDU.out.ly];exact HCY.out) HE.out.o.2.2.2.2.2.2.1
      rw[HBB.out,HBC.out,HDU.out.ly,HV.out.len]at h9
      rw[if_pos (by rfl)]
      simp only[q1,q2,q3]
      go_simp
      refine(h9).mono ?_
      rintro e wq ⟨hr,hb⟩
      obtain rfl:=zoq hr (B:=B) (by rw[HBF.out,FeasP.same HFD.out HE.out.bel];exact⟨fun h=>⟨h,rfl⟩,fun h=>h.1⟩)
      clear hr h9
      (try(go_wp2_with fail))
      exact hK.out _ _ _ rfl hb rfl
     ·intro u ao W ea HE K hK
      simp only[Act.put,List.setIfInBounds_toArray,List.set_cons_zero,List.set_cons_succ]at ea
      subst ea
      refine⟨?_⟩
      have h9:=zgN W 700000000 (by omega) (by omega) f (HE.out.o.2.2.1.mono (by omega)) HS.out X cx xs (HE.out.o.2.2.2.2.1.imp fun q hq h=>RatN.rat h (HXZ.out q hq)) HE.out.o.2.2.2.2.2.2.1
      rw[HV.out.len]at h9
      rw[if_pos (by rfl)]
      simp only[q1,q2,q3]
      go_simp
      refine(h9).mono ?_
      rintro e wq ⟨hr,hb⟩
      obtain rfl:=zoq hr (B:=B) (by rw[HBF.out,FeasP.same HFD.out HE.out.bel])
      clear hr h9
      (try(go_wp2_with fail))
      exact hK.out _ _ _ rfl hb rfl
     ·intro u ao W ea HE K hK
      simp only[Act.put,List.setIfInBounds_toArray,List.set_cons_zero,List.set_cons_succ]at ea
      subst ea
      refine⟨?_⟩
      rw[if_pos (by rfl)]
      simp only[q1,q2,q3]
      go_simp
      refine(zd7 _ HE.out.o.2.2.2.2.2.2.1).mono ?_
      rintro e wq ⟨rfl,hb⟩
      (try(go_wp2_with fail))
      exact hK.out _ _ _ rfl hb rfl
    ·intro u kb ao W ea HE
     simp only[Act.put,List.setIfInBounds_toArray,List.set_cons_zero,List.set_cons_succ]at ea
     subst ea
     go_wp2_with fail
     exact bodyPost_ret (v:=.bool true) (by simp[results,Tryz.results4,go_sem]) rfl ⟨rfl,Below.after HE0.out.bel HE.out.bel⟩
end Go.Proofs.YtfdmajmhmligpaaGreatDoor
