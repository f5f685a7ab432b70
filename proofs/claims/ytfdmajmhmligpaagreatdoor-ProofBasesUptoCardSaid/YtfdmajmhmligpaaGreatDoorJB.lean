/-
 point.Priced. point.unit, point.Start: the slacks are the basis.
-/
import Derived.Test.YtfdmajmhmligpaaGreatDoorIZ
namespace Go.Proofs.YtfdmajmhmligpaaGreatDoor
set_option maxHeartbeats 4000000
open Go.RowKit

def zeT (st:List Int) (ds:List (RV×Rat)) (j:Nat):Prop:=(st[j]?=some 1∧(numL ds j).num.sign<0)∨(st[j]?=some 2∧0<(numL ds j).num.sign)
def prOk (f:FoV) (st:List Int) (ds:List (RV×Rat)) (j:Nat):Prop:=zeT st ds j→numL f.lo j=numL f.hi j
def PricedRes (f:FoV) (st:List Int) (w:World) (e:Ending) (w':World):Prop:=
 ∃B:Bool,e=.returned (.bool B)∧Below w.heap.size w w'∧(B=true→IsB f st∧∃ys ds,DualP f st ys ds∧∀j,j<f.cols.length→prOk f st ds j)∧(B=false→IsB f st→∃ys ds,DualP f st ys ds∧¬∀j,j<f.cols.length→prOk f st ds j)
theorem PricedRes.yes {f:FoV} {st:List Int} {w w':World} (hb:Below w.heap.size w w') (h:IsB f st) {ys ds:List (RV×Rat)} (hd:DualP f st ys ds) (hp:∀j,j<f.cols.length→prOk f st ds j):PricedRes f st w (.returned (.bool true)) w':=⟨true,rfl,hb,fun _=>⟨h,ys,ds,hd,hp⟩,fun h=>absurd h (by decide)⟩
theorem PricedRes.no {f:FoV} {st:List Int} {w w':World} (hb:Below w.heap.size w w') (h:IsB f st→∃ys ds,DualP f st ys ds∧¬∀j,j<f.cols.length→prOk f st ds j):PricedRes f st w (.returned (.bool false)) w':=⟨false,rfl,hb,fun h=>absurd h (by decide),fun _=>h⟩
set_option maxRecDepth 100000 in
theorem ze7 (w:World) (n:Nat) (hn:n≤100000) (h1n:1≤n) (f:FoV) (h:FoD n f w) (hS:FSmall f) (hR:FRight f w) (hnl:nlF n 5≤100000000) (hng:szG n (nlF n (f.b.length-1)) f.b.length≤100000000) (hny:nyV n f.b.length≤1000000000) (SA:Option Addr) (sc:Nat) (st:List Int) (hs:LsR 1 stc (fun _ _=>True) SA st w) (hT:Tz w):Calls Tryz.prog 9 #[fA f,.slice SA st.length sc] w (PricedRes f st w):=by
 have slS:=hs.sl
 have slL:=h.lo.sl
 have slH:=h.hi.sl
 have szs:=zcf
 have szr:=zal
 have hadd:=zaa
 have HR0:=znd hR
 have HSm:=znd hS
 have hN12:f.cols.length≤12:=hS.cols
 have HNL:=znd hnl
 have HNG:=znd hng
 have HNY:=znd hny
 have HLO:=znd hR.lo
 have HHI:=znd hR.hi
 have hm5:f.b.length≤5:=by have h9:=hS.M;rw[←hR.b]at h9;omega
 have HF0:=znd h
 have HE:=znd (Env.start (h.old.and ((hs.old zdk).and hT.old)))
 obtain⟨W0,hW0⟩:∃W0,W0=w.alloc (.cells #[.int .i64 f.M,.slice f.Ac f.cols.length f.cc,.slice f.Al f.lo.length f.cl,.slice f.Ah f.hi.length f.ch,.slice f.Ak f.cost.length f.ck,.slice f.Ab f.b.length f.cb] 32):=⟨_,rfl⟩
 have HE0:=znd (Env.lay1 HE.out hW0)
 subst hW0
 have HG:=znd (show GL w [] (fun V=>Blk V w.heap.size 32 #[.int .i64 f.M,.slice f.Ac f.cols.length f.cc,.slice f.Al f.lo.length f.cl,.slice f.Ah f.hi.length f.ch,.slice f.Ak f.cost.length f.ck,.slice f.Ab f.b.length f.cb]∧FoD n f V∧LsR 1 stc (fun _ _=>True) SA st V∧Tz V) (fun _=>True) _ from(GL.start HE0.out).imp (fun _ h=>⟨h.1 _ (List.mem_cons_self ..),h.2⟩) (fun _ h=>h))
 clear h hs hT hR hS HE HE0 hnl hng hny
 have c:=Blk.cb HG.out.o.1
 unfold fA
 go_enter Tryz.func9,Tryz.ntmps9
 go_wp2_with fail
 clear c
 refine(zcR _ n hn h1n f HG.out.o.2.1 HSm.out ((FRight.same HF0.out HG.out.bel).2 HR0.out) HNL.out HNG.out HNY.out SA sc st HG.out.o.2.2.1 HG.out.o.2.2.2).mono ?_
 rintro e w1 (⟨hB,A,c,ys,D,ds,rfl,-,hd,-,hz,hk,hb⟩|⟨hB,rfl,hb⟩)
 ·have HB:=znd hB
  have HD:=znd hd
  have HZ:=znd hz
  have HG2:=znd (show GL w [] (fun V=>Blk V w.heap.size 32 #[.int .i64 f.M,.slice f.Ac f.cols.length f.cc,.slice f.Al f.lo.length f.cl,.slice f.Ah f.hi.length f.ch,.slice f.Ak f.cost.length f.ck,.slice f.Ab f.b.length f.cb]∧FoD n f V∧LsR 1 stc (fun _ _=>True) SA st V∧Tz V) (fun V=>LsR 4 za0 roN D ds V) w1 from(HG.out.call hk hb).imp (fun _ h=>h) (fun V h=>h.1.2))
  clear hB hd hz hk hb HG
  have HG:=HG2
  clear HG2
  have slD:Sl D f.cols.length:=by have h9:=HG.out.n.sl;rwa [HD.out.ld]at h9
  go_wp2_with fail
  have hsl:=HB.out.len
  have HSL:=znd hsl
  rw[hsl]at slS⊢
  clear hsl
  have HND:=znd (show ndV n f.b.length≤400000000000 from by unfold ndV;have h8:=HNY.out;have:=Nat.mul_le_mul hm5 (show 2*nyV n f.b.length+2≤2000000002 by omega);omega)
  go_loopw [23] (fun iv wr=>∃(i:Nat),iv=.int .i64 (i:Int)∧i≤f.cols.length∧Hid (∀j,j<i→prOk f st ds j)∧Hid (GL w [] (fun V=>Blk V w.heap.size 32 #[.int .i64 f.M,.slice f.Ac f.cols.length f.cc,.slice f.Al f.lo.length f.cl,.slice f.Ah f.hi.length f.ch,.slice f.Ak f.cost.length f.ck,.slice f.Ab f.b.length f.cb]∧FoD n f V∧LsR 1 stc (fun _ _=>True) SA st V∧Tz V) (fun V=>LsR 4 za0 roN D ds V) wr)) (fun iv _=>f.cols.length-(intOf iv).toNat)
  case atStart=>exact⟨0,rfl,Nat.zero_le _,znd (fun j h=>absurd h (Nat.not_lt_zero _)),HG⟩
  case round=>
   clear HG
   obtain⟨i,rfl,hi,HK,HG⟩:=hrel
   by_cases hlt:i<f.cols.length
   ·have his:i<st.length:=by rw[HSL.out];exact hlt
    have hid:i<ds.length:=by rw[HD.out.ld];exact hlt
    have hil:i<f.lo.length:=by rw[HLO.out];exact hlt
    have hih:i<f.hi.length:=by rw[HHI.out];exact hlt
    have cs:=HG.out.o.2.2.1.c1 i his
    have cd:=HG.out.n.rc i hid
    have HSI:=znd (List.getElem?_eq_getElem his)
    have HOK:=HB.out.ok _ (List.getElem_mem his)
    have HDQ:=znd (zao hid)
    have HLQ:=znd (zao hil)
    have HHQ:=znd (zao hih)
    have HDZ:=znd (HZ.out _ (List.getElem_mem hid))
    have HDN:=znd (show∀V,LsR 4 za0 roN D ds V→roN ds[i] V from fun V h=>h.ok _ (List.getElem_mem hid))
    have HRC:=znd (show∀V,FoD n f V→RC f.Al i f.lo[i] V∧RC f.Ah i f.hi[i] V from fun V h=>⟨h.lo.rc i hil,h.hi.rc i hih⟩)
    have HRD:=znd (show∀V,FoD n f V→RatD (f.lo[i]).1 (f.lo[i]).2 n V∧RatD (f.hi[i]).1 (f.hi[i]).2 n V from fun V h=>⟨h.lo.ok _ (List.getElem_mem hil),h.hi.ok _ (List.getElem_mem hih)⟩)
    obtain⟨z,hz⟩:∃z,z=st[i]:=⟨_,rfl⟩
    obtain⟨u,hu⟩:∃u,u=ds[i]:=⟨_,rfl⟩
    obtain⟨l,hl⟩:∃l,l=f.lo[i]:=⟨_,rfl⟩
    obtain⟨h2,hh2⟩:∃h2,h2=f.hi[i]:=⟨_,rfl⟩
    rw[←hz]at cs HSI HOK
    rw[←hu]at cd HDQ HDZ HDN
    rw[←hl]at HRC HRD HLQ
    rw[←hh2]at HRC HRD HHQ
    clear hz hu hl hh2
    go_wp2_with fail
    refine(zaV _ u.1 u.2 (ndV n f.b.length) HND.out (RatN.rat (HDN.out _ HG.out.n) HDZ.out)).mono ?_
    rintro e w2 ⟨rfl,hb⟩
    replace HG:=znd (HG.out.skip hb)
    clear hb cs cd
    obtain⟨sg,hsg⟩:∃sg,sg=u.2.num.sign:=⟨_,rfl⟩
    have HSG:=znd (show(numL ds i).num.sign=sg from by rw[HDQ.out,hsg])
    rw[←hsg]
    clear hsg
    have HNEXT:=znd (fun(h:prOk f st ds i)=>show∀j,j<i+1→prOk f st ds j from fun j hj=>by
     by_cases e:j=i
     ·rw[e];exact h
     ·exact HK.out j (by omega))
    obtain⟨W,hW⟩:∃W:Bool,W=(((z==1)&&decide (sg<0))||((z==2)&&decide (0<sg))):=⟨_,rfl⟩
    have HWW:=znd (show W=true↔zeT st ds i from by
     unfold zeT
     rw[hW,HSI.out,HSG.out]
     simp)
    have HW:=znd hW
    clear hW
    go_upto_region 8 with fail
    go_cut [11]from 24 to 62 (fun v wx=>v=.bool W∧Hid (GL w [] (fun V=>Blk V w.heap.size 32 #[.int .i64 f.M,.slice f.Ac f.cols.length f.cc,.slice f.Al f.lo.length f.cl,.slice f.Ah f.hi.length f.ch,.slice f.Ak f.cost.length f.ck,.slice f.Ab f.b.length f.cb]∧FoD n f V∧LsR 1 stc (fun _ _=>True) SA st V∧Tz V) (fun V=>LsR 4 za0 roN D ds V) wx))
    case first=>
     rcases HOK with h0|h0|h0
     ·subst h0
      go_wp2_with fail
      go_meet
      exact⟨by rw[HW.out];rfl,HG⟩
     ·subst h0
      by_cases h1:sg<0
      ·go_wp2_with fail
       go_meet
       exact⟨by rw[HW.out];simp[h1],HG⟩
      ·go_wp2_with fail
       go_meet
       exact⟨by rw[HW.out];simp[h1],HG⟩
     ·subst h0
      by_cases h1:0<sg
      ·go_wp2_with fail
       go_meet
       exact⟨by rw[HW.out];simp[h1],HG⟩
      ·go_wp2_with fail
       go_meet
       exact⟨by rw[HW.out];simp[h1],HG⟩
    case rest=>
     clear HG
     obtain⟨rfl,HG⟩:=hcut
     clear HOK
     cases W
     ·have HNW:=znd (show prOk f st ds i from fun h=>absurd (HWW.out.2 h) (by decide))
      go_upto_region 9 with fail
      go_quiet (fail)
      go_wp2_with fail
      go_roundw
      case rel=>exact⟨i+1,by go_num,by omega,znd (HNEXT.out HNW.out),znd (HG.out.skip (Below.drewN (Below.refl _ _) _))⟩
      case measure=>(simp[intOf]<;>omega)
     ·have HPW:=znd (HWW.out.1 rfl)
      have cf:=Blk.cb HG.out.o.1
      have cl:=(HRC.out _ HG.out.o.2.1).1
      have ch:=(HRC.out _ HG.out.o.2.1).2
      obtain⟨sm,hsm⟩:∃sm:Bool,sm=decide (l.2=h2.2):=⟨_,rfl⟩
      have HSM:=znd hsm
      clear hsm
      go_upto_region 9 with fail
      refine wp_region_noPanic ?_
      refine wp_region_held_drew (S:=(fun V=>CB w.heap.size #[.int .i64 f.M,.slice f.Ac f.cols.length f.cc,.slice f.Al f.lo.length f.cl,.slice f.Ah f.hi.length f.ch,.slice f.Ak f.cost.length f.ck,.slice f.Ab f.b.length f.cb] V∧RC f.Al i l V∧RC f.Ah i h2 V)) (by kernel_rfl) (by with_reducible first|exact⟨Blk.cb HG.out.o.1,HRC.out _ HG.out.o.2.1⟩|exact⟨Blk.cb HG.out.drew.o.1,HRC.out _ HG.out.drew.o.2.1⟩) (fun hHeld=>?_)
      replace HG:=znd HG.out.drew
      refine hT 0 47 hHeld ?_
      refine hT 1 48 hHeld ?_
      refine hT 2 49 hHeld ?_
      refine hT 3 50 hHeld ?_
      refine hT 4 51 hHeld ?_
      refine hT 5 52 hHeld ?_
      refine hT 6 53 hHeld ?_
      refine hT 7 54 hHeld ?_
      refine hT 8 55 hHeld ?_
      refine hT 9 56 hHeld ?_
      refine hT 10 57 hHeld ?_
      refine hT 11 58 hHeld ?_
      refine za8 (i:=12) rfl (by kernel_rfl) (by rfl) (fun K hK=>?_)
      clear hHeld
      simp only[q1,q2,q3]
      go_simp
      refine(zco _ l.1 h2.1 l.2 h2.2 n (by omega) h1n (HRD.out _ HG.out.o.2.1).1 (HRD.out _ HG.out.o.2.1).2).mono ?_
      rintro e w3 ⟨rfl,hb⟩
      rw[←HSM.out]
      replace HG:=znd (HG.out.skip hb)
      clear hb
      (try(go_wp2_with fail))
      refine hK.out _ _ (by with_reducible first|exact⟨Blk.cb HG.out.o.1,HRC.out _ HG.out.o.2.1⟩|exact⟨Blk.cb HG.out.drew.o.1,HRC.out _ HG.out.drew.o.2.1⟩) (fun hHeld=>?_)
      clear hK K
      try simp only[p1,p2,p3,p4]
      refine hT 13 60 hHeld ?_
      refine hT 14 61 hHeld ?_
      clear hHeld
      refine wpAnyH_done (by kernel_rfl) ?_ _
      refine NoPanic.normal ?_
      have HG3:=HG
      clear HG
      all_goals
       clear cf cl ch
       cases sm
       ·have HN9:=znd (show¬prOk f st ds i from fun h=>of_decide_eq_false HSM.out.symm (by rw[←HLQ.out,←HHQ.out];exact h HPW.out))
        go_wp2_with fail
        exact bodyPost_ret (v:=.bool false) (by simp[results,Tryz.results9,go_sem]) rfl (.no (by with_reducible first|exact HG3.out.bel|exact HG3.out.drew.bel) (fun _=>⟨ys,ds,HD.out,fun h=>HN9.out (h i hlt)⟩))
       ·have HN9:=znd (show prOk f st ds i from fun _=>by rw[HLQ.out,HHQ.out];exact of_decide_eq_true HSM.out.symm)
        go_wp2_with fail
        go_roundw
        case rel=>exact⟨i+1,by go_num,by omega,znd (HNEXT.out HN9.out),znd (by with_reducible first|exact HG3.out|exact HG3.out.drew)⟩
        case measure=>(simp[intOf]<;>omega)
   ·obtain rfl:i=f.cols.length:=by omega
    have hnu:¬((f.cols.length:Nat):Int)<((f.cols.length:Nat):Int):=by omega
    go_wp2_with fail
    exact bodyPost_ret (v:=.bool true) (by simp[results,Tryz.results9,go_sem]) rfl (.yes HG.out.bel HB.out HD.out HK.out)
 ·replace HG:=znd (HG.out.skip hb)
  have HB:=znd hB
  clear hb hB
  go_wp2_with fail
  exact bodyPost_ret (v:=.bool false) (by simp[results,Tryz.results9,go_sem]) rfl (.no HG.out.bel (fun h=>absurd h HB.out))

end Go.Proofs.YtfdmajmhmligpaaGreatDoor
