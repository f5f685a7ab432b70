/-
 tripwireref17: Bound, Refutes, Best; proof.Best. tripwireref17.Best, proof.Best. The plain law of ProofTells: both sides are the same sums.
-/
import Derived.Test.YtfdmajmhmligpaaGreatDoorKJ
import Derived.Test.YtfdmajmhmligpaaGreatDoorV18
namespace Go.Proofs.YtfdmajmhmligpaaGreatDoor
set_option maxHeartbeats 8000000
open Go.RowKit

theorem FeasP.same {n:Nat} {f:FoV} {xs:List (RV×Rat)} {w W:World} (h:FoD n f w) (hb:Below w.heap.size w W):FeasP f xs W↔FeasP f xs w:=by
 constructor
 ·rintro⟨h1,h2,h3,h4,h5⟩
  exact⟨(FRight.same h hb).1 h1,h2,h3,h4,h5⟩
 ·rintro⟨h1,h2,h3,h4,h5⟩
  exact⟨(FRight.same h hb).2 h1,h2,h3,h4,h5⟩
set_option maxRecDepth 100000 in
theorem zo0 (w:World) (n:Nat) (hn:n≤700000000) (h1n:1≤n) (f:FoV) (h:FoD n f w) (hs:FSmall f) (Ax:Option Addr) (cx:Nat) (xs:List (RV×Rat)) (hx:LsR 4 za0 (roD n) Ax xs w) (Ay:Option Addr) (cy:Nat) (ys:List (RV×Rat)) (hy:LsR 4 za0 (roD n) Ay ys w) (hyl:ys.length≤30) (hyc:ys.length≤cy) (hT:Tz w):
 Calls Tryz.prog 21 #[fA f,.slice Ax xs.length cx,.slice Ay ys.length cy] w fun e w'=>zaR (FeasP f xs w∧dotQ (vecL f.cost) (vecL xs)=(bndQ f (vecL (ys.take (min ys.length f.b.length))) (dotQ (vecL (ys.take (min ys.length f.b.length))) (vecL f.b)) (fun i=>(f.cost[i]!).2) f.cols.length)) e∧Below w.heap.size w w':=by
 have Hs:=znd hs
 have Hf:=znd h
 have hc12:=hs.cols
 have Hsx:=znd (show∀p∈xs,Sz p.2 n from fun p hp=>RatD.sz (hx.ok p hp) h1n)
 have Hsk:=znd (show∀p∈f.cost,Sz p.2 n from fun p hp=>RatD.sz (h.cost.ok p hp) h1n)
 have Hfit:=znd (fun(hR:FRight f w)=>zo4 h1n h hs hR hy (K:=min ys.length f.b.length) (by have:=hs.b;omega) (cq:=fun i=>(f.cost[i]!).2) (fun i hi=>by rw[getElem!_pos f.cost i (by rw[hR.cost];exact hi)];exact Hsk.out _ (List.getElem_mem _)))
 obtain⟨Q,hQ⟩:∃Q,(bndQ f (vecL (ys.take (min ys.length f.b.length))) (dotQ (vecL (ys.take (min ys.length f.b.length))) (vecL f.b)) (fun i=>(f.cost[i]!).2) f.cols.length)=Q:=⟨_,rfl⟩
 have HQ:=znd hQ
 rw[hQ]at Hfit
 rw[hQ]
 clear hQ
 obtain⟨D,hD⟩:∃D,dotQ (vecL f.cost) (vecL xs)=D:=⟨_,rfl⟩
 have HD:=znd hD
 have HsD:=znd (show Sz D (bndT n) by
  obtain⟨ps,hps⟩:∃ps:List TeV,ps.map plq=vecL f.cost:=⟨(ofT f.cost).filter nzT,filter_plq _⟩
  obtain⟨qs,hqs⟩:∃qs:List TeV,qs.map plq=vecL xs:=⟨(ofT xs).filter nzT,filter_plq _⟩
  rw[←hD,←hps,←hqs]
  refine(ziD (zfT hqs) h1n (zfQ hqs Hsx.out) ps (zfQ hps Hsk.out)).up ?_
  have h1:=zgG hps
  have h2:=hs.cost
  have h3:=Nat.mul_le_mul_right (2*n+2) (show ps.length≤20 by omega)
  unfold bndT;omega)
 rw[hD]
 clear hD
 obtain⟨B,hB⟩:∃B:Bool,decide (D=Q)=B:=⟨_,rfl⟩
 have HB:=znd hB
 clear hB
 have HE:=znd (lyF f ((h.old).and (((hx.old zbQ)).and (((hy.old zbQ)).and (hT.old)))))
 have c:=Env.c1 HE.out
 clear h hs hx hy hT
 unfold fA
 go_enter Tryz.func21,Tryz.ntmps21
 go_wp2_with fail
 refine(zgN _ n (by omega) h1n f HE.out.o.1 Hs.out Ax cx xs HE.out.o.2.1 HE.out.o.2.2.2).mono ?_
 rintro e w1 ⟨⟨B0,rfl,hB0⟩,hb⟩
 have HF:=znd (hB0.trans (FeasP.same Hf.out HE.out.bel))
 replace HE:=znd (Env.call HE.out hb)
 clear hb hB0 c
 have c:=Env.c1 HE.out
 cases B0
 ·go_wp2_with fail
  exact bodyPost_ret (v:=.bool false) (by simp[results,Tryz.results21,go_sem]) rfl ⟨za7 false ⟨fun h9=>absurd h9 (by decide),fun h9=>absurd (HF.out.2 h9.1) (by simp)⟩,HE.out.bel⟩
 ·have HFe:=znd (HF.out.1 rfl)
  have HR:=znd HFe.out.right
  have Hxl:=znd (show xs.length=f.cols.length from HFe.out.len)
  go_upto_region 3 with fail
  go_region_held3 (fun W=>CB (w.heap.size) #[.int .i64 f.M,.slice f.Ac f.cols.length f.cc,.slice f.Al f.lo.length f.cl,.slice f.Ah f.hi.length f.ch,.slice f.Ak f.cost.length f.ck,.slice f.Ab f.b.length f.cb] W) (first|with_reducible exact c|with_reducible exact Env.c1 HE.out.drew|((repeat' apply And.intro)<;>go_keep))
   (first
    |(go_at_call_of 35 (#[.slice f.Ak f.cost.length f.ck]:Array Value);go_must (refine(zdY _ n (by omega) h1n f.Ak f.ck f.cost (by with_reducible first|exact HE.out.o.1.cost|exact HE.out.drew.o.1.cost) Hs.out.cost (by with_reducible first|exact HE.out.o.2.2.2|exact HE.out.drew.o.2.2.2)).mono ?_;rintro e w2 ⟨Aq,cq,qs,rfl,hcq,hqs,hk,hb⟩;replace HE:=znd (Env.ret (by with_reducible first|exact HE.out|exact HE.out.drew) hk hb);replace c:=Env.c1 HE.out;have Hq:=znd (show qs.map plq=vecL f.cost from hqs);clear hk hb hqs hcq))
    |(go_at_call_of 35 (#[.slice Ax xs.length cx]:Array Value);go_must (refine(zdY _ n (by omega) h1n Ax cx xs (by with_reducible first|exact HE.out.o.2.1|exact HE.out.drew.o.2.1) (by rw[Hxl.out];omega) (by with_reducible first|exact HE.out.o.2.2.2|exact HE.out.drew.o.2.2.2)).mono ?_;rintro e w2 ⟨At,ct,ts,rfl,hcq,hqs,hk,hb⟩;replace HE:=znd (Env.ret (by with_reducible first|exact HE.out|exact HE.out.drew) hk hb);replace c:=Env.c1 HE.out;have Ht:=znd (show ts.map plq=vecL xs from hqs);clear hk hb hqs hcq))
    |(go_at_call 42;go_must (refine(zjO _ n (by omega) h1n Aq At cq ct qs ts ((show∀V,LsR 5 tecells teN Aq qs V→LsR 5 tecells (teD n) Aq qs V from fun V h=>h.imp fun t ht hn=>RatN.rat hn (zfQ Hq.out Hsk.out t ht)) _ (by with_reducible first|exact HE.out.n.1|exact HE.out.n.2.1|exact HE.out.n.2.2.1|exact HE.out.n.2.2.2.1|exact HE.out.drew.n.1|exact HE.out.drew.n.2.1|exact HE.out.drew.n.2.2.1|exact HE.out.drew.n.2.2.2.1)) ((show∀V,LsR 5 tecells teN At ts V→LsR 5 tecells (teD n) At ts V from fun V h=>h.imp fun t ht hn=>RatN.rat hn (zfQ Ht.out Hsx.out t ht)) _ (by with_reducible first|exact HE.out.n.1|exact HE.out.n.2.1|exact HE.out.n.2.2.1|exact HE.out.n.2.2.2.1|exact HE.out.drew.n.1|exact HE.out.drew.n.2.1|exact HE.out.drew.n.2.2.1|exact HE.out.drew.n.2.2.2.1)) (zfT Hq.out) (zfT Ht.out) (by have:=zgG Hq.out;have:=Hs.out.cost;omega) (by have:=zgG Ht.out;rw[Hxl.out]at this;omega) (by with_reducible first|exact HE.out.o.2.2.2|exact HE.out.drew.o.2.2.2)).mono ?_;rintro e w4 ⟨kd,rfl,hk,hb⟩;rw[Hq.out,Ht.out,HD.out]at hk;replace HE:=znd (Env.ret (by with_reducible first|exact HE.out|exact HE.out.drew) hk hb);replace c:=Env.c1 HE.out;clear hk hb))
    |(go_at_call 20;go_must (refine(zns _ n (by omega) h1n f (by with_reducible first|exact HE.out.o.1|exact HE.out.drew.o.1) Hs.out Ay cy ys (by with_reducible first|exact HE.out.o.2.2.1|exact HE.out.drew.o.2.2.1) hyl hyc (by with_reducible first|exact HE.out.o.2.2.2|exact HE.out.drew.o.2.2.2) ((FRight.same Hf.out (by with_reducible first|exact HE.out.bel|exact HE.out.drew.bel)).2 HR.out)).mono ?_;rintro e w3 ⟨kb,rfl,hk,hb⟩;rw[HQ.out]at hk;replace HE:=znd (Env.ret (by with_reducible first|exact HE.out|exact HE.out.drew) hk hb);replace c:=Env.c1 HE.out;clear hk hb))
    |(go_at_call 16;go_must (refine(zco _ kd kb D Q (bndT n) (by have:=znQ (n:=n) (by omega);omega) (zo2 n) (RatN.rat (show RatN kd D _ from(by with_reducible first|exact HE.out.n.1|exact HE.out.n.2.1|exact HE.out.n.2.2.1|exact HE.out.n.2.2.2.1|exact HE.out.drew.n.1|exact HE.out.drew.n.2.1|exact HE.out.drew.n.2.2.1|exact HE.out.drew.n.2.2.2.1)) HsD.out) (RatN.rat (show RatN kb Q _ from(by with_reducible first|exact HE.out.n.1|exact HE.out.n.2.1|exact HE.out.n.2.2.1|exact HE.out.n.2.2.2.1|exact HE.out.drew.n.1|exact HE.out.drew.n.2.1|exact HE.out.drew.n.2.2.1|exact HE.out.drew.n.2.2.2.1)) (Hfit.out HR.out))).mono ?_;rintro e w5 ⟨rfl,hb⟩;rw[HB.out];replace HE:=znd (Env.call (by with_reducible first|exact HE.out|exact HE.out.drew) hb);replace c:=Env.c1 HE.out;clear hb)))
  all_goals
   go_wp2_with fail
   first
    |exact bodyPost_ret (v:=.bool B) (by simp[results,Tryz.results21,go_sem]) rfl ⟨za7 B ⟨fun h9=>⟨HFe.out,by have h8:=HB.out;rw[h9]at h8;exact of_decide_eq_true h8⟩,fun h9=>by rw[←HB.out];exact decide_eq_true h9.2⟩,HE.out.bel⟩
    |exact bodyPost_ret (v:=.bool B) (by simp[results,Tryz.results21,go_sem]) rfl ⟨za7 B ⟨fun h9=>⟨HFe.out,by have h8:=HB.out;rw[h9]at h8;exact of_decide_eq_true h8⟩,fun h9=>by rw[←HB.out];exact decide_eq_true h9.2⟩,HE.out.drew.bel⟩

end Go.Proofs.YtfdmajmhmligpaaGreatDoor
