/-
 The law of ProofHolds over contracts: what great leaves, what prices tell.
-/
import Derived.Test.YtfdmajmhmligpaaGreatDoorKR
import Derived.Test.YtfdmajmhmligpaaGreatDoorKM
import Derived.Test.YtfdmajmhmligpaaGreatDoorPF
import Derived.Test.YtfdmajmhmligpaaGreatDoorPH
namespace Go.Proofs.YtfdmajmhmligpaaGreatDoor
open Go.RowKit

theorem RatD.cut {r:RV} {q:Rat} {n m:Nat} {w:World} (h:RatD r q n w) (h1:r.num.k≤m) (h2:r.den.k≤m):RatD r q m w:=by
 obtain⟨x,d,hx,hd,hq⟩:=h.ex
 exact⟨⟨x,d,⟨hx.ex,hx.cap,h1⟩,⟨hd.ex,hd.cap,h2⟩,hq⟩⟩
theorem RatN.okR {r:RV} {q:Rat} {w:World} (h:RatN r q w):RatD r q (r.num.k+r.den.k) w:=
 RatD.cut (h.rat (n:=q.num.natAbs+q.den) ⟨Nat.lt_of_lt_of_le (Nat.lt_pow_self (by decide)) (Nat.pow_le_pow_right (by decide) (Nat.le_add_right _ _)),Nat.lt_of_lt_of_le (Nat.lt_pow_self (by decide)) (Nat.pow_le_pow_right (by decide) (Nat.le_add_left _ _))⟩) (by omega) (by omega)
theorem FoN.foA {f:FoV} {w:World} (h:FoN f w):FoA f w:=
 ⟨h.cols.imp fun _ _ hv=>LsR.imp hv fun _ _ ht=>RatN.okR ht,h.lo.imp fun _ _ hp=>RatN.okR hp,h.hi.imp fun _ _ hp=>RatN.okR hp,h.cost.imp fun _ _ hp=>RatN.okR hp,h.b.imp fun _ _ hp=>RatN.okR hp⟩
theorem FoD.mono {n m:Nat} {f:FoV} {w:World} (h:FoD n f w) (hm:n≤m):FoD m f w:=
 ⟨h.cols.imp fun _ _ hv=>LsR.imp hv fun _ _ ht=>RatD.mono ht hm,h.lo.imp fun _ _ hp=>RatD.mono hp hm,h.hi.imp fun _ _ hp=>RatD.mono hp hm,h.cost.imp fun _ _ hp=>RatD.mono hp hm,h.b.imp fun _ _ hp=>RatD.mono hp hm⟩
theorem NotGreat.small {f:FoV} {gs:List RsV} (h:NotGreat f gs):FSmall f:=⟨h.M,h.cols,h.col,h.lo,h.hi,h.cost,h.b⟩
theorem zdr {A:Option Addr} {l:List (RV×Rat)} {w:World} (h:LsR 4 za0 okR A l w) (hs:∀p∈l,zdN p):LsR 4 za0 (roD 4) A l w:=
 h.imp fun p hp hk=>RatD.cut hk (hs p hp).1 (hs p hp).2
theorem FoA.cut {f:FoV} {gs:List RsV} {w:World} (h:FoA f w) (hg:NotGreat f gs):FoD 4 f w:=by
 have hs:=hg.short
 refine⟨h.cols.imp fun v hv hk=>LsR.imp hk fun t ht hn=>?_,zdr h.lo fun p hp=>hs p (by simp[hp]),zdr h.hi fun p hp=>hs p (by simp[hp]),zdr h.cost fun p hp=>hs p (by simp[hp]),zdr h.b fun p hp=>hs p (by simp[hp])⟩
 have h1:zdN (tr t):=hs _ (by
  refine List.mem_append_left _ (List.mem_append_right _ ?_)
  exact List.mem_flatMap.2 ⟨v,hv,List.mem_map_of_mem (f:=tr) ht⟩)
 exact RatD.cut hn h1.1 h1.2
structure PSmall (p:PrV):Prop where
 ts:∀r∈p.rows,∀t∈r.ts,Sz t.q 4
 b:∀r∈p.rows,Sz r.b.2 4
 cost:∀t∈p.cost,Sz t.q 4
theorem FormP.small {p:PrV} {f:FoV} {w w0:World} (hP:FormP p f w) (hf:FoD 4 f w) (hR:PRight p w0):PSmall p:=by
 have hnc:=hP.nc
 have hnk:=hP.nk
 have hnb:=hP.nb
 refine⟨fun r hr t ht=>?_,fun r hr=>?_,fun t ht=>?_⟩
 ·obtain⟨i,hi,rfl⟩:=List.mem_iff_getElem.1 hr
  have h1:=(hR.ro _ hr).2
  obtain⟨k,hk,rfl⟩:=List.mem_iff_getElem.1 ht
  have h2:=h1.rng _ ht
  obtain⟨j,hj⟩:∃j:Nat,p.rows[i].ts[k].pl=(j:Int):=⟨p.rows[i].ts[k].pl.toNat,by omega⟩
  have h3:=h1.rise.get_at hk
  have hjn:j<p.vars.length:=by omega
  have h4:=hP.col j i hjn hi
  rw[zb0 hi]at h4
  rw[hj,←h4]at h3
  rw[←h3]
  have hjc:j<f.cols.length:=by omega
  rw[zb0 hjc]
  have hm:=List.getElem_mem hjc
  exact zb4 (hP.right _ hm).rise (by decide) (fun u hu=>RatD.sz ((hf.cols.ok _ hm).ok u hu) (by decide)) _
 ·obtain⟨i,hi,rfl⟩:=List.mem_iff_getElem.1 hr
  have h1:=hP.b i hi
  rw[zb0 hi,zb0 (show i<f.b.length by omega)]at h1
  rw[←h1]
  exact RatD.sz (hf.b.ok _ (List.getElem_mem _)) (by decide)
 ·obtain⟨k,hk,rfl⟩:=List.mem_iff_getElem.1 ht
  have h2:=hR.cost.rng _ ht
  obtain⟨j,hj⟩:∃j:Nat,p.cost[k].pl=(j:Int):=⟨p.cost[k].pl.toNat,by omega⟩
  have h3:=hR.cost.rise.get_at hk
  have hjn:j<p.vars.length:=by omega
  rw[hj,←hP.cost j hjn,zb0 (show j<f.cost.length by omega)]at h3
  rw[←h3]
  exact RatD.sz (hf.cost.ok _ (List.getElem_mem _)) (by decide)
theorem zoj {f:FoV} {zs:List (RV×Rat)} (h1:f.cost.length=f.cols.length) (hl:zs.length=f.cols.length):dotQ (vecL f.cost) (vecL zs)=sumI (fun j=>(f.cost[j]!).2*(zs[j]!).2) f.cols.length:=by
 rw[zdj (n:=f.cols.length) _ fun q hq=>by
  have:=znv q hq
  omega]
 exact zcC fun j hj=>by rw[zfS (by omega),zfS (by omega)]
theorem zoq {P:Prop} {B:Bool} {e:Ending} (h:zaR P e) (hB:B=true↔P):e=.returned (.bool B):=by
 obtain⟨B',rfl,hB'⟩:=h
 rw[show B'=B by rw[Bool.eq_iff_iff,hB',hB]]
end Go.Proofs.YtfdmajmhmligpaaGreatDoor
