/-
 The law of ProofBases over what its parts tell (plain law): the bound of a priced basis' prices is what its point costs.
-/
import Derived.Test.YtfdmajmhmligpaaGreatDoorPI
import Derived.Test.YtfdmajmhmligpaaGreatDoorJB
import Derived.Test.YtfdmajmhmligpaaGreatDoorIB
namespace Go.Proofs.YtfdmajmhmligpaaGreatDoor
open Go.RowKit

theorem ziY {l:List (RV×Rat)} {j:Nat} (h:j<l.length):numL l j=(l[j]!).2:=by rw[zao h,zb0 h]
theorem FormP.fright {p:PrV} {f:FoV} {w w0:World} (hP:FormP p f w) (hR:PRight p w0):FRight f w:=by
 refine⟨by rw[hP.M];omega,by rw[hP.nl,hP.nc],by rw[hP.nh,hP.nc],by rw[hP.nk,hP.nc],by rw[hP.nb,hP.M],fun j hj=>hP.right _ (List.getElem_mem hj),fun j hj hj'=>?_⟩
 have hl:=hP.nl
 rw[zc8,←zb0 hj,←zb0 hj']
 by_cases e:j<p.vars.length
 ·rw[hP.lo j e,hP.hi j e,zb0 e]
  exact zc8.1 (hR.va _ (List.getElem_mem e))
 ·obtain⟨i,rfl⟩:∃i,j=p.vars.length+i:=⟨j-p.vars.length,by omega⟩
  have hi:i<p.rows.length:=by omega
  rw[hP.los i hi,hP.his i hi]
  exact zf3 _ _
theorem zgb {f:FoV} {st:List Int} {xs ys ds:List (RV×Rat)} (hB:IsB f st) (hv:ValP f st xs) (hd:DualP f st ys ds):sumN (fun j=>numL f.cost j*numL xs j) f.cols.length=sumN (fun j=>numL ds j*numL xs j) f.cols.length+sumN (fun i=>numL ys i*numL f.b i) f.b.length:=
 zfM (at':=basI st f.cols.length) (bas:=zcM st) (g:=fun j i=>rowQ f.cols j (i:Int)) rfl hB.m hd.eq hd.d hv.eq
theorem zor:∀M,M<6→∀N,N<13→szG 4 (nlF 4 (M-1)) M≤100000000∧nyV 4 M≤700000000∧szF (nuV 4 N) (2*nlF 4 (M-1)+1) M≤100000000∧4+nxV 4 M N≤700000000:=of_decide_eq_true (by kernel_rfl)
theorem zdw:nlF 4 5≤100000000:=of_decide_eq_true (by kernel_rfl)
theorem znG (g:Nat→Rat):∀n,sumI g n=sumN g n
 |0=>rfl
 |n+1=>by rw[sumI,sumN,znG g n]
theorem zod (m:Nat) (z:Nat→Rat) (h:sumN (fun i=>z i*z i) m=0):∀i,i<m→z i=0:=by
 have hnn:∀m,0≤sumN (fun i=>z i*z i) m:=fun m=>by
  induction m with
  |zero=>exact Rat.le_refl
  |succ m ih=>
   have h1:0≤z m*z m:=by
    by_cases h:0≤z m
    ·exact Rat.mul_nonneg h h
    ·have:=Rat.mul_nonneg (a:=-(z m)) (b:=-(z m)) (by grind) (by grind);grind
   rw[sumN];grind
 induction m with
 |zero=>intro i hi;omega
 |succ m ih=>
  rw[sumN]at h
  have h1:0≤z m*z m:=by
   by_cases h:0≤z m
   ·exact Rat.mul_nonneg h h
   ·have:=Rat.mul_nonneg (a:=-(z m)) (b:=-(z m)) (by grind) (by grind);grind
  have h2:=hnn m
  have h3:sumN (fun i=>z i*z i) m=0:=by grind
  have h4:z m*z m=0:=by grind
  intro i hi
  by_cases e:i=m
  ·rw[e]
   rcases Rat.mul_eq_zero.1 h4 with h|h<;>exact h
  ·exact ih h3 i (by omega)
theorem DualP.uniq {f:FoV} {st:List Int} {ys ds ys' ds':List (RV×Rat)} (hB:IsB f st) (h:DualP f st ys ds) (h':DualP f st ys' ds'):(∀i,i<f.b.length→numL ys i=numL ys' i)∧∀j,j<f.cols.length→numL ds j=numL ds' j:=by
 have key:∀i,i<f.b.length→numL ys i=numL ys' i:=by
  intro i hi
  by_cases hS:∃x:Nat→Rat,∀i,i<f.b.length→sumN (fun k=>colM (zbm f st) i k*x k) f.b.length=numL ys i-numL ys' i
  ·obtain⟨x,hx⟩:=hS
   have h0:sumN (fun i=>(numL ys i-numL ys' i)*(numL ys i-numL ys' i)) f.b.length=0:=by
    rw[zae (h:=fun i=>sumN (fun k=>(numL ys i-numL ys' i)*(colM (zbm f st) i k*x k)) f.b.length) fun i hi=>by rw[zcx,hx i hi],zfq]
    refine zbk fun k hk=>?_
    have hk':k<(basI st f.cols.length).length:=by rw[hB.m];exact hk
    have e1:∀i,colM (zbm f st) i k=rowQ f.cols (((basI st f.cols.length)[k]?).getD 0) (i:Int):=fun i=>by
     have hl:k<(zbm f st).length:=by unfold zbm;rwa [List.length_map]
     have h1:=(zcK (List.getElem_mem hk')).1
     unfold colM
     rw[zat hl,List.getElem?_eq_getElem hk']
     show getQ ((zbm f st)[k].ts.map plq) i=rowQ f.cols (basI st f.cols.length)[k] i
     rw[zat h1,show(zbm f st)[k]=zci f (basI st f.cols.length)[k]from List.getElem_map ..,zbM h1]
    have e2:sumN (fun i=>(numL ys i-numL ys' i)*(colM (zbm f st) i k*x k)) f.b.length=x k*(sumN (fun i=>numL ys i*rowQ f.cols (((basI st f.cols.length)[k]?).getD 0) (i:Int)) f.b.length-sumN (fun i=>numL ys' i*rowQ f.cols (((basI st f.cols.length)[k]?).getD 0) (i:Int)) f.b.length):=by
     rw[←zgw,←zcx]
     exact zae fun i _=>by rw[e1];grind
    rw[e2,h.eq k hk,h'.eq k hk]
    grind
   have h1:=zod _ _ h0 i hi
   grind
  ·exact absurd ⟨fun i=>numL ys i-numL ys' i,fun x hx=>hS ⟨x,hx⟩⟩ hB.ns
 refine⟨key,fun j hj=>?_⟩
 rw[h.d j hj,h'.d j hj]
 split
 ·rfl
 ·rw[zae (h:=fun i=>numL ys' i*rowQ f.cols j (i:Int)) fun i hi=>by rw[key i hi]]
theorem zo6 {f:FoV} {ys:List (RV×Rat)} (hl:ys.length=f.b.length) {j:Nat} (hj:j<f.cols.length):dotQ (vecL ys) ((f.cols[j]!).ts.map plq)=sumN (fun i=>numL ys i*rowQ f.cols j (i:Int)) f.b.length:=by
 have hv:∀i:Nat,i<f.b.length→getQ (vecL ys) (i:Int)=numL ys i:=fun i hi=>by rw[zfS (by omega),ziY (by omega)]
 rw[zdj (n:=f.b.length) _ fun q hq=>by have:=znv q hq;omega,znG]
 exact zae fun i hi=>by rw[hv i hi,zat hj,zb0 hj]
theorem zo8 {f:FoV} {st:List Int} {xs ys ds:List (RV×Rat)} {w:World} (hR:FRight f w) (hB:IsB f st) (hv:ValP f st xs) (hd:DualP f st ys ds) (hp:∀j,j<f.cols.length→prOk f st ds j) {j:Nat} (hj:j<f.cols.length):
 lstQ (f.cost[j]!).2 (dotQ (vecL ys) ((f.cols[j]!).ts.map plq)) (f.lo[j]!).2 (f.hi[j]!).2=numL ds j*numL xs j:=by
 have hc:(f.cost[j]!).2=numL f.cost j:=(ziY (by rw[hR.cost];exact hj)).symm
 have hlo:(f.lo[j]!).2=numL f.lo j:=(ziY (by rw[hR.lo];exact hj)).symm
 have hhi:(f.hi[j]!).2=numL f.hi j:=(ziY (by rw[hR.hi];exact hj)).symm
 rw[zo6 hd.ly hj,hc,hlo,hhi]
 have hjs:j<st.length:=by rw[hB.len];exact hj
 have hst:=List.getElem?_eq_getElem hjs
 have hdj:=hd.d j hj
 unfold lstQ
 rcases hB.ok _ (List.getElem_mem hjs)with h0|h0|h0
 ·rw[h0]at hst
  rw[if_pos (zck.2 hst)]at hdj
  have hbas:sumN (fun i=>numL ys i*rowQ f.cols j (i:Int)) f.b.length=numL f.cost j:=by
   have hm:j∈basI st f.cols.length:=List.mem_filter.2 ⟨List.mem_range.2 hj,by rw[hst];rfl⟩
   obtain⟨k,hk,e⟩:=List.mem_iff_getElem.1 hm
   have h1:=hd.eq k (by rw[←hB.m];exact hk)
   rw[List.getElem?_eq_getElem hk]at h1
   rw[←e]
   exact h1
  rw[hbas,hdj]
  split<;>grind
 ·rw[h0]at hst
  have hnb:¬zcM st j=true:=fun h=>by rw[zck,hst]at h;cases h
  rw[if_neg hnb]at hdj
  rw[←hdj,hv.std j hj (by rw[hst];decide),show stdQ f st j=numL f.lo j from if_pos hst]
  split
  ·rfl
  ·rename_i h
   have:=hp j hj (.inl ⟨hst,by omega⟩)
   rw[this]
 ·rw[h0]at hst
  have hnb:¬zcM st j=true:=fun h=>by rw[zck,hst]at h;cases h
  rw[if_neg hnb]at hdj
  rw[←hdj,hv.std j hj (by rw[hst];decide),show stdQ f st j=numL f.hi j from by unfold stdQ;rw[if_neg (by rw[hst];decide),if_pos hst]]
  split
  ·rename_i h
   by_cases h1:0<(numL ds j).num.sign
   ·rw[hp j hj (.inr ⟨hst,h1⟩)]
   ·have h2:(numL ds j).num.sign=0:=by omega
    have h3:numL ds j=0:=by rw[Int.sign_eq_zero_iff_zero]at h2;exact Rat.num_eq_zero.1 h2
    rw[h3];grind
  ·rfl
theorem zos {f:FoV} {st:List Int} {xs ys ds:List (RV×Rat)} {w:World} (hR:FRight f w) (hB:IsB f st) (hv:ValP f st xs) (hd:DualP f st ys ds) (hp:∃ys' ds',DualP f st ys' ds'∧∀j,j<f.cols.length→prOk f st ds' j):
 bndQ f (vecL (ys.take (min ys.length f.b.length))) (dotQ (vecL (ys.take (min ys.length f.b.length))) (vecL f.b)) (fun i=>(f.cost[i]!).2) f.cols.length=sumN (fun j=>numL f.cost j*numL xs j) f.cols.length:=by
 obtain⟨ys',ds',hd',hp'⟩:=hp
 have hu:=(hd'.uniq hB hd).2
 have hp:∀j,j<f.cols.length→prOk f st ds j:=fun j hj h=>hp' j hj (by unfold zeT at h⊢;rw[hu j hj];exact h)
 rw[zgb hB hv hd,show ys.take (min ys.length f.b.length)=ys from by rw[hd.ly,Nat.min_self];exact List.take_of_length_le (by rw[hd.ly];exact Nat.le_refl _)]
 have key:∀k,k≤f.cols.length→bndQ f (vecL ys) (dotQ (vecL ys) (vecL f.b)) (fun i=>(f.cost[i]!).2) k=dotQ (vecL ys) (vecL f.b)+sumN (fun j=>numL ds j*numL xs j) k:=fun k=>by
  induction k with
  |zero=>intro _;exact(Rat.add_zero _).symm
  |succ k ih=>
   intro hk
   rw[bndQ,ih (by omega),zo8 hR hB hv hd hp (by omega),sumN,Rat.add_assoc]
 rw[key _ (Nat.le_refl _),Rat.add_comm]
 congr 1
 rw[zdj (n:=f.b.length) _ fun q hq=>by have:=znv q hq;have:=hd.ly;omega,znG]
 exact zae fun i hi=>by rw[zfS (by rw[hd.ly];exact hi),zfS hi,ziY (by rw[hd.ly];exact hi),ziY hi]
theorem zot {f:FoV} {xs:List (RV×Rat)} {w:World} (hR:FRight f w) (hl:xs.length=f.cols.length):dotQ (vecL f.cost) (vecL xs)=sumN (fun j=>numL f.cost j*numL xs j) f.cols.length:=by
 rw[zoj hR.cost hl,znG]
 exact zae fun j hj=>by rw[ziY (by rw[hR.cost];exact hj),ziY (by omega)]
structure CosI (f:FoV) (xs:List (RV×Rat)) (X j:Nat) (c:Rat):Prop where
 cost:c=sumN (fun j=>numL f.cost j*numL xs j) j
 sz:Sz c (1+j*(X+6))
theorem CosI.start (f:FoV) (xs:List (RV×Rat)) (X:Nat):CosI f xs X 0 0:=⟨rfl,zaM.up (by omega)⟩
theorem CosI.next {f:FoV} {xs:List (RV×Rat)} {X j:Nat} {c:Rat} (h:CosI f xs X j c) (hx:Sz (numL xs j) X) (hk:Sz (numL f.cost j) 4):CosI f xs X (j+1) (c+numL xs j*numL f.cost j):=by
 refine⟨by rw[h.cost,sumN,Rat.mul_comm],(h.sz.add (hx.mul hk)).up ?_⟩
 rw[Nat.add_mul];omega
end Go.Proofs.YtfdmajmhmligpaaGreatDoor
