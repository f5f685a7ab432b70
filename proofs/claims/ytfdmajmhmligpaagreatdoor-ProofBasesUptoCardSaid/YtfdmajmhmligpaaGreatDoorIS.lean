/-
 What lu.Factor does (plain law): columns turned to rows; steps that factor them, or rows that no numbers fit. lu.Factor.
-/
import Derived.Test.YtfdmajmhmligpaaGreatDoorIQ
namespace Go.Proofs.YtfdmajmhmligpaaGreatDoor
set_option maxHeartbeats 8000000
open Go.RowKit

def Rf (vs:List VeV) (i k:Nat):Rat:=rowQ vs i (k:Int)
def colM (cols:List VeV) (i k:Nat):Rat:=rowQ cols k (i:Int)
def nlF (n0:Nat):Nat→Nat
 |0=>n0
 |j+1=>4*nlF n0 j+4
theorem zcF (n0:Nat) {i j:Nat} (h:i≤j):nlF n0 i≤nlF n0 j:=by
 induction h with
 |refl=>exact Nat.le_refl _
 |step _ ih=>rw[nlF];omega
def Sing (n:Nat) (R:Nat→Nat→Rat):Prop:=∃b:Nat→Rat,∀x:Nat→Rat,¬∀i,i<n→sumN (fun k=>R i k*x k) n=b i
structure FacI (n n0:Nat) (V0:Nat→Nat→Rat) (j:Nat) (vs:List VeV) (bl:List Bool) (ss:List SpV):Prop where
 vl:vs.length=n
 bll:bl.length=n
 sl:ss.length=j
 cnt:bl.count true+j=n
 rows:∀v∈vs,VecP n (nlF n0 j) v.ts∧∀t∈v.ts,nzT t=true
 steps:∀s∈ss,s.row<n∧s.col<n∧s.q≠0∧∃i,i+1≤n∧Sz s.q (nlF n0 i)∧VecP n (nlF n0 i) s.rest∧VecP n (2*nlF n0 i+1) s.taken
 pre:∀ss',Fac n (Rf vs) (fun i=>bl[i]?=some true) ss'→Fac n V0 (·<n) (ss.map SpV.toP++ss')
 sol:∀i0,bl[i0]?=some true→∀x:Nat→Rat,(∀i,i<n→sumN (fun k=>V0 i k*x k) n=if i=i0 then 1 else 0)→∀i,bl[i]?=some true→sumN (fun k=>Rf vs i k*x k) n=if i=i0 then 1 else 0
theorem zj8 {l:List Bool}:∀{r:Nat},l[r]?=some true→(l.set r false).count true+1=l.count true:=by
 induction l with
 |nil=>intro r h;cases h
 |cons b l ih=>
  intro r h
  cases r with
  |zero=>
   obtain rfl:b=true:=by simpa using h
   simp
  |succ r=>
   have:=ih (r:=r) (by simpa using h)
   rw[List.set_cons_succ,List.count_cons,List.count_cons];omega
theorem zmX {t:TeV} (h:nzT t=true):t.q≠0:=fun e=>by
 unfold nzT at h
 rw[e]at h
 exact absurd h (by decide)
section
variable {n n0 j c r:Nat} {V0:Nat→Nat→Rat} {vs vs':List VeV} {bl:List Bool} {ss:List SpV} {s:SpV}
theorem FacI.start (hn:vs.length=n) (hr:∀v∈vs,VecP n n0 v.ts∧∀t∈v.ts,nzT t=true) (he:Rf vs=V0):FacI n n0 V0 0 vs (List.replicate n true) []:=by
 have e:(fun i=>(List.replicate n true)[i]?=some true)=(·<n):=funext fun i=>propext (by
  rw[List.getElem?_replicate]
  by_cases h:i<n
  ·rw[if_pos h];simp[h]
  ·rw[if_neg h];simp[h])
 refine⟨hn,by simp,rfl,by simp,hr,by simp,fun ss' h=>by rw[e,he]at h;exact h,fun i0 h0 x hx i hi=>?_⟩
 rw[he]
 exact hx i (by have h9:=congrFun e i;rw[←h9];exact hi)
theorem FacI.pivot (h:FacI n n0 V0 j vs bl ss) {B:Bool} (hN:NextP vs bl n c r B) (hB:B=true):bl[r]?=some true∧r<n∧c<n∧rowQ vs r (c:Int)≠0:=by
 obtain⟨h1,h2,t,ht,hp⟩:=hN.yes hB
 have hv:=h.rows _ (List.getElem_mem h2)
 have hm:=List.mem_map_of_mem (f:=plq) ht
 have e:=zeS ((List.pairwise_map (f:=plq) (R:=fun p q:Int×Rat=>p.1<q.1)).2 hv.1.rise) _ hm
 have hpl:=(hv.1.pl t ht).2
 refine⟨h1,by rw[←h.vl];exact h2,by omega,?_⟩
 rw[zat h2,←hp]
 exact fun e0=>zmX (hv.2 t ht) (e.symm.trans e0)
theorem zcE (r i:Nat):(bl.set r false)[i]?=some true↔bl[i]?=some true∧i≠r:=by
 rw[List.getElem?_set]
 by_cases e:r=i
 ·subst e
  rw[if_pos rfl]
  split<;>simp
 ·rw[if_neg e]
  exact⟨fun h=>⟨h,fun e'=>e e'.symm⟩,fun h=>h.1⟩
theorem ElimP.rows (he:ElimP n (nlF n0 j) vs (bl.set r false) r c s vs') (hb:bl.length=n):Rf vs'=zg0 (Rf vs) s.toP:=funext fun i=>funext fun k=>by
 show rowQ vs' i k=rowQ vs i k-getQ (s.taken.map plq) (i:Int)*rowQ vs s.row k
 rw[he.row]
 by_cases ho:(bl.set r false)[i]?=some true
 ·have hi:i<n:=by
   obtain⟨h1,-⟩:=List.getElem?_eq_some_iff.1 ho
   rw[List.length_set,hb]at h1;exact h1
  exact(he.el.on i hi ho).2 k
 ·have h1:=he.el.off i (.inl ho)
  rw[h1.1,zcv h1.2];grind
theorem FacI.step (h:FacI n n0 V0 j vs bl ss) (ho:bl[r]?=some true) (hr:r<n) (hc:c<n) (hq:rowQ vs r (c:Int)≠0) (he:ElimP n (nlF n0 j) vs (bl.set r false) r c s vs'):FacI n n0 V0 (j+1) vs' (bl.set r false) (ss++[s]):=by
 have hR:=he.rows h.bll
 have hcnt:=zj8 ho
 have hO:(fun i=>(bl.set r false)[i]?=some true)=fun i=>bl[i]?=some true∧i≠s.toP.r:=funext fun i=>propext (by
  show _↔_∧i≠s.row
  rw[he.row];exact zcE r i)
 have hcst:=h.cnt
 refine⟨he.el.len,by rw[List.length_set];exact h.bll,by rw[List.length_append,h.sl];rfl,by omega,he.el.vec,fun x hx=>?_,fun ss' hF=>?_,fun i0 h0 x hx i hi=>?_⟩
 ·rcases List.mem_append.1 hx with hx|hx
  ·exact h.steps x hx
  ·rw[List.mem_singleton.1 hx]
   refine⟨by rw[he.row];exact hr,by rw[he.col];exact hc,by rw[he.q];exact hq,j,by omega,?_,he.vr,⟨he.el.rise,fun t ht=>(he.el.pl t ht),he.el.sz⟩⟩
   rw[he.q,zat (show r<vs.length by rw[h.vl];exact hr)]
   by_cases h1:1≤nlF n0 j
   ·exact zb4 (h.rows _ (List.getElem_mem _)).1.rise h1 (h.rows _ (List.getElem_mem _)).1.sz _
   ·-- numbers of no word:the pivot's term itself
    exfalso
    have h0:nlF n0 j=0:=by omega
    refine hq ?_
    rw[zat (show r<vs.length by rw[h.vl];exact hr)]
    refine zan fun p hp e=>?_
    obtain⟨t,ht,rfl⟩:=List.mem_map.1 hp
    have h2:=((h.rows _ (List.getElem_mem _)).1.sz t ht).2
    rw[h0,Nat.pow_zero]at h2
    have:=t.q.den_pos
    omega
 ·rw[List.map_append,List.append_assoc]
  rw[hR,hO]at hF
  refine h.pre _ (.cons (s:=s.toP) ⟨by show bl[s.row]?=_;rw[he.row];exact ho,by show s.row<n;rw[he.row];exact hr⟩ (by show s.col<n;rw[he.col];exact hc) (by show s.q=rowQ vs s.row (s.col:Int);rw[he.row,he.col];exact he.q) (by show s.q≠0;rw[he.q];exact hq) (fun k=>?_) (fun i hi hne=>?_) (fun i hi=>?_) hF)
  ·show getQ (s.rest.map plq) (k:Int)=if k=s.col then 0 else rowQ vs s.row (k:Int)
   rw[he.rest,he.row,he.col]
   by_cases e:k=c
   ·rw[if_pos e,if_pos (by omega)]
   ·rw[if_neg e,if_neg (by omega)]
  ·have hne':i≠r:=fun e=>hne (by show i=s.row;rw[he.row];exact e)
   have hin:i<n:=by
    obtain⟨h1,-⟩:=List.getElem?_eq_some_iff.1 hi
    rw[h.bll]at h1;exact h1
   have h9:=(he.el.on i hin ((zcE r i).2 ⟨hi,hne'⟩)).1
   show getQ (s.taken.map plq) (i:Int)*s.q=rowQ vs i (s.col:Int)
   rw[he.q,he.col];exact h9
  ·exact(he.el.off i (.inl (fun h1=>hi (by
    have h2:=(zcE r i).1 h1
    exact⟨h2.1,by show i≠s.row;rw[he.row];exact h2.2⟩)))).1
 ·have h0':=(zcE r i0).1 h0
  have hi':=(zcE r i).1 hi
  have e1:=h.sol i0 h0'.1 x hx i hi'.1
  have e2:=h.sol i0 h0'.1 x hx r ho
  rw[if_neg (fun e=>h0'.2 e.symm)]at e2
  have e3:sumN (fun k=>Rf vs' i k*x k) n=sumN (fun k=>Rf vs i k*x k) n-getQ (s.taken.map plq) (i:Int)*sumN (fun k=>Rf vs r k*x k) n:=by
   rw[←zcx,←zgw]
   refine zae fun k _=>?_
   rw[hR]
   show(Rf vs i k-getQ (s.taken.map plq) (i:Int)*Rf vs s.row k)*x k=_
   rw[he.row];grind
  rw[e3,e2,←e1];grind
theorem FacI.sing (h:FacI n n0 V0 j vs bl ss) (hj:j<n) {B:Bool} (hN:NextP vs bl n c r B) (hB:B=false):Sing n V0:=by
 have hc:=h.cnt
 have hm:true∈bl:=List.count_pos_iff.1 (by omega)
 obtain⟨i0,hi0,e0⟩:=List.mem_iff_getElem.1 hm
 have ho:bl[i0]?=some true:=by rw[List.getElem?_eq_getElem hi0,e0]
 refine⟨fun i=>if i=i0 then 1 else 0,fun x hx=>?_⟩
 have h1:=h.sol i0 ho x hx i0 ho
 have hv:i0<vs.length:=by rw[h.vl,←h.bll];exact hi0
 have h2:=hN.no hB i0 hv (by rw[←h.bll];exact hi0) ho
 rw[if_pos rfl,zbk (fun k _=>by
  show rowQ vs i0 k*x k=0
  rw[zat hv,h2]
  show(0:Rat)*x k=0
  rw[Rat.zero_mul])]at h1
 exact absurd h1 (by decide)
theorem FacI.done (h:FacI n n0 V0 n vs bl ss):Fac n V0 (·<n) (ss.map SpV.toP)∧LuP n (nlF n0 (n-1)) (2*nlF n0 (n-1)+1) ss:=by
 have hc:=h.cnt
 have h0:=h.pre [] (.nil fun i hi=>by
  have:=List.count_pos_iff.2 (List.mem_of_getElem? hi)
  omega)
 rw[List.append_nil]at h0
 refine⟨h0,h.sl,fun s hs=>(h.steps s hs).1,fun s hs=>(h.steps s hs).2.1,fun s hs=>(h.steps s hs).2.2.1,fun s hs=>?_,fun s hs=>?_,fun s hs=>?_⟩
 all_goals
  obtain⟨i,hi,h1,h2,h3⟩:=(h.steps s hs).2.2.2
  have hle:=zcF n0 (show i≤n-1 by omega)
 ·exact h1.up hle
 ·exact h2.up hle
 ·exact h3.up (by omega)
theorem Fac.not_sing {P:List PStep} (h:Fac n V0 (·<n) P):¬Sing n V0:=fun⟨b,hb⟩=>hb _ fun i hi=>zfj h b i hi
end
structure TrI (n n0:Nat) (cols:List VeV) (k:Nat) (us:List TeV) (t:Nat) (vs:List VeV):Prop where
 len:vs.length=n
 rise:∀v∈vs,Rise v.ts
 tm:∀v∈vs,∀x∈v.ts,0≤x.pl∧x.pl≤(k:Int)∧nzT x=true∧Sz x.q n0
 fresh:∀i (h:i<vs.length),(∀u∈us.take t,u.pl≠(i:Int))→∀x∈vs[i].ts,x.pl<(k:Int)
 q:∀i,i<n→∀a:Nat,rowQ vs i (a:Int)=if a<k then rowQ cols a (i:Int) else if a=k then getQ ((us.take t).map plq) (i:Int) else 0
section
variable {n n0 k t:Nat} {cols vs:List VeV} {us:List TeV}
theorem TrI.start (us:List TeV):TrI n n0 cols 0 us 0 (List.replicate n ⟨none,0,[]⟩):=by
 have hv:∀v∈List.replicate n (⟨none,0,[]⟩:VeV),v.ts=[]:=fun v h=>by rw[List.eq_of_mem_replicate h]
 refine⟨by simp,fun v h=>(by rw[hv v h];exact .nil),fun v h x hx=>(by rw[hv v h]at hx;exact absurd hx List.not_mem_nil),fun i h _ x hx=>?_,fun i hi a=>?_⟩
 ·rw[hv _ (List.getElem_mem h)]at hx;cases hx
 ·rw[zat (by simpa using hi),hv _ (List.getElem_mem _),if_neg (Nat.not_lt_zero _),List.take_zero]
  split<;>rfl
theorem TrI.vec (h:TrI n n0 cols k us t vs):∀v∈vs,VecP (k+1) n0 v.ts:=fun v hv=>⟨h.rise v hv,fun x hx=>⟨(h.tm v hv x hx).1,by have:=(h.tm v hv x hx).2.1;omega⟩,fun x hx=>(h.tm v hv x hx).2.2.2⟩
theorem TrI.next (h:TrI n n0 cols k us us.length vs) (he:∀i,i<n→getQ (us.map plq) (i:Int)=rowQ cols k (i:Int)) (us':List TeV):TrI n n0 cols (k+1) us' 0 vs:=by
 refine⟨h.len,h.rise,fun v hv x hx=>⟨(h.tm v hv x hx).1,by have:=(h.tm v hv x hx).2.1;omega,(h.tm v hv x hx).2.2⟩,fun i hi _ x hx=>by have:=(h.tm _ (List.getElem_mem hi) x hx).2.1;omega,fun i hi a=>?_⟩
 rw[h.q i hi,List.take_of_length_le (Nat.le_refl _),List.take_zero]
 by_cases h1:a<k
 ·rw[if_pos h1,if_pos (by omega)]
 ·rw[if_neg h1]
  by_cases h2:a=k
  ·rw[if_pos h2,if_pos (by omega),h2,he i hi]
  ·rw[if_neg h2,if_neg (by omega)]
   split<;>rfl
theorem TrI.term (h:TrI n n0 cols k us t vs) (ht:t<us.length) (hr:Rise us) {p:Nat} (hp:us[t].pl=(p:Int)) (hpn:p<vs.length) (hz:nzT us[t]=true) (hs:Sz us[t].q n0) (A:Option Addr) (c:Nat):TrI n n0 cols k us (t+1) (vs.set p ⟨A,c,(vs[p]).ts++[⟨(k:Int),us[t].r,us[t].q⟩]⟩):=by
 have hnew:∀u∈us.take t,u.pl≠(p:Int):=fun u hu=>by
  obtain⟨i,hi,rfl⟩:=List.mem_iff_getElem.1 hu
  rw[List.length_take]at hi
  rw[List.getElem_take]
  have:=hr.at_ (i:=i) (j:=t) (by omega) ht
  omega
 have hf:=h.fresh p hpn hnew
 refine⟨by rw[List.length_set];exact h.len,fun v hv=>?_,fun v hv x hx=>?_,fun i hi hn x hx=>?_,fun i hi a=>?_⟩
 ·rcases List.mem_or_eq_of_mem_set hv with hv|rfl
  ·exact h.rise v hv
  ·exact List.pairwise_append.2 ⟨h.rise _ (List.getElem_mem hpn),List.pairwise_singleton _ _,fun a ha b hb=>by rw[List.mem_singleton.1 hb];exact hf a ha⟩
 ·rcases List.mem_or_eq_of_mem_set hv with hv|rfl
  ·exact h.tm v hv x hx
  ·rcases List.mem_append.1 hx with hx|hx
   ·exact h.tm _ (List.getElem_mem hpn) x hx
   ·rw[List.mem_singleton.1 hx];exact⟨Int.natCast_nonneg _,Int.le_refl _,hz,hs⟩
 ·rw[List.length_set]at hi
  have hpi:p≠i:=fun e=>hn us[t] (by rw[List.take_succ_eq_append_getElem ht];exact List.mem_append_right _ (List.mem_singleton_self _)) (by rw[hp,e])
  rw[List.getElem_set_ne hpi]at hx
  exact h.fresh i hi (fun u hu=>hn u (by rw[List.take_succ_eq_append_getElem ht];exact List.mem_append_left _ hu)) x hx
 ·have hq:=h.q i hi a
  by_cases e:p=i
  ·subst e
   rw[zgs hpn,zcV,←zat hpn,hq,zeL ht]
   by_cases h1:a<k
   ·rw[if_pos h1,if_pos h1,if_neg (show¬(k:Int)=(a:Int) by omega),Rat.add_zero]
   ·rw[if_neg h1,if_neg h1]
    by_cases h2:a=k
    ·rw[if_pos h2,if_pos h2,if_pos (show(k:Int)=(a:Int) by omega),if_pos hp]
    ·rw[if_neg h2,if_neg h2,if_neg (show¬(k:Int)=(a:Int) by omega),Rat.add_zero]
  ·rw[zcv (List.getElem?_set_ne e),hq,zeL ht,if_neg (show¬us[t].pl=(i:Int) by omega),Rat.add_zero]
theorem TrI.done (h:TrI n n0 cols n us 0 vs) (hc:cols.length=n) (hv:∀v∈cols,∀x∈v.ts,0≤x.pl∧x.pl<(n:Int)):(∀v∈vs,VecP n n0 v.ts∧∀x∈v.ts,nzT x=true)∧Rf vs=colM cols:=by
 refine⟨fun v hm=>⟨⟨h.rise v hm,fun x hx=>⟨(h.tm v hm x hx).1,?_⟩,fun x hx=>(h.tm v hm x hx).2.2.2⟩,fun x hx=>(h.tm v hm x hx).2.2.1⟩,funext fun i=>funext fun a=>?_⟩
 ·obtain⟨i,hi,rfl⟩:=List.mem_iff_getElem.1 hm
  exact h.fresh i hi (fun u hu=>by rw[List.take_zero]at hu;cases hu) x hx
 ·show rowQ vs i a=rowQ cols a i
  by_cases hi:i<n
  ·rw[h.q i hi,List.take_zero]
   by_cases ha:a<n
   ·rw[if_pos ha]
   ·rw[if_neg ha]
    unfold rowQ
    rw[List.getElem?_eq_none (by omega)]
    split<;>rfl
  ·have e1:rowQ vs i a=0:=by unfold rowQ;rw[List.getElem?_eq_none (by have:=h.len;omega)];rfl
   rw[e1]
   by_cases ha:a<cols.length
   ·rw[zat ha]
    refine(zan fun p hp e=>?_).symm
    obtain⟨x,hx,rfl⟩:=List.mem_map.1 hp
    have:=(hv _ (List.getElem_mem ha) x hx).2
    have e':x.pl=(i:Int):=e
    omega
   ·unfold rowQ;rw[List.getElem?_eq_none (by omega)];rfl
end

theorem zfJ:Tryz.prog.underlying 166=some (.slice 4):=by kernel_rfl
theorem zhs:(Tryz.prog.info? 4).map (fun i=>(i.zero,i.size,i.bytes))=some (some (.bool false),1,1):=by kernel_rfl
theorem ziz:(Tryz.prog.info? 150).map (fun i=>(i.zero,i.size,i.bytes))=some (some (.agg #[.int .i64 0,.int .i64 0,.bool false,.slice none 0 0,.bool false,.slice none 0 0,.slice none 0 0,.slice none 0 0]),8,128):=by kernel_rfl
theorem zhE (w:World) (L:Nat) (hL:L≤2000):(Instr.makeSlice 166 (.int .i64 (L:Int)) (.int .i64 (L:Int))).run Tryz.prog w=.ok (.slice (some ⟨w.heap.size,0,none⟩) L L) (w.alloc (.cells (madeCells (Value.bool false).cells (L*1)) 4)):=by
 obtain⟨i0,hi0,hz0,hz1,hz2⟩:=info_parts zhs
 have h:=run_makeSlice (P:=Tryz.prog) w 166 4 i0 (.bool false) zfJ hi0 hz0 .i64 .i64 (L:Int) (L:Int) (by omega) (by omega) (by rw[hz1,Int.toNat_natCast];omega) (by rw[hz2];omega) (by omega)
 rw[Int.toNat_natCast,hz1]at h
 exact h
section
variable {w W:World} {ls:List Ow} {old new:World→Prop}
theorem GL.adz (h:GL w ls old new W) (e:TypeId) (z:Array Value) (sz L:Nat) (hz:z.size=sz) (hs:0<sz) (hl:L≤2000):∃W' g,W.alloc (.cells (madeCells z (L*sz)) e)=W'∧W.heap.size=g∧Hid (GL w (⟨e,sz,.slice (some ⟨g,0,none⟩) L L,List.replicate L z⟩::ls) old new W'):=⟨_,_,rfl,rfl,znd (h.addz hz hs L (by simp[maxLen];omega))⟩
theorem GL.reads:∀{vs:List VeV} {ls:List Ow} {new:World→Prop},GL w (vs.map zbu++ls) old new W→GL w ls old (fun V=>(∀v∈vs,El V 5 v.A (v.ts.map tecells))∧new V) W
 |[],_,_,h=>h.imp (fun _ h=>h) (fun _ h=>⟨by simp,h⟩)
 |v::vs,ls,new,h=>(GL.reads (vs:=vs) (GL.read h)).imp (fun _ h=>h) (fun V h=>⟨fun u hu=>by
   rcases List.mem_cons.1 hu with rfl|hu
   ·exact h.2.1
   ·exact h.1 u hu,h.2.2⟩)
theorem zfH (s:SpV):∀u∈(zaL s).toList,u.oneCell'=true:=fun u hu=>by
 simp[zaL]at hu
 rcases hu with rfl|rfl|rfl|rfl|rfl|rfl|rfl|rfl<;>rfl
end
theorem GL.appS {w W:World} {ls:List Ow} {old new:World→Prop} {k g:Nat} {A:Option Addr} {c:Nat} {ss:List SpV} (h:GL w ls old new W) (hk:ls[k]?=some ⟨150,8,.slice A ss.length c,ss.map zaL⟩) (s:SpV) (hd:Blk W g 150 (zaL s)) (hl:ss.length≤1000):
 ∃A' c' w',(Builtin.append_ #[144,144] 144 #[.slice A ss.length c,.slice (some ⟨g,0,none⟩) 1 1]).run Tryz.prog W=.ok (.slice A' (ss++[s]).length c') w'∧GL w (ls.set k ⟨150,8,.slice A' (ss++[s]).length c',(ss++[s]).map zaL⟩) old new w':=by
 have hel:El W 8 (some ⟨g,0,none⟩) [zaL s]:=by
  refine⟨Sl.some_ _ _ _,fun i hi=>?_,fun i hi j hj=>?_⟩
  ·have:i=0:=by simpa using hi
   subst this;rfl
  ·have:i=0:=by simpa using hi
   subst this
   rw[za6,Nat.zero_mul,Nat.zero_add,Nat.zero_add]
   exact hd.cell j
 obtain⟨v',w',hrun,hG,-,A',n',c',hv⟩:=GL.appAt (P:=Tryz.prog) (c:=1) zfX ziz rfl (by decide) h hk hel (zfH s) (by simp;omega) (by simp[maxLen];omega)
 obtain⟨A2,c2,hv2,-⟩:=(hG.own _ (List.mem_of_getElem? (zaQ _ _ _ _ hk))).form
 have hv':v'=.slice A2 (ss++[s]).length c2:=by rw[show v'=_ from hv2];simp
 subst hv'
 refine⟨A2,c2,w',hrun,?_⟩
 have e:(ss++[s]).map zaL=ss.map zaL++[zaL s]:=by simp
 rw[e];exact hG
def zlM (n n0:Nat) (cols:List VeV) (w:World) (e:Ending) (w':World):Prop:=
 ∃(ok:Bool) (gf:Nat) (As:Option Addr) (cs:Nat) (ss:List SpV),e=.returned (.tuple #[if ok then .pointer (some ⟨gf,0,none⟩) else .pointer none,.int .i64 (if ok then 0 else 12)])∧Below w.heap.size w w'∧
  (ok=true→Fac n (colM cols) (·<n) (ss.map SpV.toP)∧LuP n (nlF n0 (n-1)) (2*nlF n0 (n-1)+1) ss∧Rests w' (w.heap.size≤·) (LuD gf n As cs ss))∧(ok=false→Sing n (colM cols))
theorem zkS {α:Type} (a b c d:α):[c,d,a,b].Perm [a,b,c,d]:=(List.perm_append_comm (l₁:=[c,d]) (l₂:=[a,b]))
theorem zmk {α:Type} (a b c d:α):[d,c,a,b].Perm [a,b,c,d]:=((List.Perm.swap c d [a,b]).trans (zkS a b c d))
set_option maxRecDepth 100000 in
theorem zjl {k n:Nat} (h:k<n):(List.replicate k true++List.replicate (n-k) false).set k true=List.replicate (k+1) true++List.replicate (n-(k+1)) false:=by
 rw[show n-k=(n-(k+1))+1 from by omega,List.replicate_succ,List.set_append_right _ _ (by simp),List.length_replicate,Nat.sub_self,List.set_cons_zero,List.replicate_succ']
 simp
set_option maxRecDepth 100000 in
theorem zhr (w:World) (n n0:Nat) (hn:n≤17) (h1n:1≤n0) (hnl:nlF n0 n≤100000000) (Cp:Option Addr) (cc:Nat) (cols:List VeV) (h:LsR 1 za3 (veD n0) Cp cols w) (hcl:cols.length=n) (hR:∀v∈cols,RightP v.ts (n:Int) w) (hT:Tz w):Calls Tryz.prog 107 #[.slice Cp n cc,.int .i64 (n:Int)] w (zlM n n0 cols w):=by
 have slC:=h.sl
 have szc:=zaw
 have szb:=zdi
 have szv:=zai
 have hadd:=zaa
 have HR0:=znd hR
 have Hcl:=znd hcl
 rw[hcl]at slC
 have hn00:n0≤100000000:=Nat.le_trans (zcF n0 (Nat.zero_le n)) hnl
 have hn0:¬(n:Int)<0:=by omega
 have hn1:¬(256:Int)<(n:Int):=by omega
 have HE:=znd (Env.start ((h.old zeE).and hT.old))
 have HVW:=znd (show∀v∈cols,LsR 5 tecells (teD n0) v.A v.ts w from h.ok)
 have HLN:=znd (show∀v∈cols,v.ts.length≤17 from fun v hv=>by have h9:=VecP.len (m:=n) (nl:=n0) (ts:=v.ts) ⟨(hR v hv).rise,(hR v hv).rng,fun t ht=>RatD.sz ((h.ok v hv).ok t ht) h1n⟩;omega)
 clear h hcl hT hR
 go_enter Tryz.func107,Tryz.ntmps107
 go_wp2_with fail
 go_loopw [31] (fun iv wr=>∃(i:Nat),iv=.int .i64 (i:Int)∧i≤n∧Hid (Env w [] (fun V=>LsR 1 za3 (veD n0) Cp cols V∧Tz V) (fun _=>True) wr)) (fun iv _=>n-(intOf iv).toNat)
 case atStart=>exact⟨0,rfl,Nat.zero_le _,HE⟩
 case round=>
  clear HE
  obtain⟨i,rfl,hi,HE⟩:=hrel
  by_cases hlt:i<n
  ·have hic:i<cols.length:=by rw[Hcl.out];exact hlt
   have cv:=HE.out.o.1.vc i hic
   obtain⟨v,hv⟩:∃v,v=cols[i]:=⟨_,rfl⟩
   have Hm:=znd (show v∈cols by rw[hv];exact List.getElem_mem hic)
   rw[←hv]at cv
   clear hv
   go_wp2_with fail
   refine(zdx (n:=n0) (w:=w) (by omega) h1n (HVW.out v Hm.out) (by have:=HLN.out v Hm.out;omega) HE.out.bel HE.out.o.2 true ⟨fun _=>HR0.out v Hm.out,fun _=>rfl⟩).mono ?_
   rintro e w1 ⟨rfl,hb⟩
   replace HE:=znd (Env.call HE.out hb)
   clear hb cv
   go_wp2_with fail
   go_roundw
   case rel=>exact⟨i+1,by go_num,by omega,HE⟩
   case measure=>(simp[intOf]<;>omega)
  ·obtain rfl:n=i:=by omega
   have hnu:¬(n:Int)<(n:Int):=by omega
   have HG:=znd (show GL w [] (fun V=>LsR 1 za3 (veD n0) Cp cols V∧Tz V) (fun _=>True) wr from(GL.start HE.out).imp (fun _ h=>h.2) (fun _ h=>h))
   clear HE
   go_wp2_with fail
   rw[ze3 _ n (by omega)]
   obtain⟨W1,gR,hW1,hgR,HG1⟩:=HG.out.adz 25 (Value.slice none 0 0).cells 1 n rfl (by decide) (by omega)
   rw[hW1,hgR]
   clear hW1 hgR HG
   obtain⟨R,hR⟩:∃R:Option Addr,R=some ⟨gR,0,none⟩:=⟨_,rfl⟩
   rw[←hR]at HG1⊢
   have HR:=znd hR
   have slR:Sl R n:=by rw[hR];exact Sl.some_ _ _ _
   clear hR
   go_wp2_with fail
   rw[zhE _ n (by omega)]
   obtain⟨W2,gO,hW2,hgO,HG2⟩:=HG1.out.adz 4 (Value.bool false).cells 1 n rfl (by decide) (by omega)
   rw[hW2,hgO]
   clear hW2 hgO HG1
   obtain⟨O,hO⟩:∃O:Option Addr,O=some ⟨gO,0,none⟩:=⟨_,rfl⟩
   rw[←hO]at HG2⊢
   have HO:=znd hO
   have slO:Sl O n:=by rw[hO];exact Sl.some_ _ _ _
   clear hO
   have HG:=znd (show GL w (⟨4,1,.slice O n n,List.map bcl (List.replicate n false)⟩::⟨25,1,.slice R n n,List.map za3 (List.replicate n ⟨none,0,[]⟩)⟩::List.map zbu (List.replicate n ⟨none,0,[]⟩)) (fun V=>LsR 1 za3 (veD n0) Cp cols V∧Tz V) (fun V=>(∀v∈(List.replicate n (⟨none,0,[]⟩:VeV)),∀x∈v.ts,teN x V)) W2 from by
    have h9:=(HG2.out.nils 65 5 n).imp (φ:=fun V=>LsR 1 za3 (veD n0) Cp cols V∧Tz V) (ψ:=fun V=>(∀v∈(List.replicate n (⟨none,0,[]⟩:VeV)),∀x∈v.ts,teN x V)) (fun _ h=>h) (fun V _ v hv x hx=>by rw[List.eq_of_mem_replicate hv]at hx;exact absurd hx List.not_mem_nil)
    rw[List.map_replicate,List.map_replicate,List.map_replicate]
    exact h9)
   clear HG2
   go_wp2_with fail
   go_loopw [46] (fun iv wr=>∃(k:Nat) (vs:List VeV),iv=.int .i64 (k:Int)∧k≤n∧Hid (∀us,TrI n n0 cols k us 0 vs)∧Hid (GL w (⟨4,1,.slice O n n,List.map bcl (List.replicate k true++List.replicate (n-k) false)⟩::⟨25,1,.slice R n n,List.map za3 vs⟩::List.map zbu vs) (fun V=>LsR 1 za3 (veD n0) Cp cols V∧Tz V) (fun V=>(∀v∈vs,∀x∈v.ts,teN x V)) wr)) (fun iv _=>n-(intOf iv).toNat)
   case atStart=>exact⟨0,_,rfl,Nat.zero_le _,znd (fun us=>TrI.start us),HG⟩
   case round=>
    clear HG
    obtain⟨k,vs,rfl,hk,HI,HG⟩:=hrel
    by_cases hlt:k<n
    ·have hkc:k<cols.length:=by rw[Hcl.out];exact hlt
     have cv:=HG.out.o.1.vc k hkc
     obtain⟨v,hv⟩:∃v,v=cols[k]:=⟨_,rfl⟩
     have Hm:=znd (show v∈cols by rw[hv];exact List.getElem_mem hkc)
     have HVQ:=znd (show∀a,rowQ cols k a=getQ (v.ts.map plq) a from fun a=>by rw[hv];exact zat hkc a)
     rw[←hv]at cv
     clear hv
     have hkb:k<(List.replicate k true++List.replicate (n-k) false).length:=by rw[List.length_append,List.length_replicate,List.length_replicate];omega
     have hk0:(0:Int)≤(k:Int):=by omega
     have hk1:(k:Int)<(n:Int):=by omega
     have co:=HG.out.c1 (f:=Value.bool) (k:=0) (l:=List.replicate k true++List.replicate (n-k) false) rfl hkb
     have fo:=HG.out.free HO.out (k:=0) rfl k
     go_upto_region 15 with fail
     have HG1:=znd (show GL w (⟨4,1,.slice O n n,List.map bcl (List.replicate (k+1) true++List.replicate (n-(k+1)) false)⟩::⟨25,1,.slice R n n,List.map za3 vs⟩::List.map zbu vs) (fun V=>LsR 1 za3 (veD n0) Cp cols V∧Tz V) (fun V=>(∀v∈vs,∀x∈v.ts,teN x V)) _ from by
      have h9:=HG.out.p1 (f:=Value.bool) HO.out (k:=0) (l:=List.replicate k true++List.replicate (n-k) false) rfl hkb true
      rw[zjl hlt]at h9
      exact h9)
     clear HG co fo cv hkb
     have HG:=HG1
     clear HG1
     generalize World.setCell _ _ _=Wz at HG⊢
     go_wp2_with fail
     refine(zbe _ n0 (by omega) h1n v.A v.c v.ts (HG.out.o.1.ok v Hm.out) (by have:=HLN.out v Hm.out;omega) (HR0.out v Hm.out).rise HG.out.o.2).mono ?_
     rintro e w1 ⟨A2,c2,us,rfl,-,hm2,hk9,hb9⟩
     have HU:=znd (show us.map plq=v.ts.map plq from by rw[hm2];exact List.filter_eq_self.2 fun p hp=>by obtain⟨t,ht,rfl⟩:=List.mem_map.1 hp;exact(HR0.out v Hm.out).nz t ht)
     replace HG:=znd (HG.out.call hk9 hb9)
     clear hm2 hk9 hb9
     have HUr:=znd (show Rise us from zc9 (by rw[HU.out];exact(List.pairwise_map (f:=plq) (R:=fun p q:Int×Rat=>p.1<q.1)).2 (HR0.out v Hm.out).rise))
     have HUP:=znd (show∀u∈us,(0≤u.pl∧u.pl<(n:Int))∧nzT u=true∧Sz u.q n0 from fun u hu=>by
      have h1:=List.mem_map_of_mem (f:=plq) hu
      rw[HU.out]at h1
      obtain⟨t,ht,e9⟩:=List.mem_map.1 h1
      have e1:t.pl=u.pl:=congrArg Prod.fst e9
      have e2:t.q=u.q:=congrArg Prod.snd e9
      unfold nzT
      rw[←e1,←e2];exact⟨(HR0.out v Hm.out).rng t ht,(HR0.out v Hm.out).nz t ht,RatD.sz ((HVW.out v Hm.out).ok t ht) h1n⟩)
     have sl2:Sl A2 us.length:=HG.out.n.1.sl
     obtain⟨T,hT⟩:∃T,T=us.length:=⟨_,rfl⟩
     have HT:=znd hT
     have hT9:T≤17:=by have h9:=congrArg List.length HU.out;rw[List.length_map,List.length_map]at h9;have:=HLN.out v Hm.out;omega
     rw[←hT]at sl2⊢
     clear hT
     go_wp2_with fail
     go_loopw [57] (fun iv wr=>∃(t:Nat) (vs:List VeV),iv=.int .i64 (t:Int)∧t≤T∧Hid (TrI n n0 cols k us t vs)∧Hid (GL w (⟨4,1,.slice O n n,List.map bcl (List.replicate (k+1) true++List.replicate (n-(k+1)) false)⟩::⟨25,1,.slice R n n,List.map za3 vs⟩::List.map zbu vs) (fun V=>LsR 1 za3 (veD n0) Cp cols V∧Tz V) (fun V=>LsR 5 tecells teN A2 us V∧(∀v∈vs,∀x∈v.ts,teN x V)) wr)) (fun iv _=>T-(intOf iv).toNat)
     case atStart=>exact⟨0,vs,rfl,Nat.zero_le _,znd (HI.out us),HG⟩
     case round=>
      clear HG HI
      obtain⟨t,vs,rfl,ht,HI,HG⟩:=hrel
      by_cases htl:t<T
      ·have htu:t<us.length:=by rw[←HT.out];exact htl
       have c0:=HG.out.n.1.tc t htu
       have hp2:=HUP.out _ (List.getElem_mem htu)
       have HNX:=znd (fun(p:Nat) (hp:us[t].pl=(p:Int)) (hpn:p<vs.length)=>HI.out.term htu HUr.out hp hpn hp2.2.1 hp2.2.2)
       have HTE:=znd (show∀V,LsR 5 tecells teN A2 us V→teN us[t] V from fun V h=>h.ok _ (List.getElem_mem htu))
       obtain⟨x,hx⟩:∃x,x=us[t]:=⟨_,rfl⟩
       rw[←hx]at c0 HNX HTE hp2
       clear hx htu
       obtain⟨tp,tr,tq⟩:=x
       obtain⟨p,rfl⟩:∃p:Nat,tp=(p:Int):=⟨tp.toNat,by have h9:=hp2.1.1;simp only at h9;omega⟩
       have hpn:p<vs.length:=by have h9:=hp2.1.2;simp only at h9;rw[HI.out.len];omega
       have hp0:(0:Int)≤(p:Int):=by omega
       have hp1:(p:Int)<(n:Int):=by have h9:=hp2.1.2;simp only at h9;exact h9
       clear hp2
       have HLV:=znd (show((vs[p]).ts).length≤1000000 from by have h9:=(HI.out.vec _ (List.getElem_mem hpn)).len;omega)
       have HN2:=znd (HNX.out p rfl hpn)
       clear HNX
       obtain⟨v1,hv1⟩:∃v1,v1=vs[p]:=⟨_,rfl⟩
       have Hv1:=znd hv1
       rw[←hv1]at HLV HN2
       clear hv1
       have HVC:=znd (show∀V {nw:World→Prop},GL w (⟨4,1,.slice O n n,List.map bcl (List.replicate (k+1) true++List.replicate (n-(k+1)) false)⟩::⟨25,1,.slice R n n,List.map za3 vs⟩::List.map zbu vs) (fun V=>LsR 1 za3 (veD n0) Cp cols V∧Tz V) nw V→V.cell? (adr R p)=some (.slice v1.A v1.ts.length v1.c)from fun V _ h=>by rw[Hv1.out];exact h.vc (k:=1) rfl hpn)
       go_upto_region 18 with fail
       obtain⟨W5,gt,hW5,hgt,HG2⟩:=HG.out.al 65 #[.int .i64 (p:Int),.bool tr.num.neg,.slice tr.num.A tr.num.k tr.num.c,.bool tr.den.neg,.slice tr.den.A tr.den.k tr.den.c]
       rw[hW5,hgt]
       clear hW5 hgt c0 HG
       have HG:=HG2
       clear HG2
       refine wp_region_noPanic ?_
       refine zab 15 (fun V=>CB gt #[.int .i64 (p:Int),.bool tr.num.neg,.slice tr.num.A tr.num.k tr.num.c,.bool tr.den.neg,.slice tr.den.A tr.den.k tr.den.c] V∧V.cell? (adr R p)=some (.slice v1.A v1.ts.length v1.c)) (by kernel_rfl) (by with_reducible first|exact⟨Blk.cb HG.out.n.1,HVC.out _ HG.out⟩|exact⟨Blk.cb HG.out.drew.n.1,HVC.out _ HG.out.drew⟩|exact⟨Blk.cb HG.out.n.2.1,HVC.out _ HG.out⟩|exact⟨Blk.cb HG.out.drew.n.2.1,HVC.out _ HG.out.drew⟩) (fun hHeld=>?_)
       replace HG:=znd HG.out.drew
       refine gTa 0 61 hHeld ?_
       refine gTa 1 62 hHeld ?_
       refine gTa 2 63 hHeld ?_
       refine gTa 3 64 hHeld ?_
       refine gTa 4 65 hHeld ?_
       refine gTa 5 66 hHeld ?_
       refine gTa 6 67 hHeld ?_
       refine gTa 7 68 hHeld ?_
       refine gTa 8 69 hHeld ?_
       refine gTa 9 70 hHeld ?_
       refine gTa 10 71 hHeld ?_
       refine gTa 11 72 hHeld ?_
       generalize W5.drew=Wd at HG hHeld⊢
       refine gC 12 rfl (by kernel_rfl) (by rfl) (fun K hK=>?_)
       clear hHeld
       simp only[q1,q2,q3]
       go_simp
       (try(go_wp2_with fail))
       obtain⟨W4,gb,hW4,hgb,HG2⟩:=HG.out.al 65 #[.int .i64 (k:Int),.bool tr.num.neg,.slice tr.num.A tr.num.k tr.num.c,.bool tr.den.neg,.slice tr.den.A tr.den.k tr.den.c]
       rw[hW4,hgb]
       clear hW4 hgb HG
       have HG:=HG2
       clear HG2
       (try(go_wp2_with fail))
       refine hK.out _ _ (by with_reducible first|exact⟨Blk.cb HG.out.n.1,HVC.out _ HG.out⟩|exact⟨Blk.cb HG.out.drew.n.1,HVC.out _ HG.out.drew⟩|exact⟨Blk.cb HG.out.n.2.1,HVC.out _ HG.out⟩|exact⟨Blk.cb HG.out.drew.n.2.1,HVC.out _ HG.out.drew⟩) (fun hHeld=>?_)
       clear hK K
       try simp only[p1,p2,p3,p4]
       obtain⟨A9,c9,W6,hrun,HG2⟩:=HG.out.appV (k:=p+2) (v:=v1) (show(List.map zbu vs)[p]?=some (zbu v1)from by rw[List.getElem?_map,List.getElem?_eq_getElem hpn,←Hv1.out];rfl) ⟨(k:Int),tr,tq⟩ HG.out.n.1 HLV.out
       refine gC 13 rfl (by kernel_rfl) (by rfl) (fun K hK=>?_)
       clear hHeld
       simp only[q1,q2,q3]
       refine zdD (.tmp 68) (.tmp 73) 25 _ _ _ rfl rfl rfl hrun ?_
       clear hrun
       have HVC2:=znd (show W6.cell? (adr R p)=some (.slice v1.A v1.ts.length v1.c)from by rw[Hv1.out];exact HG2.vc (k:=1) rfl hpn)
       replace HG:=znd HG2
       clear HG2
       refine hK.out _ _ ⟨Blk.cb HG.out.n.2.1,HVC2.out⟩ (fun hHeld=>?_)
       clear hK K
       try simp only[p1,p2,p3,p4]
       refine gTa 14 75 hHeld ?_
       have cc:=HVC2.out
       have fc:=HG.out.free HR.out (k:=1) rfl p
       refine gL rfl (by kernel_rfl) (by kernel_rfl) (by rfl) (fun K hK=>?_)
       clear hHeld
       simp only[q1,q2,q3]
       go_simp
       (try(go_wp2_with fail))
       refine hK.out _ _ ?_
       clear hK K
       try simp only[p1,p2,p3,p4]
       refine NoPanic.normal ?_
       clear cc fc HVC2
       replace HG:=znd (HG.out.putV HR.out (k:=1) rfl hpn ⟨A9,c9,v1.ts++[⟨(k:Int),tr,tq⟩]⟩)
       have HG3:=znd (show GL w (⟨4,1,.slice O n n,List.map bcl (List.replicate (k+1) true++List.replicate (n-(k+1)) false)⟩::⟨25,1,.slice R n n,List.map za3 (vs.set p ⟨A9,c9,v1.ts++[⟨(k:Int),tr,tq⟩]⟩)⟩::List.map zbu (vs.set p ⟨A9,c9,v1.ts++[⟨(k:Int),tr,tq⟩]⟩)) (fun V=>LsR 1 za3 (veD n0) Cp cols V∧Tz V) (fun V=>LsR 5 tecells teN A2 us V∧(∀v∈(vs.set p ⟨A9,c9,v1.ts++[⟨(k:Int),tr,tq⟩]⟩),∀x∈v.ts,teN x V)) _ from by
        have hg:=HG.out.imp (φ:=fun V=>LsR 1 za3 (veD n0) Cp cols V∧Tz V) (ψ:=fun V=>LsR 5 tecells teN A2 us V∧(∀v∈(vs.set p ⟨A9,c9,v1.ts++[⟨(k:Int),tr,tq⟩]⟩),∀x∈v.ts,teN x V)) (fun _ h=>h) (fun V h=>⟨h.2.2.1,zb2 (P:=fun(v:VeV)=>∀x∈v.ts,teN x V) (x:=⟨A9,c9,v1.ts++[⟨(k:Int),tr,tq⟩]⟩) h.2.2.2 (fun x hx=>(List.mem_append.1 hx).elim (fun hx=>h.2.2.2 v1 (by rw[Hv1.out];exact List.getElem_mem hpn) x hx) (fun hx=>by rw[List.mem_singleton.1 hx];exact HTE.out V h.2.2.1))⟩)
        have hln:List.length (v1.ts++[⟨(k:Int),tr,tq⟩])=v1.ts.length+1:=by simp
        rw[List.map_set (f:=zbu)]
        dsimp only at hg
        rw[hln]at hg
        exact hg)
       clear HG
       have HG:=HG3
       clear HG3
       generalize World.setCell _ _ _=Wz at HG⊢
       go_wp2_with fail
       go_roundw
       case rel=>exact⟨t+1,vs.set p ⟨A9,c9,v1.ts++[⟨(k:Int),tr,tq⟩]⟩,by go_num,by omega,znd (HN2.out A9 c9),HG⟩
       case measure=>(simp[intOf]<;>omega)
      ·obtain rfl:t=T:=by omega
       have hnu2:¬(t:Int)<(t:Int):=by omega
       go_wp2_with fail
       go_roundw
       case rel=>exact⟨k+1,vs,by go_num,by omega,znd (fun us'=>TrI.next (by have h9:=HI.out;rw[HT.out]at h9;exact h9) (fun i _=>by rw[HU.out,HVQ.out]) us'),znd (HG.out.imp (fun _ h=>h) (fun V h=>h.2))⟩
       case measure=>(simp[intOf]<;>omega)
    ·obtain rfl:n=k:=by omega
     have hnu2:¬(n:Int)<(n:Int):=by omega
     have HTD:=znd (TrI.done (HI.out []) Hcl.out (fun v hv x hx=>(HR0.out v hv).rng x hx))
     have HFI:=znd (FacI.start (n0:=n0) (V0:=colM cols) (HI.out []).len HTD.out.1 HTD.out.2)
     have HG1:=znd (show GL w [⟨25,1,.slice R n n,List.map za3 vs⟩,⟨4,1,.slice O n n,List.map bcl (List.replicate n true)⟩] (fun V=>LsR 1 za3 (veD n0) Cp cols V∧Tz V) (fun V=>∀v∈vs,veN v V) wr from by
      have h9:=HG.out
      rw[Nat.sub_self,List.replicate_zero,List.append_nil]at h9
      exact(GL.reads (vs:=vs) (ls:=[⟨25,1,.slice R n n,List.map za3 vs⟩,⟨4,1,.slice O n n,List.map bcl (List.replicate n true)⟩]) (h9.perm (List.perm_append_comm.trans (List.Perm.swap _ _ _)))).imp (fun _ h=>h) (fun V h v hv=>⟨h.1 v hv,h.2 v hv⟩))
     clear HG
     have HG:=HG1
     clear HG1
     go_upto_region 22 with fail
     obtain⟨W6,gU,hW6,hgL,HG2⟩:=HG.out.alb 146 #[.bool true,.int .i64 (n:Int),.slice none 0 0]
     rw[hW6,hgL]
     clear hW6 hgL
     have HG1:=znd (show GL w [⟨25,1,.slice R n n,List.map za3 vs⟩,⟨4,1,.slice O n n,List.map bcl (List.replicate n true)⟩,⟨150,8,.slice none (List.length ([]:List SpV)) 0,List.map zaL ([]:List SpV)⟩,bow gU 146 3 #[.bool true,.int .i64 (n:Int),.slice none (List.length ([]:List SpV)) 0]] (fun V=>LsR 1 za3 (veD n0) Cp cols V∧Tz V) (fun V=>(∀v∈vs,veN v V)∧(∀y∈([]:List SpV),spN y V)) W6 from((HG2.out.new_ 150 8).perm (zkS _ _ _ _)).imp (fun _ h=>h) (fun V h=>⟨h,by simp⟩))
     clear HG2 HG
     have HG:=HG1
     clear HG1
     go_wp2_with fail
     go_loopw [82] (fun iv wr=>∃(i:Nat) (vs:List VeV) (bl:List Bool) (ss:List SpV) (As:Option Addr) (cs:Nat),iv=.int .i64 (i:Int)∧i≤n∧Hid (FacI n n0 (colM cols) i vs bl ss)∧Hid (GL w [⟨25,1,.slice R n n,List.map za3 vs⟩,⟨4,1,.slice O n n,List.map bcl bl⟩,⟨150,8,.slice As (List.length ss) cs,List.map zaL ss⟩,bow gU 146 3 #[.bool true,.int .i64 (n:Int),.slice As (List.length ss) cs]] (fun V=>LsR 1 za3 (veD n0) Cp cols V∧Tz V) (fun V=>(∀v∈vs,veN v V)∧(∀y∈ss,spN y V)) wr)) (fun iv _=>n-(intOf iv).toNat)
     case atStart=>exact⟨0,vs,_,[],none,0,rfl,Nat.zero_le _,HFI,HG⟩
     case round=>
      clear HG HFI
      obtain⟨i,vs,bl,ss,As,cs,rfl,hi,HFI,HG⟩:=hrel
      by_cases hlt:i<n
      ·have hin:nlF n0 i≤100000000:=Nat.le_trans (zcF n0 hi) hnl
       have hi1n:1≤nlF n0 i:=Nat.le_trans h1n (zcF n0 (Nat.zero_le i))
       go_wp2_with fail
       refine(show Calls Tryz.prog 128 #[.slice R n n,.slice O n n] _ (zin vs bl n _)from by have h9:=zjJ _ R O n n vs bl ⟨((HG.out.own (⟨25,1,.slice R n n,List.map za3 vs⟩) (List.mem_cons_self ..)).el).1,HG.out.n.1⟩ ⟨((HG.out.own (⟨4,1,.slice O n n,List.map bcl bl⟩) (List.mem_cons_of_mem _ (List.mem_cons_self ..))).el).1,fun _ _=>trivial⟩ (HFI.out.bll.trans HFI.out.vl.symm) (by rw[HFI.out.vl];omega) (fun v hv=>⟨by have:=(HFI.out.rows v hv).1.len;omega,by rw[HFI.out.vl];exact(HFI.out.rows v hv).1.pl⟩);rw[HFI.out.vl]at h9;exact h9).mono ?_
       rintro e w1 ⟨z,c,r,B,rfl,HN,hb⟩
       replace HG:=znd (HG.out.skip hb)
       clear hb
       go_upto_region 25 with fail
       obtain⟨W7,g15,hW7,hg15,HG2⟩:=HG.out.al 168 #[.int .i64 z,.int .i64 (c:Int),.int .i64 (r:Int)]
       rw[hW7,hg15]
       clear hW7 hg15 HG
       cases B
       ·go_wp2_with fail
        exact bodyPost_ret (v:=.tuple #[.pointer none,.int .i64 12]) (by simp[results,Tryz.results107,go_sem]) rfl ⟨false,0,none,0,[],rfl,HG2.out.bel,fun h=>absurd h (by decide),fun _=>HFI.out.sing hlt HN.out rfl⟩
       ·have HPV:=znd (HFI.out.pivot HN.out rfl)
        have HG:=znd (show GL w [⟨25,1,.slice R n n,List.map za3 vs⟩,⟨4,1,.slice O n n,List.map bcl bl⟩,⟨150,8,.slice As (List.length ss) cs,List.map zaL ss⟩,bow gU 146 3 #[.bool true,.int .i64 (n:Int),.slice As (List.length ss) cs]] (fun V=>LsR 1 za3 (veD n0) Cp cols V∧Tz V) (fun V=>(∀v∈vs,veN v V)∧(∀y∈ss,spN y V)∧Blk V g15 168 #[.int .i64 z,.int .i64 (c:Int),.int .i64 (r:Int)]) W7 from HG2.out.imp (fun _ h=>h) (fun V h=>⟨h.2.1,h.2.2,h.1⟩))
        clear HG2
        have hrn:r<n:=HPV.out.2.1
        have hcn:c<n:=HPV.out.2.2.1
        have hrb:r<bl.length:=by rw[HFI.out.bll];exact hrn
        have hr0:(0:Int)≤(r:Int):=by omega
        have hr1:(r:Int)<(n:Int):=by omega
        have c15:=Blk.cb HG.out.n.2.2
        have co:=HG.out.c1 (f:=Value.bool) (k:=1) (l:=bl) rfl hrb
        have fo:=HG.out.free HO.out (k:=1) rfl r
        go_upto_region 28 with fail
        clear c15 co fo
        have HG1:=znd (show GL w [⟨25,1,.slice R n n,List.map za3 vs⟩,⟨4,1,.slice O n n,List.map bcl (bl.set r false)⟩,⟨150,8,.slice As (List.length ss) cs,List.map zaL ss⟩,bow gU 146 3 #[.bool true,.int .i64 (n:Int),.slice As (List.length ss) cs]] (fun V=>LsR 1 za3 (veD n0) Cp cols V∧Tz V) (fun V=>(∀v∈vs,veN v V)∧(∀y∈ss,spN y V)∧Blk V g15 168 #[.int .i64 z,.int .i64 (c:Int),.int .i64 (r:Int)]) _ from HG.out.p1 (f:=Value.bool) HO.out (k:=1) (l:=bl) rfl hrb false)
        clear HG
        have HG:=HG1
        clear HG1
        generalize World.setCell _ _ _=Wz at HG⊢
        refine wp_region_noPanic ?_
        refine zab 13 (fun V=>CB gU #[.bool true,.int .i64 (n:Int),.slice As ss.length cs] V∧CB g15 #[.int .i64 z,.int .i64 (c:Int),.int .i64 (r:Int)] V) (by kernel_rfl) (by with_reducible first|exact⟨(HG.out).cb (k:=3) rfl,Blk.cb (HG.out).n.2.2⟩|exact⟨(HG.out.drew).cb (k:=3) rfl,Blk.cb (HG.out.drew).n.2.2⟩|exact⟨(HG.out).cb (k:=3) rfl,Blk.cb (HG.out).n.2.2.2⟩|exact⟨(HG.out.drew).cb (k:=3) rfl,Blk.cb (HG.out.drew).n.2.2.2⟩|exact⟨(HG.out).cb (k:=3) rfl,Blk.cb (HG.out).n.2.2.2.2⟩|exact⟨(HG.out.drew).cb (k:=3) rfl,Blk.cb (HG.out.drew).n.2.2.2.2⟩) (fun hHeld=>?_)
        replace HG:=znd HG.out.drew
        refine gTa 0 96 hHeld ?_
        refine gTa 1 97 hHeld ?_
        refine gTa 2 98 hHeld ?_
        refine gTa 3 99 hHeld ?_
        refine gTa 4 100 hHeld ?_
        refine gTa 5 101 hHeld ?_
        refine gTa 6 102 hHeld ?_
        refine gTa 7 103 hHeld ?_
        refine gC 8 rfl (by kernel_rfl) (by rfl) (fun K hK=>?_)
        clear hHeld
        simp only[q1,q2,q3]
        go_simp
        refine(zeR w _ [⟨150,8,.slice As (List.length ss) cs,List.map zaL ss⟩,bow gU 146 3 #[.bool true,.int .i64 (n:Int),.slice As (List.length ss) cs]] (fun V=>LsR 1 za3 (veD n0) Cp cols V∧Tz V) (fun V=>(∀y∈ss,spN y V)∧Blk V g15 168 #[.int .i64 z,.int .i64 (c:Int),.int .i64 (r:Int)]) n (nlF n0 i) hn hi1n hin R O gR n n HR.out vs (bl.set r false) HFI.out.vl (by rw[List.length_set];exact HFI.out.bll) slO HFI.out.rows HG.out z c r hcn hrn HPV.out.2.2.2 (fun h=>((zcE r r).1 h).2 rfl) (fun _ h=>h.2)).mono ?_
        rintro e wq ⟨s,vs',rfl,HEP,HG3⟩
        clear HG
        have HG:=znd HG3
        clear HG3
        unfold zaL
        (try(go_wp2_with fail))
        refine hK.out _ _ (by with_reducible first|exact⟨(HG.out).cb (k:=3) rfl,Blk.cb (HG.out).n.2.2⟩|exact⟨(HG.out.drew).cb (k:=3) rfl,Blk.cb (HG.out.drew).n.2.2⟩|exact⟨(HG.out).cb (k:=3) rfl,Blk.cb (HG.out).n.2.2.2⟩|exact⟨(HG.out.drew).cb (k:=3) rfl,Blk.cb (HG.out.drew).n.2.2.2⟩|exact⟨(HG.out).cb (k:=3) rfl,Blk.cb (HG.out).n.2.2.2.2⟩|exact⟨(HG.out.drew).cb (k:=3) rfl,Blk.cb (HG.out.drew).n.2.2.2.2⟩) (fun hHeld=>?_)
        clear hK K
        try simp only[p1,p2,p3,p4]
        refine gC 9 rfl (by kernel_rfl) (by rfl) (fun K hK=>?_)
        clear hHeld
        simp only[q1,q2,q3]
        go_simp
        (try(go_wp2_with fail))
        obtain⟨W8,gb,hW8,hgb,HG2⟩:=HG.out.al 150 #[.int .i64 s.row,.int .i64 s.col,.bool s.r.num.neg,.slice s.r.num.A s.r.num.k s.r.num.c,.bool s.r.den.neg,.slice s.r.den.A s.r.den.k s.r.den.c,.slice s.rA s.rest.length s.rc,.slice s.tA s.taken.length s.tc]
        rw[hW8,hgb]
        clear hW8 hgb HG
        have HG:=HG2
        clear HG2
        (try(go_wp2_with fail))
        refine hK.out _ _ (by with_reducible first|exact⟨(HG.out).cb (k:=3) rfl,Blk.cb (HG.out).n.2.2⟩|exact⟨(HG.out.drew).cb (k:=3) rfl,Blk.cb (HG.out.drew).n.2.2⟩|exact⟨(HG.out).cb (k:=3) rfl,Blk.cb (HG.out).n.2.2.2⟩|exact⟨(HG.out.drew).cb (k:=3) rfl,Blk.cb (HG.out.drew).n.2.2.2⟩|exact⟨(HG.out).cb (k:=3) rfl,Blk.cb (HG.out).n.2.2.2.2⟩|exact⟨(HG.out.drew).cb (k:=3) rfl,Blk.cb (HG.out.drew).n.2.2.2.2⟩) (fun hHeld=>?_)
        clear hK K
        try simp only[p1,p2,p3,p4]
        obtain⟨A9,c9,W9,hrun,HG2⟩:=HG.out.appS (k:=2) (ss:=ss) rfl s HG.out.n.1 (by have:=HFI.out.sl;omega)
        refine gC 10 rfl (by kernel_rfl) (by rfl) (fun K hK=>?_)
        clear hHeld
        simp only[q1,q2,q3]
        refine zdD (.tmp 100) (.tmp 105) 144 _ _ _ rfl rfl rfl hrun ?_
        clear hrun
        replace HG:=znd HG2
        clear HG2
        refine hK.out _ _ (by with_reducible first|exact⟨(HG.out).cb (k:=3) rfl,Blk.cb (HG.out).n.2.2⟩|exact⟨(HG.out.drew).cb (k:=3) rfl,Blk.cb (HG.out.drew).n.2.2⟩|exact⟨(HG.out).cb (k:=3) rfl,Blk.cb (HG.out).n.2.2.2⟩|exact⟨(HG.out.drew).cb (k:=3) rfl,Blk.cb (HG.out.drew).n.2.2.2⟩|exact⟨(HG.out).cb (k:=3) rfl,Blk.cb (HG.out).n.2.2.2.2⟩|exact⟨(HG.out.drew).cb (k:=3) rfl,Blk.cb (HG.out.drew).n.2.2.2.2⟩) (fun hHeld=>?_)
        clear hK K
        try simp only[p1,p2,p3,p4]
        refine gC 11 rfl (by kernel_rfl) (by rfl) (fun K hK=>?_)
        clear hHeld
        simp only[q1,q2,q3]
        go_simp
        (try(go_wp2_with fail))
        refine hK.out _ _ (by with_reducible first|exact⟨(HG.out).cb (k:=3) rfl,Blk.cb (HG.out).n.2.2⟩|exact⟨(HG.out.drew).cb (k:=3) rfl,Blk.cb (HG.out.drew).n.2.2⟩|exact⟨(HG.out).cb (k:=3) rfl,Blk.cb (HG.out).n.2.2.2⟩|exact⟨(HG.out.drew).cb (k:=3) rfl,Blk.cb (HG.out.drew).n.2.2.2⟩|exact⟨(HG.out).cb (k:=3) rfl,Blk.cb (HG.out).n.2.2.2.2⟩|exact⟨(HG.out.drew).cb (k:=3) rfl,Blk.cb (HG.out.drew).n.2.2.2.2⟩) (fun hHeld=>?_)
        clear hK K
        try simp only[p1,p2,p3,p4]
        refine gTa 12 108 hHeld ?_
        have cL:=HG.out.cb (k:=3) rfl
        refine gL rfl (by kernel_rfl) (by kernel_rfl) (by rfl) (fun K hK=>?_)
        clear hHeld
        simp only[q1,q2,q3]
        go_simp
        (try(go_wp2_with fail))
        refine hK.out _ _ ?_
        clear hK K
        try simp only[p1,p2,p3,p4]
        refine NoPanic.normal ?_
        clear cL
        have HG2:=znd (show GL w [⟨25,1,.slice R n n,List.map za3 vs'⟩,⟨4,1,.slice O n n,List.map bcl (bl.set r false)⟩,⟨150,8,.slice A9 (List.length (ss++[s])) c9,List.map zaL (ss++[s])⟩,bow gU 146 3 #[.bool true,.int .i64 (n:Int),.slice A9 (List.length (ss++[s])) c9]] (fun V=>LsR 1 za3 (veD n0) Cp cols V∧Tz V) (fun V=>(∀v∈vs',veN v V)∧(∀y∈(ss++[s]),spN y V)) _ from by
         have hln:List.length (ss++[s])=ss.length+1:=by simp
         have h9:=(HG.out.pc (k:=3) rfl (i:=2) (by decide) (.slice A9 (ss.length+1) c9)).imp (φ:=fun V=>LsR 1 za3 (veD n0) Cp cols V∧Tz V) (ψ:=fun V=>(∀v∈vs',veN v V)∧(∀y∈(ss++[s]),spN y V)) (fun _ h=>h) (fun V h=>⟨h.2.2.1,fun x hx=>(List.mem_append.1 hx).elim (fun hx=>h.2.2.2.1 x hx) (fun hx=>by rw[List.mem_singleton.1 hx];exact h.2.1)⟩)
         rw[hln]
         rw[hln]at h9
         exact h9)
        clear HG
        have HG:=HG2
        clear HG2
        go_wp2_with fail
        go_roundw
        case rel=>exact⟨i+1,vs',bl.set r false,(ss++[s]),A9,c9,by go_num,by omega,znd (HFI.out.step HPV.out.1 hrn hcn HPV.out.2.2.2 HEP.out),HG⟩
        case measure=>(simp[intOf]<;>omega)
      ·obtain rfl:n=i:=by omega
       have hnu3:¬(n:Int)<(n:Int):=by omega
       have HD:=znd (FacI.done HFI.out)
       have cL:=HG.out.cb (k:=3) rfl
       go_wp2_with fail
       have HGE:=znd (GL.read (GL.drop_ (HG.out.perm (zmk _ _ _ _))))
       exact bodyPost_ret (v:=.tuple #[.pointer (some ⟨gU,0,none⟩),.int .i64 0]) (by simp[results,Tryz.results107,go_sem]) rfl ⟨true,gU,As,cs,ss,rfl,HG.out.bel,fun _=>⟨HD.out.1,HD.out.2,(HGE.out.rsn.mono fun _ h=>h.1).imp fun V h=>⟨h.2.1,⟨h.1,h.2.2.2⟩⟩⟩,fun h=>absurd h (by decide)⟩
end Go.Proofs.YtfdmajmhmligpaaGreatDoor
