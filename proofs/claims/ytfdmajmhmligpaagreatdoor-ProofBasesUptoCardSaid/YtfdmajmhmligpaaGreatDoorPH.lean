/-
 The plain law of program.Form: what its lists hold as they are written. program.Form.
-/
import Derived.Test.YtfdmajmhmligpaaGreatDoorPF
import Derived.Test.YtfdmajmhmligpaaGreatDoorPC
namespace Go.Proofs.YtfdmajmhmligpaaGreatDoor
set_option maxHeartbeats 20000000
open Go.RowKit

theorem zbT {α:Type} [Inhabited α] {l:List α} {j a:Nat} {x:α} (h:j<l.length):(l.set j x)[a]! =if a=j then x else l[a]!:=by
 by_cases e:a=j
 ·subst e;rw[if_pos rfl,zb0 (by simpa using h),List.getElem_set_self]
 ·rw[if_neg e]
  by_cases ha:a<l.length
  ·rw[zb0 ha,zb0 (by simpa using ha),List.getElem_set_ne (Ne.symm e)]
  ·rw[getElem!_neg (l.set j x) a (by simpa using ha),getElem!_neg l a ha]
theorem zjh {α:Type} [Inhabited α] {x:α} {L a:Nat} (h:a<L):(List.replicate L x)[a]! =x:=by rw[zb0 (by simpa using h),List.getElem_replicate]
theorem zcu {α:Type} {P:α→Prop} {l:List α} {i:Nat} {x:α} (h:∀q∈l,P q) (hx:P x):∀q∈l.set i x,P q:=fun q hq=>(List.mem_or_eq_of_mem_set hq).elim (h q) (fun e=>e▸hx)
def rowX (ts:List TeV) (j i:Nat):List (Int×Rat):=ts.filterMap fun t=>if t.pl=(j:Int) then some ((i:Int),t.q) else none
def colQ (p:PrV) (j:Nat):Nat→List (Int×Rat)
 |0=>[]
 |i+1=>colQ p j i++rowX (p.rows[i]!).ts j i
theorem ziv {ts:List TeV} {k:Nat} (j i:Nat) (hk:k<ts.length):rowX (ts.take (k+1)) j i=rowX (ts.take k) j i++(if ts[k].pl=(j:Int) then[((i:Int),ts[k].q)] else[]):=by
 unfold rowX
 rw[List.take_succ_eq_append_getElem hk,List.filterMap_append]
 congr 1
 by_cases e:ts[k].pl=(j:Int)
 ·rw[if_pos e];simp[e]
 ·rw[if_neg e];simp[e]
theorem zfx (t:TeV) (ts:List TeV) (j i:Nat):rowX (t::ts) j i=(if t.pl=(j:Int) then[((i:Int),t.q)] else[])++rowX ts j i:=by
 unfold rowX
 by_cases e:t.pl=(j:Int)
 ·simp[e]
 ·simp[e]
theorem zcQ {ts:List TeV} {j i:Nat} {p:Int×Rat} (h:p∈rowX ts j i):p.1=(i:Int)∧∃t∈ts,t.q=p.2:=by
 obtain⟨t,ht,e⟩:=List.mem_filterMap.1 h
 by_cases e2:t.pl=(j:Int)
 ·rw[if_pos e2]at e
  injection e with e
  subst e
  exact⟨rfl,t,ht,rfl⟩
 ·rw[if_neg e2]at e;cases e
theorem zjj {ts:List TeV} {j i:Nat} (h:∀t∈ts,t.pl≠(j:Int)):rowX ts j i=[]:=by
 apply List.eq_nil_iff_forall_not_mem.2
 intro p hp
 obtain⟨t,ht,e⟩:=List.mem_filterMap.1 hp
 rw[if_neg (h t ht)]at e;cases e
theorem zgQ:∀(ts:List TeV) (j i:Nat),getQ (rowX ts j i) (i:Int)=getQ (ts.map plq) (j:Int)
 |[],_,_=>rfl
 |t::ts,j,i=>by
  rw[zfx,zaB,zgQ ts j i,List.map_cons,zaO]
  show _=(if t.pl=(j:Int) then t.q else 0)+_
  by_cases e:t.pl=(j:Int)
  ·rw[if_pos e,if_pos e,zaY,if_pos rfl]
  ·rw[if_neg e,if_neg e];rfl
theorem ze2:∀{ts:List TeV} {j i:Nat},Rise ts→(rowX ts j i).Pairwise fun p q=>p.1<q.1
 |[],_,_,_=>List.Pairwise.nil
 |t::ts,j,i,h=>by
  have h':=List.pairwise_cons.1 h
  rw[zfx]
  by_cases e:t.pl=(j:Int)
  ·rw[if_pos e,zjj (ts:=ts) fun u hu=>by have:=h'.1 u hu;omega]
   exact List.pairwise_singleton _ _
  ·rw[if_neg e]
   exact ze2 h'.2
theorem zdt {p:PrV} {j:Nat}:∀{i:Nat} {x:Int×Rat},x∈colQ p j i→∃a,a<i∧x.1=(a:Int)∧∃t∈(p.rows[a]!).ts,t.q=x.2
 |0,_,h=>by simp[colQ]at h
 |i+1,x,h=>by
  rcases List.mem_append.1 h with h|h
  ·obtain⟨a,h1,h2⟩:=zdt h
   exact⟨a,by omega,h2⟩
  ·obtain⟨h1,h2⟩:=zcQ h
   exact⟨i,by omega,h1,h2⟩
theorem zf8 {p:PrV} {j:Nat}:∀{i:Nat},(∀a,a<i→Rise (p.rows[a]!).ts)→(colQ p j i).Pairwise fun x y=>x.1<y.1
 |0,_=>List.Pairwise.nil
 |i+1,h=>by
  refine List.pairwise_append.2 ⟨zf8 fun a ha=>h a (by omega),ze2 (h i (by omega)),fun x hx y hy=>?_⟩
  obtain⟨a,h1,h2,-⟩:=zdt hx
  have:=(zcQ hy).1
  omega
theorem zgq {p:PrV} {j:Nat}:∀{i a:Nat},a<i→getQ (colQ p j i) (a:Int)=getQ ((p.rows[a]!).ts.map plq) (j:Int)
 |0,_,h=>absurd h (Nat.not_lt_zero _)
 |i+1,a,h=>by
  rw[colQ,zaB]
  by_cases e:a=i
  ·subst e
   rw[zgQ,zan fun x hx=>by
    obtain⟨b,h1,h2,-⟩:=zdt hx
    omega,Rat.zero_add]
  ·rw[zgq (i:=i) (by omega),zan (Y:=rowX _ _ _) fun x hx=>by
    have:=(zcQ hx).1
    omega,Rat.add_zero]
structure F1 (p:PrV) (L j:Nat) (los his:List (RV×Rat)):Prop where
 nl:los.length=L
 nh:his.length=L
 lo:∀a,a<j→(los[a]!).2=(p.vars[a]!).lo.2
 hi:∀a,a<j→(his[a]!).2=(p.vars[a]!).hi.2
theorem F1.next {p:PrV} {L j:Nat} {los his:List (RV×Rat)} (h:F1 p L j los his) (hj:j<L) (r s:RV):F1 p L (j+1) (los.set j (r,(p.vars[j]!).lo.2)) (his.set j (s,(p.vars[j]!).hi.2)):=by
 refine⟨by rw[List.length_set];exact h.nl,by rw[List.length_set];exact h.nh,fun a ha=>?_,fun a ha=>?_⟩
 ·rw[zbT (by rw[h.nl];exact hj)]
  by_cases e:a=j
  ·rw[if_pos e,e]
  ·rw[if_neg e];exact h.lo a (by omega)
 ·rw[zbT (by rw[h.nh];exact hj)]
  by_cases e:a=j
  ·rw[if_pos e,e]
  ·rw[if_neg e];exact h.hi a (by omega)
structure F2 (p:PrV) (L k:Nat) (ks:List (RV×Rat)):Prop where
 nk:ks.length=L
 v:∀a,a<L→(ks[a]!).2=getQ ((p.cost.take k).map plq) (a:Int)
theorem F2.start (p:PrV) (L:Nat):F2 p L 0 (List.replicate L (zeroR,0)):=⟨by simp,fun a ha=>by rw[zjh ha];rfl⟩
theorem F2.next {p:PrV} {L k:Nat} {ks:List (RV×Rat)} (h:F2 p L k ks) (hk:k<p.cost.length) (hr:Rise p.cost) {pl:Nat} (hpl:p.cost[k].pl=(pl:Int)) (hl:pl<L) (r:RV):F2 p L (k+1) (ks.set pl (r,p.cost[k].q)):=by
 refine⟨by rw[List.length_set];exact h.nk,fun a ha=>?_⟩
 rw[zbT (by rw[h.nk];exact hl),List.take_succ_eq_append_getElem hk,List.map_append,zaB,List.map_singleton,zaY]
 show _=_+if p.cost[k].pl=(a:Int) then p.cost[k].q else 0
 by_cases e:a=pl
 ·subst e
  rw[if_pos rfl,if_pos hpl,zan fun x hx=>by
   obtain⟨t,ht,rfl⟩:=List.mem_map.1 hx
   obtain⟨i,hi,rfl⟩:=List.mem_iff_getElem.1 ht
   have hi':i<k:=by simp at hi;omega
   have:=hr.at_ hi' hk
   rw[List.getElem_take]
   show p.cost[i].pl≠(a:Int)
   omega,Rat.zero_add]
 ·rw[if_neg e,if_neg (by omega),Rat.add_zero]
  exact h.v a ha
structure F3 (p:PrV) (L i:Nat) (cs:List VeV) (los his bs:List (RV×Rat)):Prop where
 f1:F1 p L p.vars.length los his
 nc:cs.length=L
 nb:bs.length=p.rows.length
 los:∀a,a<i→(los[p.vars.length+a]!).2=zb7 p.vars p.rows[a]!
 his:∀a,a<i→(his[p.vars.length+a]!).2=zb9 p.vars p.rows[a]!
 b:∀a,a<i→(bs[a]!).2=(p.rows[a]!).b.2
 col:∀j,j<p.vars.length→(cs[j]!).ts.map plq=colQ p j i
 cols:∀a,a<i→(cs[p.vars.length+a]!).ts.map plq=[((a:Int),1)]
 emp:∀a,i≤a→a<p.rows.length→cs[p.vars.length+a]! =⟨none,0,[]⟩
theorem F3.start {p:PrV} {L:Nat} (hL:L=p.vars.length+p.rows.length) {los his:List (RV×Rat)} (h:F1 p L p.vars.length los his):F3 p L 0 (List.replicate L ⟨none,0,[]⟩) los his (List.replicate p.rows.length (zeroR,0)):=
 ⟨h,by simp,by simp,fun a h=>absurd h (Nat.not_lt_zero _),fun a h=>absurd h (Nat.not_lt_zero _),fun a h=>absurd h (Nat.not_lt_zero _),fun j hj=>by rw[zjh (by omega)];rfl,fun a h=>absurd h (Nat.not_lt_zero _),fun a _ h=>zjh (by omega)⟩
theorem zgJ {ts:List TeV} {j i:Nat} (h:Rise ts):(rowX ts j i).length≤1:=by
 have h1:=ze2 (j:=j) (i:=i) h
 match hX:rowX ts j i,h1 with
 |[],_=>exact Nat.zero_le _
 |[_],_=>exact Nat.le_refl _
 |a::b::l,h1=>
  have ha:=(zcQ (p:=a) (by rw[hX];simp)).1
  have hb:=(zcQ (p:=b) (by rw[hX];simp)).1
  have:=(List.pairwise_cons.1 h1).1 b (by simp)
  omega
theorem zgW {p:PrV} {j:Nat}:∀{i:Nat},(∀a,a<i→Rise (p.rows[a]!).ts)→(colQ p j i).length≤i
 |0,_=>Nat.le_refl _
 |i+1,h=>by
  rw[colQ,List.length_append]
  have h1:=zgW (p:=p) (j:=j) (i:=i) fun a ha=>h a (by omega)
  have h2:=zgJ (j:=j) (i:=i) (h i (by omega))
  omega
structure F4 (p:PrV) (L i k:Nat) (ts:List TeV) (cs0 cs:List VeV):Prop where
 nc:cs.length=L
 same:∀a,p.vars.length≤a→cs[a]! =cs0[a]!
 col:∀j,j<p.vars.length→(cs[j]!).ts.map plq=(cs0[j]!).ts.map plq++rowX (ts.take k) j i
theorem F4.start {p:PrV} {L i:Nat} {ts:List TeV} {cs:List VeV} (h:cs.length=L):F4 p L i 0 ts cs cs:=⟨h,fun _ _=>rfl,fun j _=>by simp[rowX]⟩
theorem F4.next {p:PrV} {L i k:Nat} {ts:List TeV} {cs0 cs:List VeV} (h:F4 p L i k ts cs0 cs) (hk:k<ts.length) {pl:Nat} (hpl:ts[k].pl=(pl:Int)) (hl:pl<p.vars.length) (hL:p.vars.length≤L) (A:Option Addr) (c:Nat) (r:RV):
 F4 p L i (k+1) ts cs0 (cs.set pl ⟨A,c,(cs[pl]!).ts++[⟨(i:Int),r,ts[k].q⟩]⟩):=by
 have hn:pl<cs.length:=by rw[h.nc];omega
 refine⟨by rw[List.length_set];exact h.nc,fun a ha=>?_,fun j hj=>?_⟩
 ·rw[zbT hn,if_neg (by omega)];exact h.same a ha
 ·rw[zbT hn,ziv j i hk,←List.append_assoc,←h.col j hj]
  by_cases e:j=pl
  ·subst e
   rw[if_pos rfl,if_pos hpl,List.map_append];rfl
  ·rw[if_neg e,if_neg (by omega),List.append_nil]
theorem F4.len {p:PrV} {L i k:Nat} {ts:List TeV} {cs0 cs:List VeV} {los his bs:List (RV×Rat)} (h:F4 p L i k ts cs0 cs) (h3:F3 p L i cs0 los his bs) (hr:∀a,a<i→Rise (p.rows[a]!).ts) (ht:Rise ts) {j:Nat} (hj:j<p.vars.length):(cs[j]!).ts.length≤i+1:=by
 have h1:=congrArg List.length (h.col j hj)
 rw[List.length_append,h3.col j hj,List.length_map]at h1
 have h2:=zgW (p:=p) (j:=j) hr
 have h4:=zgJ (j:=j) (i:=i) (ht.sublist (List.take_sublist k ts))
 omega
theorem F3.next {p:PrV} {L i:Nat} {cs0 cs:List VeV} {los his bs:List (RV×Rat)} (h:F3 p L i cs0 los his bs) (hi:i<p.rows.length) (hL:L=p.vars.length+p.rows.length) {ro:RoV} (hro:p.rows[i]! =ro) (h4:F4 p L i ro.ts.length ro.ts cs0 cs) (A:Option Addr) (c:Nat) (r r1 r2 r3:RV):
 F3 p L (i+1) (cs.set (p.vars.length+i) ⟨A,c,[⟨(i:Int),r,1⟩]⟩) (los.set (p.vars.length+i) (r1,zb7 p.vars ro)) (his.set (p.vars.length+i) (r2,zb9 p.vars ro)) (bs.set i (r3,ro.b.2)):=by
 subst hro
 have h1:p.vars.length+i<cs.length:=by rw[h4.nc];omega
 have h2:p.vars.length+i<los.length:=by rw[h.f1.nl];omega
 have h3:p.vars.length+i<his.length:=by rw[h.f1.nh];omega
 have h5:i<bs.length:=by rw[h.nb];exact hi
 refine⟨⟨by rw[List.length_set];exact h.f1.nl,by rw[List.length_set];exact h.f1.nh,fun a ha=>?_,fun a ha=>?_⟩,by rw[List.length_set];exact h4.nc,by rw[List.length_set];exact h.nb,fun a ha=>?_,fun a ha=>?_,fun a ha=>?_,fun j hj=>?_,fun a ha=>?_,fun a ha ha'=>?_⟩
 ·rw[zbT h2,if_neg (by omega)];exact h.f1.lo a ha
 ·rw[zbT h3,if_neg (by omega)];exact h.f1.hi a ha
 ·rw[zbT h2]
  by_cases e:a=i
  ·subst e;rw[if_pos rfl]
  ·rw[if_neg (by omega)];exact h.los a (by omega)
 ·rw[zbT h3]
  by_cases e:a=i
  ·subst e;rw[if_pos rfl]
  ·rw[if_neg (by omega)];exact h.his a (by omega)
 ·rw[zbT h5]
  by_cases e:a=i
  ·subst e;rw[if_pos rfl]
  ·rw[if_neg e];exact h.b a (by omega)
 ·rw[zbT h1,if_neg (by omega),h4.col j hj,h.col j hj,List.take_length];rfl
 ·rw[zbT h1]
  by_cases e:a=i
  ·subst e;rw[if_pos rfl];rfl
  ·rw[if_neg (by omega),h4.same _ (by omega)];exact h.cols a (by omega)
 ·rw[zbT h1,if_neg (by omega),h4.same _ (by omega)];exact h.emp a (by omega) ha'
def veNP (v:VeV) (W:World):Prop:=LsR 5 tecells teN v.A v.ts W
theorem zkx (v:VeV) (W:World) (h:veNP v W):Rests W (·<W.heap.size) (veNP v):=LsR.old zda h
structure FoN (f:FoV) (W:World):Prop where
 cols:LsR 1 za3 veNP f.Ac f.cols W
 lo:LsR 4 za0 roN f.Al f.lo W
 hi:LsR 4 za0 roN f.Ah f.hi W
 cost:LsR 4 za0 roN f.Ak f.cost W
 b:LsR 4 za0 roN f.Ab f.b W
theorem FoN.old {f:FoV} {w:World} (h:FoN f w):Rests w (·<w.heap.size) (FoN f):=
 ((h.cols.old zkx).and ((h.lo.old zdc).and ((h.hi.old zdc).and ((h.cost.old zdc).and (h.b.old zdc))))).imp fun _ h=>⟨h.1,h.2.1,h.2.2.1,h.2.2.2.1,h.2.2.2.2⟩
theorem F3.form {p:PrV} {w:World} (hR:PRight p w) {L:Nat} (hL:L=p.vars.length+p.rows.length) {f:FoV} (hM:f.M=p.rows.length) (h2:F2 p L p.cost.length f.cost) (h3:F3 p L p.rows.length f.cols f.lo f.hi f.b) {V:World} (hV:FoN f V):FormP p f V:=by
 have hrise:∀a,a<p.rows.length→Rise (p.rows[a]!).ts:=fun a ha=>by rw[zb0 ha];exact(hR.ro _ (List.getElem_mem ha)).2.rise
 refine⟨hM,by rw[h3.nc];exact hL,by rw[h3.f1.nl];exact hL,by rw[h3.f1.nh];exact hL,by rw[h2.nk];exact hL,h3.nb,h3.f1.lo,h3.f1.hi,fun j hj=>?_,h3.los,h3.his,fun i hi=>?_,h3.b,fun j i hj hi=>?_,h3.cols,fun v hv=>?_⟩
 ·rw[h2.v j (by omega),List.take_length]
 ·rw[h2.v _ (by omega),List.take_length]
  refine zan fun x hx=>?_
  obtain⟨t,ht,rfl⟩:=List.mem_map.1 hx
  have:=(hR.cost.rng t ht).2
  show t.pl≠((p.vars.length+i:Nat):Int)
  omega
 ·rw[h3.col j hj,zgq hi]
 ·obtain⟨j,hj,rfl⟩:=List.mem_iff_getElem.1 hv
  have hN:=hV.cols.ok _ (List.getElem_mem hj)
  have hj2:j<L:=by rw[←h3.nc];exact hj
  have key:∃X:List (Int×Rat),(f.cols[j]).ts.map plq=X∧X.Pairwise (fun x y=>x.1<y.1)∧(∀x∈X,nzP x=true∧0≤x.1∧x.1<f.M):=by
   by_cases e:j<p.vars.length
   ·refine⟨colQ p j p.rows.length,by rw[←zb0 hj];exact h3.col j e,zf8 hrise,fun x hx=>?_⟩
    obtain⟨a,ha,h4,t,ht,h5⟩:=zdt hx
    rw[zb0 ha]at ht
    have h6:=(hR.ro _ (List.getElem_mem ha)).2.nz t ht
    refine⟨?_,by omega,by omega⟩
    unfold nzP;rw[←h5];exact h6
   ·refine⟨[(((j-p.vars.length:Nat):Int),1)],?_,List.pairwise_singleton _ _,fun x hx=>?_⟩
    ·have:=h3.cols (j-p.vars.length) (by omega)
     rw[show p.vars.length+(j-p.vars.length)=j by omega,zb0 hj]at this
     exact this
    ·rw[List.mem_singleton.1 hx]
     refine⟨(by decide:nzP (0,(1:Rat))=true),by show(0:Int)≤((j-p.vars.length:Nat):Int);omega,by show((j-p.vars.length:Nat):Int)<_;omega⟩
  obtain⟨X,h4,h5,h6⟩:=key
  refine⟨fun t ht=>?_,zcY h4 h5,fun t ht=>?_,fun t ht=>hN.ok t ht⟩
  ·exact(h6 (plq t) (by rw[←h4];exact List.mem_map_of_mem ht)).2
  ·exact(h6 (plq t) (by rw[←h4];exact List.mem_map_of_mem ht)).1

theorem zd6 {P:Program} {md:Region.Mode} {ops:Array Oper} {Q:Exit→Act→World→Prop} {S:World→Prop} {n:Nat} {l:Array Bool} {a:Act} {w:World} (m:Nat) (hm:n=m) (l':Array Bool) (hl:l=l')
 (h:∀Q',Q'=Q→∀ops',ops'=ops→∀a',a'=a→wpAnyH P md ops' Q' S m l' a' w):wpAnyH P md ops Q S n l a w:=by
 subst hm;subst hl;exact h _ rfl _ rfl _ rfl

theorem PRight.same {n:Nat} {p:PrV} {w W:World} (h:PrD n p w) (hb:Below w.heap.size w W):PRight p W↔PRight p w:=
 ⟨fun k=>⟨k.vars,k.rows,k.va,fun r hr=>(rwOk.same (h.rows.ok r hr) hb).1 (k.ro r hr),(RightP.same h.cost hb).1 k.cost⟩,fun k=>⟨k.vars,k.rows,k.va,fun r hr=>(rwOk.same (h.rows.ok r hr) hb).2 (k.ro r hr),(RightP.same h.cost hb).2 k.cost⟩⟩
section
variable {w W:World} {ls:List Ow} {bs:List Bo} {old new:World→Prop}
theorem Env.put6 {g:Nat} {t:TypeId} {u0 u1 u2 u3 u4 u5:Value} (h:Env w (⟨g,t,#[u0,u1,u2,u3,u4,u5]⟩::bs) old new W) (a b c d e f:Value):Env w (⟨g,t,#[a,b,c,d,e,f]⟩::bs) old new ((((((W.setCell ⟨g,0,none⟩ a).setCell ⟨g,1,none⟩ b).setCell ⟨g,2,none⟩ c).setCell ⟨g,3,none⟩ d).setCell ⟨g,4,none⟩ e).setCell ⟨g,5,none⟩ f):=
 (((((h.put 0 a).put 1 b).put 2 c).put 3 d).put 4 e).put 5 f
theorem GL.newV' {k c:Nat} (h:GL w ls old new W) (hk:ls[k]?=some (zbu ⟨none,c,[]⟩)) (x:TeV):∃W' g,W.alloc (.cells (tecells x) 65)=W'∧W.heap.size=g∧Hid (GL w (ls.set k (zbu ⟨some ⟨g,0,none⟩,1,[x]⟩)) old new W'):=⟨_,_,rfl,rfl,znd (h.newV hk x)⟩
theorem GL.els {k:Nat} {e:TypeId} {sz n cap:Nat} {A:Option Addr} {cs:List (Array Value)} (h:GL w ls old new W) (hk:ls[k]?=some ⟨e,sz,.slice A n cap,cs⟩):Rests W (w.heap.size≤·) (fun V=>El V sz A cs):=by
 have ho:OwnE W w.heap.size e sz (.slice A n cap) cs:=h.own _ (List.mem_of_getElem? hk)
 obtain⟨A',c',hv,-,hr⟩:=ho.reads
 obtain⟨rfl,-,-⟩:A=A'∧n=cs.length∧cap=c':=by simpa using hv
 exact hr
end
def cnd (b:Bool) (o:Ow):List Ow:=if b then[o] else[]
theorem zb6 {α:Type} {A X X':List α} {a:α} (h:X'.Perm (a::X)):(A++X').Perm (a::(A++X)):=(List.Perm.append_left A h).trans List.perm_middle
theorem zba {P:Program} {md:Region.Mode} {ops:Array Oper} {Q:Exit→Act→World→Prop} {S:World→Prop} {i:Nat} {o:Oper} {fuel:Nat} {listed:Array Bool} {a:Act} {w:World} (ho:ops[i]?=some o) (hw:Region.wanted o (yielded ops a.tmps)=true)
 (h:∀K:Act→World→Prop,Shut (∀a w,S w→(S w→wpAnyH P md ops Q S fuel (listed.setIfInBounds i true) a w)→K a w)→Oper.wp P o a w K Q):wpOp P ops Q i (fun a' w'=>S w'∧wpAnyH P md ops Q S fuel (listed.setIfInBounds i true) a' w') a w:=
 (AllReadyH.cons ho (fun K hK=>by rw[if_pos hw];exact h K hK) AllReadyH.nil:AllReadyH P md ops Q S fuel listed a w [i]) i (List.mem_singleton.2 rfl)
@[reducible] def fls (AC AL AH AK AB:Option Addr) (gR L M:Nat) (cs:List VeV) (los his ks bs:List (RV×Rat)):List Ow:=
 ⟨25,1,.slice AC L L,cs.map za3⟩::⟨48,4,.slice AL L L,los.map za0⟩::⟨48,4,.slice AH L L,his.map za0⟩::⟨48,4,.slice AK L L,ks.map za0⟩::⟨48,4,.slice AB M M,bs.map za0⟩::bow gR 32 6 #[.int .i64 0,.slice none 0 0,.slice none 0 0,.slice none 0 0,.slice none 0 0,.slice none 0 0]::cs.map zbu
structure FNew (cs:List VeV) (los his ks bs:List (RV×Rat)) (V:World):Prop where
 lo:∀q∈los,roN q V
 hi:∀q∈his,roN q V
 k:∀q∈ks,roN q V
 b:∀q∈bs,roN q V
 c:∀v∈cs,∀t∈v.ts,teN t V
theorem FNew.zero (L M:Nat) (V:World):FNew (List.replicate L ⟨none,0,[]⟩) (List.replicate L (zeroR,0)) (List.replicate L (zeroR,0)) (List.replicate L (zeroR,0)) (List.replicate M (zeroR,0)) V:=by
 have h:∀n,∀q∈List.replicate n (zeroR,(0:Rat)),roN q V:=fun n q hq=>by rw[List.eq_of_mem_replicate hq];exact zbc V
 exact⟨h L,h L,h L,h M,fun v hv t ht=>by rw[List.eq_of_mem_replicate hv]at ht;simp at ht⟩
def zna (p:PrV) (w:World) (e:Ending) (w':World):Prop:=
 ((∃k:Int,k≠0∧e=.returned (.tuple #[.agg #[.int .i64 0,.slice none 0 0,.slice none 0 0,.slice none 0 0,.slice none 0 0,.slice none 0 0],.int .i64 k]))∨(∃f:FoV,e=.returned (.tuple #[.agg #[.int .i64 f.M,.slice f.Ac f.cols.length f.cc,.slice f.Al f.lo.length f.cl,.slice f.Ah f.hi.length f.ch,.slice f.Ak f.cost.length f.ck,.slice f.Ab f.b.length f.cb],.int .i64 0])∧PRight p w∧Rests w' (w.heap.size≤·) (fun V=>FoN f V∧FormP p f V)))∧Below w.heap.size w w'
set_option maxRecDepth 100000 in
theorem zjC (w:World) (N:Nat) (hN:N≤10000000) (h1N:1≤N) (p:PrV) (h:PrD N p w) (hts:∀r∈p.rows,r.ts.length≤1000000) (hck:p.cost.length≤1000000) (hT:Tz w):
 Calls Tryz.prog 5 #[.agg #[.slice p.Av p.vars.length p.cv,.slice p.Ar p.rows.length p.cr,.slice p.Ak p.cost.length p.ck]] w (zna p w):=by
 have Hp:=znd h
 have slv:=h.vars.sl
 have slr:=h.rows.sl
 have slk:=h.cost.sl
 have hszv:=zdG
 have hszw:=zf9
 have hszt:=zai
 have hszr:=zal
 have hszc:=zaw
 have hadd:=zaa
 obtain⟨W0,hW0⟩:∃W0,W0=((w.alloc (.cells #[.slice p.Av p.vars.length p.cv,.slice p.Ar p.rows.length p.cr,.slice p.Ak p.cost.length p.ck] 27)).alloc (.cells #[.int .i64 0,.slice none 0 0,.slice none 0 0,.slice none 0 0,.slice none 0 0,.slice none 0 0] 32)):=⟨_,rfl⟩
 have HE:=znd (Env.lay2 (Env.start ((h.old).and (hT.old))) hW0)
 subst hW0
 have c:=Env.c2 HE.out
 have dd:=Env.d2 HE.out
 clear h hT dd
 go_enter Tryz.func5,Tryz.ntmps5
 go_wp2_with fail
 refine(zeM _ N (by omega) h1N p HE.out.o.1 hts hck HE.out.o.2).mono ?_
 rintro e w1 ⟨⟨k,rfl,hk⟩,hb⟩
 have HK:=znd (hk.trans (PRight.same Hp.out HE.out.bel))
 replace HE:=znd (Env.call HE.out hb)
 replace c:=Env.c2 HE.out
 clear hb hk
 by_cases hk:k=0
 rotate_left 1
 ·have hk0:(k != 0)=true:=by simpa using hk
  have HKK:=znd hk
  clear hk
  go_wp2_with fail
  exact bodyPost_ret (v:=.tuple #[.agg #[.int .i64 0,.slice none 0 0,.slice none 0 0,.slice none 0 0,.slice none 0 0,.slice none 0 0],.int .i64 k]) (by simp[results,Tryz.results5,go_sem,Env.c2 (HE.out.put6 (.int .i64 0) (.slice none 0 0) (.slice none 0 0) (.slice none 0 0) (.slice none 0 0) (.slice none 0 0))]) rfl ⟨.inl ⟨k,HKK.out,rfl⟩,(HE.out.put6 _ _ _ _ _ _).bel⟩
 have HR:=znd (HK.out.1 hk)
 subst hk
 clear HK
 have hn6:=HR.out.vars
 have hm6:=HR.out.rows
 obtain⟨L,hL⟩:∃L,L=p.vars.length+p.rows.length:=⟨_,rfl⟩
 have hLc:(p.vars.length:Int)+(p.rows.length:Int)=(L:Int):=by omega
 have hL2:L≤1200:=by omega
 have HL:=znd hL
 have hwL:IntKind.i64.wrap (L:Int)=(L:Int):=by rw[IntKind.wrap_i64];omega
 clear hL
 clear c
 go_upto_region 4 with fail
 refine wp_region_noPanic ?_
 refine wp_region_held_drew (S:=(fun W=>CB (w.heap.size) #[.slice p.Av p.vars.length p.cv,.slice p.Ar p.rows.length p.cr,.slice p.Ak p.cost.length p.ck] W)) (by kernel_rfl) (by first|exact(Env.c2 HE.out).2|exact(Env.c2 HE.out.drew).2) (fun hHeld=>?_)
 refine hT 0 22 hHeld ?_
 refine hT 1 23 hHeld ?_
 refine hT 2 24 hHeld ?_
 refine hT 3 25 hHeld ?_
 refine hT 4 26 hHeld ?_
 refine hT 5 27 hHeld ?_
 refine hT 6 5 hHeld ?_
 refine hT 7 6 hHeld ?_
 refine wpAnyH_done (by kernel_rfl) ?_ _
 refine NoPanic.normal ?_
 replace HE:=znd HE.out.drew
 go_upto_region 5 with fail
 have HG:=znd (show GL w [bow (w.heap.size+1) 32 6 #[.int .i64 0,.slice none 0 0,.slice none 0 0,.slice none 0 0,.slice none 0 0,.slice none 0 0]] (fun V=>Blk V (w.heap.size) 27 #[.slice p.Av p.vars.length p.cv,.slice p.Ar p.rows.length p.cr,.slice p.Ak p.cost.length p.ck]∧PrD N p V∧Tz V) (fun _=>True) _ from(GL.ofEnv (bs1:=[_]) (bs2:=[_]) HE.out).imp (fun V h=>⟨h.1 _ (List.mem_singleton.2 rfl),h.2⟩) (fun V h=>h))
 clear HE
 go_cut [7] (fun pf wx=>∃g0 g1 g2 g3 g4 g5,pf=.pointer (some ⟨g5,0,none⟩)∧Hid (GL w [bow g5 32 6 #[.int .i64 (p.rows.length:Int),.slice (some ⟨g0,0,none⟩) L L,.slice (some ⟨g1,0,none⟩) L L,.slice (some ⟨g2,0,none⟩) L L,.slice (some ⟨g3,0,none⟩) L L,.slice (some ⟨g4,0,none⟩) p.rows.length p.rows.length],⟨25,1,.slice (some ⟨g0,0,none⟩) L L,List.replicate L #[.slice none 0 0]⟩,⟨48,4,.slice (some ⟨g1,0,none⟩) L L,List.replicate L #[.bool false,.slice none 0 0,.bool false,.slice none 0 0]⟩,⟨48,4,.slice (some ⟨g2,0,none⟩) L L,List.replicate L #[.bool false,.slice none 0 0,.bool false,.slice none 0 0]⟩,⟨48,4,.slice (some ⟨g3,0,none⟩) L L,List.replicate L #[.bool false,.slice none 0 0,.bool false,.slice none 0 0]⟩,⟨48,4,.slice (some ⟨g4,0,none⟩) p.rows.length p.rows.length,List.replicate p.rows.length #[.bool false,.slice none 0 0,.bool false,.slice none 0 0]⟩,bow (w.heap.size+1) 32 6 #[.int .i64 0,.slice none 0 0,.slice none 0 0,.slice none 0 0,.slice none 0 0,.slice none 0 0]] (fun V=>Blk V (w.heap.size) 27 #[.slice p.Av p.vars.length p.cv,.slice p.Ar p.rows.length p.cr,.slice p.Ak p.cost.length p.ck]∧PrD N p V∧Tz V) (fun _=>True) wx))
 case first=>
  refine wp_region_noPanic ?_
  refine wp_region_held_drew (S:=fun _=>True) (by kernel_rfl) trivial (fun hHeld=>?_)
  replace HG:=znd HG.out.drew
  refine za2 (i:=0) (v:=?_) (some 28) rfl rfl (by kernel_rfl) (by kernel_rfl) (by kernel_rfl) (fun _ _ _ h=>h) (Or.inl ⟨by rfl,?_⟩) hHeld ?_
  rotate_left 1
  ·intro W hSw
   (try dsimp only at hSw)
   (first|(go_simp;done)|(go_simp;with_reducible rfl))
  try simp only[p1,p2,p3,p4]
  refine za2 (i:=1) (v:=?_) (some 29) rfl rfl (by kernel_rfl) (by kernel_rfl) (by kernel_rfl) (fun _ _ _ h=>h) (Or.inl ⟨by rfl,?_⟩) hHeld ?_
  rotate_left 1
  ·intro W hSw
   (try dsimp only at hSw)
   (first|(go_simp;done)|(go_simp;with_reducible rfl))
  try simp only[p1,p2,p3,p4]
  refine za2 (i:=2) (v:=?_) (some 30) rfl rfl (by kernel_rfl) (by kernel_rfl) (by kernel_rfl) (fun _ _ _ h=>h) (Or.inl ⟨by rfl,?_⟩) hHeld ?_
  rotate_left 1
  ·intro W hSw
   (try dsimp only at hSw)
   (first|(go_simp;done)|(go_simp;with_reducible rfl))
  try simp only[p1,p2,p3,p4]
  refine za2 (i:=3) (v:=(.int .i64 (L:Int))) (some 31) rfl rfl (by kernel_rfl) (by kernel_rfl) (by kernel_rfl) (fun _ _ _ h=>h) (Or.inl ⟨by rfl,?_⟩) hHeld ?_
  ·intro W hSw
   (try dsimp only at hSw)
   (first|(go_simp;done)|(go_simp;with_reducible rfl))
  try simp only[p1,p2,p3,p4]
  refine za2 (i:=5) (v:=?_) (some 33) rfl rfl (by kernel_rfl) (by kernel_rfl) (by kernel_rfl) (fun _ _ _ h=>h) (Or.inl ⟨by rfl,?_⟩) hHeld ?_
  rotate_left 1
  ·intro W hSw
   (try dsimp only at hSw)
   (first|(go_simp;done)|(go_simp;with_reducible rfl))
  try simp only[p1,p2,p3,p4]
  refine za2 (i:=6) (v:=?_) (some 34) rfl rfl (by kernel_rfl) (by kernel_rfl) (by kernel_rfl) (fun _ _ _ h=>h) (Or.inl ⟨by rfl,?_⟩) hHeld ?_
  rotate_left 1
  ·intro W hSw
   (try dsimp only at hSw)
   (first|(go_simp;done)|(go_simp;with_reducible rfl))
  try simp only[p1,p2,p3,p4]
  refine za2 (i:=7) (v:=(.int .i64 (L:Int))) (some 35) rfl rfl (by kernel_rfl) (by kernel_rfl) (by kernel_rfl) (fun _ _ _ h=>h) (Or.inl ⟨by rfl,?_⟩) hHeld ?_
  ·intro W hSw
   (try dsimp only at hSw)
   (first|(go_simp;done)|(go_simp;with_reducible rfl))
  try simp only[p1,p2,p3,p4]
  refine za2 (i:=9) (v:=?_) (some 37) rfl rfl (by kernel_rfl) (by kernel_rfl) (by kernel_rfl) (fun _ _ _ h=>h) (Or.inl ⟨by rfl,?_⟩) hHeld ?_
  rotate_left 1
  ·intro W hSw
   (try dsimp only at hSw)
   (first|(go_simp;done)|(go_simp;with_reducible rfl))
  try simp only[p1,p2,p3,p4]
  refine za2 (i:=10) (v:=?_) (some 38) rfl rfl (by kernel_rfl) (by kernel_rfl) (by kernel_rfl) (fun _ _ _ h=>h) (Or.inl ⟨by rfl,?_⟩) hHeld ?_
  rotate_left 1
  ·intro W hSw
   (try dsimp only at hSw)
   (first|(go_simp;done)|(go_simp;with_reducible rfl))
  try simp only[p1,p2,p3,p4]
  refine za2 (i:=11) (v:=(.int .i64 (L:Int))) (some 39) rfl rfl (by kernel_rfl) (by kernel_rfl) (by kernel_rfl) (fun _ _ _ h=>h) (Or.inl ⟨by rfl,?_⟩) hHeld ?_
  ·intro W hSw
   (try dsimp only at hSw)
   (first|(go_simp;done)|(go_simp;with_reducible rfl))
  try simp only[p1,p2,p3,p4]
  refine za2 (i:=13) (v:=?_) (some 41) rfl rfl (by kernel_rfl) (by kernel_rfl) (by kernel_rfl) (fun _ _ _ h=>h) (Or.inl ⟨by rfl,?_⟩) hHeld ?_
  rotate_left 1
  ·intro W hSw
   (try dsimp only at hSw)
   (first|(go_simp;done)|(go_simp;with_reducible rfl))
  try simp only[p1,p2,p3,p4]
  refine za2 (i:=14) (v:=?_) (some 42) rfl rfl (by kernel_rfl) (by kernel_rfl) (by kernel_rfl) (fun _ _ _ h=>h) (Or.inl ⟨by rfl,?_⟩) hHeld ?_
  rotate_left 1
  ·intro W hSw
   (try dsimp only at hSw)
   (first|(go_simp;done)|(go_simp;with_reducible rfl))
  try simp only[p1,p2,p3,p4]
  refine za2 (i:=15) (v:=(.int .i64 (L:Int))) (some 43) rfl rfl (by kernel_rfl) (by kernel_rfl) (by kernel_rfl) (fun _ _ _ h=>h) (Or.inl ⟨by rfl,?_⟩) hHeld ?_
  ·intro W hSw
   (try dsimp only at hSw)
   (first|(go_simp;done)|(go_simp;with_reducible rfl))
  try simp only[p1,p2,p3,p4]
  refine za2 (i:=17) (v:=?_) (some 45) rfl rfl (by kernel_rfl) (by kernel_rfl) (by kernel_rfl) (fun _ _ _ h=>h) (Or.inl ⟨by rfl,?_⟩) hHeld ?_
  rotate_left 1
  ·intro W hSw
   (try dsimp only at hSw)
   (first|(go_simp;done)|(go_simp;with_reducible rfl))
  try simp only[p1,p2,p3,p4]
  clear hHeld
  refine zd6 8 rfl #[true,true,true,true,false,true,true,true,false,true,true,true,false,true,true,true,false,true,false,false,false,false] (by kernel_rfl) ?_
  intro Q6 hQ6 ops6 hops6 a0 ha0
  have HQ:=znd hQ6;have HO:=znd hops6;have HA:=znd ha0
  clear hQ6 hops6 ha0
  have CHK:Hid (∀b0 b1 b2 b3 b4 b5 b6:Bool,(Region.ready .any ops6 #[true,true,true,true,b0,true,true,true,b1,true,true,true,b2,true,true,true,b3,true,b4,b6,b5,false]).all (fun i=>(i==4&&!b0)||(i==8&&!b1)||(i==12&&!b2)||(i==16&&!b3)||(i==18&&!b4)||(i==20&&!b5)||(i==19&&!b6&&b0&&b1&&b2&&b3&&b4)||(i==21&&b5&&b6))=true∧(Region.ready .any ops6 #[true,true,true,true,b0,true,true,true,b1,true,true,true,b2,true,true,true,b3,true,b4,b6,b5,false]).isEmpty=false):=by
   rw[HO.out]
   refine znd ?_
   intro b0 b1 b2 b3 b4 b5 b6
   cases b0<;>cases b1<;>cases b2<;>cases b3<;>cases b4<;>cases b5<;>cases b6<;>exact⟨by kernel_rfl,by kernel_rfl⟩
  have KEY:Hid (∀(k:Nat) (b0 b1 b2 b3 b4 b5 b6:Bool) (V0 V1 V2 V3 V4 V5 V6:Value) (g0 g1 g2 g3 g4 g5:Nat) (W:World) (H0:b0=true→V0=.slice (some ⟨g0,0,none⟩) L L) (H1:b1=true→V1=.slice (some ⟨g1,0,none⟩) L L) (H2:b2=true→V2=.slice (some ⟨g2,0,none⟩) L L) (H3:b3=true→V3=.slice (some ⟨g3,0,none⟩) L L) (H4:b4=true→V4=.slice (some ⟨g4,0,none⟩) p.rows.length p.rows.length) (H5:b5=true→V5=.pointer (some ⟨g5,0,none⟩)) (H6:b6=true→(b0=true∧b1=true∧b2=true∧b3=true∧b4=true)∧V6=.agg #[.int .i64 (p.rows.length:Int),.slice (some ⟨g0,0,none⟩) L L,.slice (some ⟨g1,0,none⟩) L L,.slice (some ⟨g2,0,none⟩) L L,.slice (some ⟨g3,0,none⟩) L L,.slice (some ⟨g4,0,none⟩) p.rows.length p.rows.length]) (Hk:(!b0).toNat+(!b1).toNat+(!b2).toNat+(!b3).toNat+(!b4).toNat+(!b5).toNat+(!b6).toNat<k) (HG:Hid (GL w (cnd b5 (bow g5 32 6 #[.int .i64 0,.slice none 0 0,.slice none 0 0,.slice none 0 0,.slice none 0 0,.slice none 0 0])++(cnd b0 ⟨25,1,.slice (some ⟨g0,0,none⟩) L L,List.replicate L #[.slice none 0 0]⟩++(cnd b1 ⟨48,4,.slice (some ⟨g1,0,none⟩) L L,List.replicate L #[.bool false,.slice none 0 0,.bool false,.slice none 0 0]⟩++(cnd b2 ⟨48,4,.slice (some ⟨g2,0,none⟩) L L,List.replicate L #[.bool false,.slice none 0 0,.bool false,.slice none 0 0]⟩++(cnd b3 ⟨48,4,.slice (some ⟨g3,0,none⟩) L L,List.replicate L #[.bool false,.slice none 0 0,.bool false,.slice none 0 0]⟩++(cnd b4 ⟨48,4,.slice (some ⟨g4,0,none⟩) p.rows.length p.rows.length,List.replicate p.rows.length #[.bool false,.slice none 0 0,.bool false,.slice none 0 0]⟩++[bow (w.heap.size+1) 32 6 #[.int .i64 0,.slice none 0 0,.slice none 0 0,.slice none 0 0,.slice none 0 0,.slice none 0 0]])))))) (fun V=>Blk V (w.heap.size) 27 #[.slice p.Av p.vars.length p.cv,.slice p.Ar p.rows.length p.cr,.slice p.Ak p.cost.length p.ck]∧PrD N p V∧Tz V) (fun _=>True) W)),wpAnyH Tryz.prog .any ops6 Q6 (fun _=>True) k #[true,true,true,true,b0,true,true,true,b1,true,true,true,b2,true,true,true,b3,true,b4,b6,b5,false] (Act.put (Act.put (Act.put (Act.put (Act.put (Act.put (Act.put a0 (some 32) V0) (some 36) V1) (some 40) V2) (some 44) V3) (some 46) V4) (some 7) V5) (some 47) V6) W):=by
   clear HG
   refine znd ?_
   intro k
   induction k with
   |zero=>intro b0 b1 b2 b3 b4 b5 b6 V0 V1 V2 V3 V4 V5 V6 g0 g1 g2 g3 g4 g5 W H0 H1 H2 H3 H4 H5 H6 Hk HG;omega
   |succ k ih=>
    intro b0 b1 b2 b3 b4 b5 b6 V0 V1 V2 V3 V4 V5 V6 g0 g1 g2 g3 g4 g5 W H0 H1 H2 H3 H4 H5 H6 Hk HG
    have IH:=znd ih
    clear ih
    have CH:=CHK.out b0 b1 b2 b3 b4 b5 b6
    refine wpAnyH_ready rfl (fun h=>?_) (fun i hi=>?_)
    ·rw[h]at CH;exact absurd CH.2 (by simp)
    have hi2:=List.all_eq_true.1 CH.1 i hi
    simp only[Bool.or_eq_true,Bool.and_eq_true,beq_iff_eq,Bool.not_eq_true']at hi2
    clear hi CH
    rcases hi2 with((((((⟨rfl,rfl⟩|⟨rfl,rfl⟩)|⟨rfl,rfl⟩)|⟨rfl,rfl⟩)|⟨rfl,rfl⟩)|⟨rfl,rfl⟩)|⟨⟨⟨⟨⟨⟨rfl,rfl⟩,rfl⟩,rfl⟩,rfl⟩,rfl⟩,rfl⟩)|⟨⟨rfl,rfl⟩,rfl⟩
    ·rw[HO.out,HA.out]
     refine zba rfl (by rfl) (fun K hK=>?_)
     try simp only[p1,p2,p3,p4]
     refine zbZ (.tmp 31) (.tmp 31) 29 rfl (vl:=.int .i64 (L:Int)) (vc:=.int .i64 (L:Int)) rfl rfl (ze3 _ L (by omega)) ?_
     refine hK.out _ _ trivial (fun _=>?_)
     clear hK K
     try simp only[p2,p3,p4]
     have h:=IH.out true b1 b2 b3 b4 b5 b6 (.slice (some ⟨W.heap.size,0,none⟩) L L) V1 V2 V3 V4 V5 V6 W.heap.size g1 g2 g3 g4 g5 _ (fun _=>rfl) H1 H2 H3 H4 H5 (fun h6=>absurd (H6 h6).1.1 (by simp)) (by simp only[Bool.not_false,Bool.not_true,Bool.toNat_true,Bool.toNat_false]at Hk⊢;omega) (znd ((HG.out.addz (e:=25) (sz:=1) (z:=(Value.slice none 0 0).cells) rfl (by decide) L (by simp only[maxLen];omega)).perm (zb6 (List.Perm.refl _))))
     rw[HO.out,HA.out]at h
     try simp only[p1,p2,p3,p4]at h
     exact h
    ·rw[HO.out,HA.out]
     refine zba rfl (by rfl) (fun K hK=>?_)
     try simp only[p1,p2,p3,p4]
     refine zbZ (.tmp 35) (.tmp 35) 30 rfl (vl:=.int .i64 (L:Int)) (vc:=.int .i64 (L:Int)) rfl rfl (zcw _ L (by omega)) ?_
     refine hK.out _ _ trivial (fun _=>?_)
     clear hK K
     try simp only[p2,p3,p4]
     have h:=IH.out b0 true b2 b3 b4 b5 b6 V0 (.slice (some ⟨W.heap.size,0,none⟩) L L) V2 V3 V4 V5 V6 g0 W.heap.size g2 g3 g4 g5 _ H0 (fun _=>rfl) H2 H3 H4 H5 (fun h6=>absurd (H6 h6).1.2.1 (by simp)) (by simp only[Bool.not_false,Bool.not_true,Bool.toNat_true,Bool.toNat_false]at Hk⊢;omega) (znd ((HG.out.addz (e:=48) (sz:=4) (z:=ratZ.cells) rfl (by decide) L (by simp only[maxLen];omega)).perm (zb6 (zb6 (List.Perm.refl _)))))
     rw[HO.out,HA.out]at h
     try simp only[p1,p2,p3,p4]at h
     exact h
    ·rw[HO.out,HA.out]
     refine zba rfl (by rfl) (fun K hK=>?_)
     try simp only[p1,p2,p3,p4]
     refine zbZ (.tmp 39) (.tmp 39) 30 rfl (vl:=.int .i64 (L:Int)) (vc:=.int .i64 (L:Int)) rfl rfl (zcw _ L (by omega)) ?_
     refine hK.out _ _ trivial (fun _=>?_)
     clear hK K
     try simp only[p2,p3,p4]
     have h:=IH.out b0 b1 true b3 b4 b5 b6 V0 V1 (.slice (some ⟨W.heap.size,0,none⟩) L L) V3 V4 V5 V6 g0 g1 W.heap.size g3 g4 g5 _ H0 H1 (fun _=>rfl) H3 H4 H5 (fun h6=>absurd (H6 h6).1.2.2.1 (by simp)) (by simp only[Bool.not_false,Bool.not_true,Bool.toNat_true,Bool.toNat_false]at Hk⊢;omega) (znd ((HG.out.addz (e:=48) (sz:=4) (z:=ratZ.cells) rfl (by decide) L (by simp only[maxLen];omega)).perm (zb6 (zb6 (zb6 (List.Perm.refl _))))))
     rw[HO.out,HA.out]at h
     try simp only[p1,p2,p3,p4]at h
     exact h
    ·rw[HO.out,HA.out]
     refine zba rfl (by rfl) (fun K hK=>?_)
     try simp only[p1,p2,p3,p4]
     refine zbZ (.tmp 43) (.tmp 43) 30 rfl (vl:=.int .i64 (L:Int)) (vc:=.int .i64 (L:Int)) rfl rfl (zcw _ L (by omega)) ?_
     refine hK.out _ _ trivial (fun _=>?_)
     clear hK K
     try simp only[p2,p3,p4]
     have h:=IH.out b0 b1 b2 true b4 b5 b6 V0 V1 V2 (.slice (some ⟨W.heap.size,0,none⟩) L L) V4 V5 V6 g0 g1 g2 W.heap.size g4 g5 _ H0 H1 H2 (fun _=>rfl) H4 H5 (fun h6=>absurd (H6 h6).1.2.2.2.1 (by simp)) (by simp only[Bool.not_false,Bool.not_true,Bool.toNat_true,Bool.toNat_false]at Hk⊢;omega) (znd ((HG.out.addz (e:=48) (sz:=4) (z:=ratZ.cells) rfl (by decide) L (by simp only[maxLen];omega)).perm (zb6 (zb6 (zb6 (zb6 (List.Perm.refl _)))))))
     rw[HO.out,HA.out]at h
     try simp only[p1,p2,p3,p4]at h
     exact h
    ·rw[HO.out,HA.out]
     refine zba rfl (by rfl) (fun K hK=>?_)
     try simp only[p1,p2,p3,p4]
     refine zbZ (.tmp 45) (.tmp 45) 30 rfl (vl:=.int .i64 (p.rows.length:Int)) (vc:=.int .i64 (p.rows.length:Int)) rfl rfl (zcw _ p.rows.length (by omega)) ?_
     refine hK.out _ _ trivial (fun _=>?_)
     clear hK K
     try simp only[p2,p3,p4]
     have h:=IH.out b0 b1 b2 b3 true b5 b6 V0 V1 V2 V3 (.slice (some ⟨W.heap.size,0,none⟩) p.rows.length p.rows.length) V5 V6 g0 g1 g2 g3 W.heap.size g5 _ H0 H1 H2 H3 (fun _=>rfl) H5 (fun h6=>absurd (H6 h6).1.2.2.2.2 (by simp)) (by simp only[Bool.not_false,Bool.not_true,Bool.toNat_true,Bool.toNat_false]at Hk⊢;omega) (znd ((HG.out.addz (e:=48) (sz:=4) (z:=ratZ.cells) rfl (by decide) p.rows.length (by simp only[maxLen];omega)).perm (zb6 (zb6 (zb6 (zb6 (zb6 (List.Perm.refl _))))))))
     rw[HO.out,HA.out]at h
     try simp only[p1,p2,p3,p4]at h
     exact h
    ·rw[HO.out,HA.out]
     refine zba rfl (by rfl) (fun K hK=>?_)
     try simp only[p1,p2,p3,p4]
     simp only[q1,q2,q3]
     go_simp
     (try(go_wp2_with fail))
     refine hK.out _ _ trivial (fun _=>?_)
     clear hK K
     try simp only[p2,p3,p4]
     have h:=IH.out b0 b1 b2 b3 b4 true b6 V0 V1 V2 V3 V4 (.pointer (some ⟨W.heap.size,0,none⟩)) V6 g0 g1 g2 g3 g4 W.heap.size _ H0 H1 H2 H3 H4 (fun _=>rfl) H6 (by simp only[Bool.not_false,Bool.not_true,Bool.toNat_true,Bool.toNat_false]at Hk⊢;omega) (znd ((HG.out.addb 32 #[.int .i64 0,.slice none 0 0,.slice none 0 0,.slice none 0 0,.slice none 0 0,.slice none 0 0]).perm (List.Perm.refl _)))
     rw[HO.out,HA.out]at h
     try simp only[p1,p2,p3,p4]at h
     exact h
    ·have e0:=H0 rfl
     have e1:=H1 rfl
     have e2:=H2 rfl
     have e3:=H3 rfl
     have e4:=H4 rfl
     subst e0 e1 e2 e3 e4
     rw[HO.out,HA.out]
     refine zba rfl (by rfl) (fun K hK=>?_)
     try simp only[p1,p2,p3,p4]
     simp only[q1,q2,q3]
     go_simp
     (try(go_wp2_with fail))
     refine hK.out _ _ trivial (fun _=>?_)
     clear hK K
     try simp only[p2,p3,p4]
     have h:=IH.out true true true true true b5 true (.slice (some ⟨g0,0,none⟩) L L) (.slice (some ⟨g1,0,none⟩) L L) (.slice (some ⟨g2,0,none⟩) L L) (.slice (some ⟨g3,0,none⟩) L L) (.slice (some ⟨g4,0,none⟩) p.rows.length p.rows.length) V5 (.agg #[.int .i64 (p.rows.length:Int),.slice (some ⟨g0,0,none⟩) L L,.slice (some ⟨g1,0,none⟩) L L,.slice (some ⟨g2,0,none⟩) L L,.slice (some ⟨g3,0,none⟩) L L,.slice (some ⟨g4,0,none⟩) p.rows.length p.rows.length]) g0 g1 g2 g3 g4 g5 _ (fun _=>rfl) (fun _=>rfl) (fun _=>rfl) (fun _=>rfl) (fun _=>rfl) H5 (fun _=>⟨⟨rfl,rfl,rfl,rfl,rfl⟩,rfl⟩) (by simp only[Bool.not_false,Bool.not_true,Bool.toNat_true,Bool.toNat_false]at Hk⊢;omega) HG
     rw[HO.out,HA.out]at h
     try simp only[p1,p2,p3,p4]at h
     exact h
    ·obtain⟨⟨rfl,rfl,rfl,rfl,rfl⟩,e6⟩:=H6 rfl
     have e0:=H0 rfl
     have e1:=H1 rfl
     have e2:=H2 rfl
     have e3:=H3 rfl
     have e4:=H4 rfl
     have e5:=H5 rfl
     subst e0 e1 e2 e3 e4 e5 e6
     clear H0 H1 H2 H3 H4 H5 H6
     have c:=HG.out.cb (k:=0) rfl
     rw[HO.out,HA.out]
     refine zba rfl (by rfl) (fun K hK=>?_)
     try simp only[p1,p2,p3,p4]
     simp only[q1,q2,q3]
     go_simp
     (try(go_wp2_with fail))
     replace HG:=znd (HG.out.put6 (k:=0) rfl (.int .i64 (p.rows.length:Int)) (.slice (some ⟨g0,0,none⟩) L L) (.slice (some ⟨g1,0,none⟩) L L) (.slice (some ⟨g2,0,none⟩) L L) (.slice (some ⟨g3,0,none⟩) L L) (.slice (some ⟨g4,0,none⟩) p.rows.length p.rows.length))
     refine hK.out _ _ trivial (fun _=>?_)
     clear hK K c
     try simp only[p2,p3,p4]
     refine wpAnyH_done (by kernel_rfl) ?_ _
     rw[HQ.out]
     refine NoPanic.normal ?_
     go_wp2_with fail
     go_meet
     exact⟨g0,g1,g2,g3,g4,g5,rfl,HG⟩
  have h:=KEY.out 8 false false false false false false false undef undef undef undef undef undef undef 0 0 0 0 0 0 _ (by simp) (by simp) (by simp) (by simp) (by simp) (by simp) (by simp) (by decide) HG
  rw[HO.out,HA.out]at h
  try simp only[p1,p2,p3,p4]at h
  rw[HO.out,HA.out]
  try simp only[p1,p2,p3,p4]
  exact h
 case rest=>
  clear HG
  obtain⟨g0,g1,g2,g3,g4,g5,rfl,HG⟩:=hcut
  replace HG:=znd (HG.out.drop_.nils 65 5 L)
  obtain⟨AC,hAC⟩:∃A:Option Addr,A=some ⟨g0,0,none⟩:=⟨_,rfl⟩
  rw[←hAC]at HG
  have slAC:Sl AC L:=by rw[hAC];exact Sl.some_ _ _ _
  have qAC:∀x y:Nat,(adr AC x=adr AC y)=(x=y):=fun x y=>by rw[hAC,za6,za6];simp
  have rAC:∀x y:Nat,(⟨(adr AC x).block,(adr AC x).off+y,none⟩:Addr)=adr AC (x+y):=fun x y=>by rw[hAC,za6,za6,Nat.add_assoc]
  obtain⟨AL,hAL⟩:∃A:Option Addr,A=some ⟨g1,0,none⟩:=⟨_,rfl⟩
  rw[←hAL]at HG
  have slAL:Sl AL L:=by rw[hAL];exact Sl.some_ _ _ _
  have qAL:∀x y:Nat,(adr AL x=adr AL y)=(x=y):=fun x y=>by rw[hAL,za6,za6];simp
  have rAL:∀x y:Nat,(⟨(adr AL x).block,(adr AL x).off+y,none⟩:Addr)=adr AL (x+y):=fun x y=>by rw[hAL,za6,za6,Nat.add_assoc]
  obtain⟨AH,hAH⟩:∃A:Option Addr,A=some ⟨g2,0,none⟩:=⟨_,rfl⟩
  rw[←hAH]at HG
  have slAH:Sl AH L:=by rw[hAH];exact Sl.some_ _ _ _
  have qAH:∀x y:Nat,(adr AH x=adr AH y)=(x=y):=fun x y=>by rw[hAH,za6,za6];simp
  have rAH:∀x y:Nat,(⟨(adr AH x).block,(adr AH x).off+y,none⟩:Addr)=adr AH (x+y):=fun x y=>by rw[hAH,za6,za6,Nat.add_assoc]
  obtain⟨AK,hAK⟩:∃A:Option Addr,A=some ⟨g3,0,none⟩:=⟨_,rfl⟩
  rw[←hAK]at HG
  have slAK:Sl AK L:=by rw[hAK];exact Sl.some_ _ _ _
  have qAK:∀x y:Nat,(adr AK x=adr AK y)=(x=y):=fun x y=>by rw[hAK,za6,za6];simp
  have rAK:∀x y:Nat,(⟨(adr AK x).block,(adr AK x).off+y,none⟩:Addr)=adr AK (x+y):=fun x y=>by rw[hAK,za6,za6,Nat.add_assoc]
  obtain⟨AB,hAB⟩:∃A:Option Addr,A=some ⟨g4,0,none⟩:=⟨_,rfl⟩
  rw[←hAB]at HG
  have slAB:Sl AB p.rows.length:=by rw[hAB];exact Sl.some_ _ _ _
  have qAB:∀x y:Nat,(adr AB x=adr AB y)=(x=y):=fun x y=>by rw[hAB,za6,za6];simp
  have rAB:∀x y:Nat,(⟨(adr AB x).block,(adr AB x).off+y,none⟩:Addr)=adr AB (x+y):=fun x y=>by rw[hAB,za6,za6,Nat.add_assoc]
  have HAC:=znd hAC
  have HAL:=znd hAL
  have HAH:=znd hAH
  have HAK:=znd hAK
  have HAB:=znd hAB
  clear hAC hAL hAH hAK hAB
  replace HG:=znd (show(GL w (fls AC AL AH AK AB (w.heap.size+1) L p.rows.length (List.replicate L ⟨none,0,[]⟩) (List.replicate L (zeroR,0)) (List.replicate L (zeroR,0)) (List.replicate L (zeroR,0)) (List.replicate p.rows.length (zeroR,0))) (fun V=>Blk V (w.heap.size) 27 #[.slice p.Av p.vars.length p.cv,.slice p.Ar p.rows.length p.cr,.slice p.Ak p.cost.length p.ck]∧PrD N p V∧Tz V) (fun V=>Blk V g5 32 #[.int .i64 (p.rows.length:Int),.slice AC L L,.slice AL L L,.slice AH L L,.slice AK L L,.slice AB p.rows.length p.rows.length]∧FNew (List.replicate L ⟨none,0,[]⟩) (List.replicate L (zeroR,0)) (List.replicate L (zeroR,0)) (List.replicate L (zeroR,0)) (List.replicate p.rows.length (zeroR,0)) V) _)from by
   unfold fls
   simp only[List.map_replicate]
   exact HG.out.imp (fun V h=>h) (fun V h=>⟨h.1,FNew.zero L _ V⟩))
  have c:=Blk.cb HG.out.o.1
  go_wp2_with fail
  clear c
  go_loopw [51] (fun jv wr=>∃(j:Nat) (los his:List (RV×Rat)),jv=.int .i64 (j:Int)∧j≤p.vars.length∧Hid (F1 p L j los his)∧Hid (GL w (fls AC AL AH AK AB (w.heap.size+1) L p.rows.length (List.replicate L ⟨none,0,[]⟩) los his (List.replicate L (zeroR,0)) (List.replicate p.rows.length (zeroR,0))) (fun V=>Blk V (w.heap.size) 27 #[.slice p.Av p.vars.length p.cv,.slice p.Ar p.rows.length p.cr,.slice p.Ak p.cost.length p.ck]∧PrD N p V∧Tz V) (fun V=>Blk V g5 32 #[.int .i64 (p.rows.length:Int),.slice AC L L,.slice AL L L,.slice AH L L,.slice AK L L,.slice AB p.rows.length p.rows.length]∧FNew (List.replicate L ⟨none,0,[]⟩) los his (List.replicate L (zeroR,0)) (List.replicate p.rows.length (zeroR,0)) V) wr)) (fun jv _=>p.vars.length-(intOf jv).toNat)
  case atStart=>exact⟨0,(List.replicate L (zeroR,0)),(List.replicate L (zeroR,0)),rfl,Nat.zero_le _,znd ⟨by simp,by simp,fun a h=>absurd h (Nat.not_lt_zero _),fun a h=>absurd h (Nat.not_lt_zero _)⟩,HG⟩
  case round=>
   clear HG
   obtain⟨j,los,his,rfl,hj,HF,HG⟩:=hrel
   by_cases hlt:j<p.vars.length
   ·have hjL:j<L:=by have:=HL.out;omega
    have hjl:j<los.length:=by rw[HF.out.nl];exact hjL
    have hjh:j<his.length:=by rw[HF.out.nh];exact hjL
    have HNX:=znd (fun(r s:RV)=>HF.out.next hjL r s)
    have cv0:=HG.out.o.2.1.vars.vac j hlt
    have HVE:=znd (show∀V,PrD N p V→vaD N p.vars[j] V from fun V h=>h.vars.ok _ (List.getElem_mem hlt))
    rw[zb0 hlt]at HNX
    obtain⟨v,hv⟩:∃v,v=p.vars[j]:=⟨_,rfl⟩
    rw[←hv]at cv0 HVE HNX
    clear hv
    have c:=Blk.cb HG.out.n.1
    go_upto_region 9 with fail
    obtain⟨W2,gv,hW2,hgv,HG⟩:=HG.out.al 62 #[.bool v.lo.1.num.neg,.slice v.lo.1.num.A v.lo.1.num.k v.lo.1.num.c,.bool v.lo.1.den.neg,.slice v.lo.1.den.A v.lo.1.den.k v.lo.1.den.c,.bool v.hi.1.num.neg,.slice v.hi.1.num.A v.hi.1.num.k v.hi.1.num.c,.bool v.hi.1.den.neg,.slice v.hi.1.den.A v.hi.1.den.k v.hi.1.den.c,.bool v.int]
    rw[hW2,hgv]
    clear hW2 hgv c cv0
    refine wp_region_noPanic ?_
    refine wp_region_held_drew (S:=(fun W=>CB gv #[.bool v.lo.1.num.neg,.slice v.lo.1.num.A v.lo.1.num.k v.lo.1.num.c,.bool v.lo.1.den.neg,.slice v.lo.1.den.A v.lo.1.den.k v.lo.1.den.c,.bool v.hi.1.num.neg,.slice v.hi.1.num.A v.hi.1.num.k v.hi.1.num.c,.bool v.hi.1.den.neg,.slice v.hi.1.den.A v.hi.1.den.k v.hi.1.den.c,.bool v.int] W∧CB g5 #[.int .i64 (p.rows.length:Int),.slice AC L L,.slice AL L L,.slice AH L L,.slice AK L L,.slice AB p.rows.length p.rows.length] W)) (by kernel_rfl) (by with_reducible first|exact⟨Blk.cb HG.out.n.1,Blk.cb HG.out.n.2.1⟩|exact⟨Blk.cb HG.out.drew.n.1,Blk.cb HG.out.drew.n.2.1⟩|exact⟨Blk.cb HG.out.n.2.1,Blk.cb HG.out.n.2.2.1⟩|exact⟨Blk.cb HG.out.drew.n.2.1,Blk.cb HG.out.drew.n.2.2.1⟩|exact⟨Blk.cb HG.out.n.2.2.1,Blk.cb HG.out.n.2.2.2.1⟩|exact⟨Blk.cb HG.out.drew.n.2.2.1,Blk.cb HG.out.drew.n.2.2.2.1⟩) (fun hHeld=>?_)
    replace HG:=znd HG.out.drew
    refine hT 0 56 hHeld ?_
    refine hT 1 57 hHeld ?_
    refine hT 2 58 hHeld ?_
    refine hT 3 59 hHeld ?_
    refine hT 4 60 hHeld ?_
    refine hT 5 61 hHeld ?_
    refine hT 6 62 hHeld ?_
    refine hT 7 63 hHeld ?_
    refine hT 9 65 hHeld ?_
    refine hT 10 66 hHeld ?_
    refine za8 (i:=8) rfl (by kernel_rfl) (by rfl) (fun K hK=>?_)
    clear hHeld
    simp only[q1,q2,q3]
    go_simp
    refine(zaG _ v.lo.1 v.lo.2 N (by omega) h1N (HVE.out _ HG.out.o.2.1).1 HG.out.o.2.2).mono ?_
    rintro e wq ⟨k,rfl,hk,hb⟩
    replace HG:=znd (HG.out.call hk hb)
    clear hk hb
    (try(go_wp2_with fail))
    refine hK.out _ _ (by with_reducible first|exact⟨Blk.cb HG.out.n.1,Blk.cb HG.out.n.2.1⟩|exact⟨Blk.cb HG.out.drew.n.1,Blk.cb HG.out.drew.n.2.1⟩|exact⟨Blk.cb HG.out.n.2.1,Blk.cb HG.out.n.2.2.1⟩|exact⟨Blk.cb HG.out.drew.n.2.1,Blk.cb HG.out.drew.n.2.2.1⟩|exact⟨Blk.cb HG.out.n.2.2.1,Blk.cb HG.out.n.2.2.2.1⟩|exact⟨Blk.cb HG.out.drew.n.2.2.1,Blk.cb HG.out.drew.n.2.2.2.1⟩) (fun hHeld=>?_)
    clear hK K
    try simp only[p1,p2,p3,p4]
    refine za8 (i:=11) rfl (by kernel_rfl) (by rfl) (fun K hK=>?_)
    clear hHeld
    simp only[q1,q2,q3]
    go_simp
    refine(zaG _ v.hi.1 v.hi.2 N (by omega) h1N (HVE.out _ HG.out.o.2.1).2 HG.out.o.2.2).mono ?_
    rintro e wq ⟨m,rfl,hk,hb⟩
    replace HG:=znd (HG.out.call hk hb)
    clear hk hb
    (try(go_wp2_with fail))
    refine hK.out _ _ (by with_reducible first|exact⟨Blk.cb HG.out.n.1,Blk.cb HG.out.n.2.1⟩|exact⟨Blk.cb HG.out.drew.n.1,Blk.cb HG.out.drew.n.2.1⟩|exact⟨Blk.cb HG.out.n.2.1,Blk.cb HG.out.n.2.2.1⟩|exact⟨Blk.cb HG.out.drew.n.2.1,Blk.cb HG.out.drew.n.2.2.1⟩|exact⟨Blk.cb HG.out.n.2.2.1,Blk.cb HG.out.n.2.2.2.1⟩|exact⟨Blk.cb HG.out.drew.n.2.2.1,Blk.cb HG.out.drew.n.2.2.2.1⟩) (fun hHeld=>?_)
    clear hK K
    try simp only[p1,p2,p3,p4]
    refine hT 12 68 hHeld ?_
    have cl:=HG.out.rc (k:=1) rfl hjl
    have fl:=HG.out.free HAL.out (k:=1) rfl
    refine za8 (i:=13) rfl (by kernel_rfl) (by rfl) (fun K hK=>?_)
    clear hHeld
    simp only[q1,q2,q3]
    go_simp
    (try(go_wp2_with fail))
    replace HG:=znd (HG.out.putR HAL.out (k:=1) rfl hjl k v.lo.2)
    clear cl fl
    refine hK.out _ _ (by with_reducible first|exact⟨Blk.cb HG.out.n.1,Blk.cb HG.out.n.2.1⟩|exact⟨Blk.cb HG.out.drew.n.1,Blk.cb HG.out.drew.n.2.1⟩|exact⟨Blk.cb HG.out.n.2.1,Blk.cb HG.out.n.2.2.1⟩|exact⟨Blk.cb HG.out.drew.n.2.1,Blk.cb HG.out.drew.n.2.2.1⟩|exact⟨Blk.cb HG.out.n.2.2.1,Blk.cb HG.out.n.2.2.2.1⟩|exact⟨Blk.cb HG.out.drew.n.2.2.1,Blk.cb HG.out.drew.n.2.2.2.1⟩) (fun hHeld=>?_)
    clear hK K
    try simp only[p1,p2,p3,p4]
    refine hT 14 69 hHeld ?_
    have ch:=HG.out.rc (k:=2) rfl hjh
    have fh:=HG.out.free HAH.out (k:=2) rfl
    refine za8 (i:=15) rfl (by kernel_rfl) (by rfl) (fun K hK=>?_)
    clear hHeld
    simp only[q1,q2,q3]
    go_simp
    (try(go_wp2_with fail))
    replace HG:=znd (HG.out.putR HAH.out (k:=2) rfl hjh m v.hi.2)
    clear ch fh
    refine hK.out _ _ (by with_reducible first|exact⟨Blk.cb HG.out.n.1,Blk.cb HG.out.n.2.1⟩|exact⟨Blk.cb HG.out.drew.n.1,Blk.cb HG.out.drew.n.2.1⟩|exact⟨Blk.cb HG.out.n.2.1,Blk.cb HG.out.n.2.2.1⟩|exact⟨Blk.cb HG.out.drew.n.2.1,Blk.cb HG.out.drew.n.2.2.1⟩|exact⟨Blk.cb HG.out.n.2.2.1,Blk.cb HG.out.n.2.2.2.1⟩|exact⟨Blk.cb HG.out.drew.n.2.2.1,Blk.cb HG.out.drew.n.2.2.2.1⟩) (fun hHeld=>?_)
    clear hK K
    try simp only[p1,p2,p3,p4]
    clear hHeld
    refine wpAnyH_done (by kernel_rfl) ?_ _
    refine NoPanic.normal ?_
    go_wp2_with fail
    go_roundw
    case rel=>exact⟨j+1,los.set j (k,v.lo.2),his.set j (m,v.hi.2),by go_num,by omega,znd (HNX.out k m),znd (show GL w (fls AC AL AH AK AB (w.heap.size+1) L p.rows.length (List.replicate L ⟨none,0,[]⟩) (los.set j (k,v.lo.2)) (his.set j (m,v.hi.2)) (List.replicate L (zeroR,0)) (List.replicate p.rows.length (zeroR,0))) _ _ _ from HG.out.imp (fun V h=>h) (fun V h=>⟨h.2.2.2.1,⟨zcu h.2.2.2.2.lo h.2.1,zcu h.2.2.2.2.hi h.1,h.2.2.2.2.k,h.2.2.2.2.b,h.2.2.2.2.c⟩⟩))⟩
    case measure=>(simp[intOf]<;>omega)
   ·obtain rfl:j=p.vars.length:=by omega
    have c:=Blk.cb HG.out.o.1
    go_wp2_with fail
    clear c
    go_loopw [74] (fun jv wr=>∃(j:Nat) (ks:List (RV×Rat)),jv=.int .i64 (j:Int)∧j≤p.cost.length∧Hid (F2 p L j ks)∧Hid (GL w (fls AC AL AH AK AB (w.heap.size+1) L p.rows.length (List.replicate L ⟨none,0,[]⟩) los his ks (List.replicate p.rows.length (zeroR,0))) (fun V=>Blk V (w.heap.size) 27 #[.slice p.Av p.vars.length p.cv,.slice p.Ar p.rows.length p.cr,.slice p.Ak p.cost.length p.ck]∧PrD N p V∧Tz V) (fun V=>Blk V g5 32 #[.int .i64 (p.rows.length:Int),.slice AC L L,.slice AL L L,.slice AH L L,.slice AK L L,.slice AB p.rows.length p.rows.length]∧FNew (List.replicate L ⟨none,0,[]⟩) los his ks (List.replicate p.rows.length (zeroR,0)) V) wr)) (fun jv _=>p.cost.length-(intOf jv).toNat)
    case atStart=>exact⟨0,(List.replicate L (zeroR,0)),rfl,Nat.zero_le _,znd (F2.start p L),HG⟩
    case round=>
     clear HG
     obtain⟨j,ks,rfl,hj,HF2,HG⟩:=hrel
     by_cases hlt:j<p.cost.length
     ·have ct0:=HG.out.o.2.1.cost.tc j hlt
      obtain⟨h0,h1⟩:=HR.out.cost.rng _ (List.getElem_mem hlt)
      obtain⟨pl,hpl⟩:∃pl:Nat,p.cost[j].pl=(pl:Int):=⟨p.cost[j].pl.toNat,by omega⟩
      have HNX:=znd (fun(hl:pl<L) (r:RV)=>HF2.out.next hlt HR.out.cost.rise hpl hl r)
      have HTE:=znd (show∀V,PrD N p V→teD N p.cost[j] V from fun V h=>h.cost.ok _ (List.getElem_mem hlt))
      obtain⟨t,ht⟩:∃t,t=p.cost[j]:=⟨_,rfl⟩
      rw[←ht]at ct0 HTE HNX hpl h1
      dsimp only[TC]at ct0
      rw[hpl]at ct0 h1
      clear ht hpl h0
      have hpL:pl<L:=by have:=HL.out;omega
      have hpk:pl<ks.length:=by rw[HF2.out.nk];exact hpL
      have c:=Blk.cb HG.out.n.1
      go_upto_region 14 with fail
      obtain⟨W2,gt,hW2,hgt,HG⟩:=HG.out.al 65 #[.int .i64 (pl:Int),.bool t.r.num.neg,.slice t.r.num.A t.r.num.k t.r.num.c,.bool t.r.den.neg,.slice t.r.den.A t.r.den.k t.r.den.c]
      rw[hW2,hgt]
      clear hW2 hgt c ct0
      refine wp_region_noPanic ?_
      refine wp_region_held_drew (S:=(fun W=>CB gt #[.int .i64 (pl:Int),.bool t.r.num.neg,.slice t.r.num.A t.r.num.k t.r.num.c,.bool t.r.den.neg,.slice t.r.den.A t.r.den.k t.r.den.c] W∧CB g5 #[.int .i64 (p.rows.length:Int),.slice AC L L,.slice AL L L,.slice AH L L,.slice AK L L,.slice AB p.rows.length p.rows.length] W)) (by kernel_rfl) (by with_reducible first|exact⟨Blk.cb HG.out.n.1,Blk.cb HG.out.n.2.1⟩|exact⟨Blk.cb HG.out.drew.n.1,Blk.cb HG.out.drew.n.2.1⟩|exact⟨Blk.cb HG.out.n.2.1,Blk.cb HG.out.n.2.2.1⟩|exact⟨Blk.cb HG.out.drew.n.2.1,Blk.cb HG.out.drew.n.2.2.1⟩) (fun hHeld=>?_)
      replace HG:=znd HG.out.drew
      refine hT 0 78 hHeld ?_
      refine hT 1 79 hHeld ?_
      refine hT 2 80 hHeld ?_
      refine hT 3 81 hHeld ?_
      refine hT 4 82 hHeld ?_
      refine hT 5 83 hHeld ?_
      refine za8 (i:=6) rfl (by kernel_rfl) (by rfl) (fun K hK=>?_)
      clear hHeld
      simp only[q1,q2,q3]
      go_simp
      refine(zaG _ t.r t.q N (by omega) h1N (HTE.out _ HG.out.o.2.1) HG.out.o.2.2).mono ?_
      rintro e wq ⟨k,rfl,hk,hb⟩
      replace HG:=znd (HG.out.call hk hb)
      clear hk hb
      (try(go_wp2_with fail))
      refine hK.out _ _ (by with_reducible first|exact⟨Blk.cb HG.out.n.1,Blk.cb HG.out.n.2.1⟩|exact⟨Blk.cb HG.out.drew.n.1,Blk.cb HG.out.drew.n.2.1⟩|exact⟨Blk.cb HG.out.n.2.1,Blk.cb HG.out.n.2.2.1⟩|exact⟨Blk.cb HG.out.drew.n.2.1,Blk.cb HG.out.drew.n.2.2.1⟩) (fun hHeld=>?_)
      clear hK K
      try simp only[p1,p2,p3,p4]
      refine hT 7 85 hHeld ?_
      have ck:=HG.out.rc (k:=3) rfl hpk
      have fk:=HG.out.free HAK.out (k:=3) rfl
      refine za8 (i:=8) rfl (by kernel_rfl) (by rfl) (fun K hK=>?_)
      clear hHeld
      simp only[q1,q2,q3]
      go_simp
      (try(go_wp2_with fail))
      replace HG:=znd (HG.out.putR HAK.out (k:=3) rfl hpk k t.q)
      clear ck fk
      refine hK.out _ _ (by with_reducible first|exact⟨Blk.cb HG.out.n.1,Blk.cb HG.out.n.2.1⟩|exact⟨Blk.cb HG.out.drew.n.1,Blk.cb HG.out.drew.n.2.1⟩|exact⟨Blk.cb HG.out.n.2.1,Blk.cb HG.out.n.2.2.1⟩|exact⟨Blk.cb HG.out.drew.n.2.1,Blk.cb HG.out.drew.n.2.2.1⟩) (fun hHeld=>?_)
      clear hK K
      try simp only[p1,p2,p3,p4]
      clear hHeld
      refine wpAnyH_done (by kernel_rfl) ?_ _
      refine NoPanic.normal ?_
      go_wp2_with fail
      go_roundw
      case rel=>exact⟨j+1,ks.set pl (k,t.q),by go_num,by omega,znd (HNX.out hpL k),znd (show GL w (fls AC AL AH AK AB (w.heap.size+1) L p.rows.length (List.replicate L ⟨none,0,[]⟩) los his (ks.set pl (k,t.q)) (List.replicate p.rows.length (zeroR,0))) _ _ _ from HG.out.imp (fun V h=>h) (fun V h=>⟨h.2.2.1,⟨h.2.2.2.lo,h.2.2.2.hi,zcu h.2.2.2.k h.1,h.2.2.2.b,h.2.2.2.c⟩⟩))⟩
      case measure=>(simp[intOf]<;>omega)
     ·obtain rfl:j=p.cost.length:=by omega
      have HF3:=znd (F3.start HL.out HF.out)
      clear HF
      have c:=Blk.cb HG.out.o.1
      go_wp2_with fail
      clear c
      go_loopw [90] (fun iv wr=>∃(i:Nat) (cs:List VeV) (los his bs:List (RV×Rat)),iv=.int .i64 (i:Int)∧i≤p.rows.length∧Hid (F3 p L i cs los his bs)∧Hid (GL w (fls AC AL AH AK AB (w.heap.size+1) L p.rows.length cs los his ks bs) (fun V=>Blk V (w.heap.size) 27 #[.slice p.Av p.vars.length p.cv,.slice p.Ar p.rows.length p.cr,.slice p.Ak p.cost.length p.ck]∧PrD N p V∧Tz V) (fun V=>Blk V g5 32 #[.int .i64 (p.rows.length:Int),.slice AC L L,.slice AL L L,.slice AH L L,.slice AK L L,.slice AB p.rows.length p.rows.length]∧FNew cs los his ks bs V) wr)) (fun iv _=>p.rows.length-(intOf iv).toNat)
      case atStart=>exact⟨0,(List.replicate L ⟨none,0,[]⟩),los,his,(List.replicate p.rows.length (zeroR,0)),rfl,Nat.zero_le _,HF3,HG⟩
      case round=>
       clear HG HF3
       obtain⟨i,cs,los,his,bs,rfl,hi,HF,HG⟩:=hrel
       by_cases hlt:i<p.rows.length
       ·have cr0:=HG.out.o.2.1.rows.rwc i hlt
        have hrk:=HR.out.ro _ (List.getElem_mem hlt)
        have hrl:=zdu hrk.2.rise hrk.2.rng
        have HRW:=znd (show∀V,PrD N p V→rwD N p.rows[i] V from fun V h=>h.rows.ok _ (List.getElem_mem hlt))
        have hro:p.rows[i]! =p.rows[i]:=zb0 hlt
        obtain⟨r,hr⟩:∃r,r=p.rows[i]:=⟨_,rfl⟩
        rw[←hr]at cr0 HRW hro hrk hrl
        clear hr
        have Hro:=znd hro
        have Hrk:=znd hrk
        have hrl2:r.ts.length≤600:=by omega
        clear hro hrk hrl
        have HRA:=znd (show∀a,a<i→Rise (p.rows[a]!).ts from fun a ha=>by rw[zb0 (by omega)];exact(HR.out.ro _ (List.getElem_mem (by omega))).2.rise)
        have slt:Sl r.A r.ts.length:=(HRW.out _ HG.out.o.2.1).1.sl
        have c:=Blk.cb HG.out.n.1
        go_upto_region 19 with fail
        obtain⟨W2,gr,hW2,hgr,HG⟩:=HG.out.al 68 #[.slice r.A r.ts.length r.c,.int .u8 r.kind,.bool r.b.1.num.neg,.slice r.b.1.num.A r.b.1.num.k r.b.1.num.c,.bool r.b.1.den.neg,.slice r.b.1.den.A r.b.1.den.k r.b.1.den.c]
        rw[hW2,hgr]
        clear hW2 hgr c cr0
        have c:=Blk.cb HG.out.n.1
        go_wp2_with fail
        clear c
        go_loopw [98] (fun kv wr=>∃(k:Nat) (ds:List VeV),kv=.int .i64 (k:Int)∧k≤r.ts.length∧Hid (F4 p L i k r.ts cs ds)∧Hid (GL w (fls AC AL AH AK AB (w.heap.size+1) L p.rows.length ds los his ks bs) (fun V=>Blk V (w.heap.size) 27 #[.slice p.Av p.vars.length p.cv,.slice p.Ar p.rows.length p.cr,.slice p.Ak p.cost.length p.ck]∧PrD N p V∧Tz V) (fun V=>Blk V gr 68 #[.slice r.A r.ts.length r.c,.int .u8 r.kind,.bool r.b.1.num.neg,.slice r.b.1.num.A r.b.1.num.k r.b.1.num.c,.bool r.b.1.den.neg,.slice r.b.1.den.A r.b.1.den.k r.b.1.den.c]∧Blk V g5 32 #[.int .i64 (p.rows.length:Int),.slice AC L L,.slice AL L L,.slice AH L L,.slice AK L L,.slice AB p.rows.length p.rows.length]∧FNew ds los his ks bs V) wr)) (fun kv _=>r.ts.length-(intOf kv).toNat)
        case atStart=>exact⟨0,cs,rfl,Nat.zero_le _,znd (F4.start HF.out.nc),HG⟩
        case round=>
         clear HG
         obtain⟨k,ds,rfl,hk,H4,HG⟩:=hrel
         by_cases hlt4:k<r.ts.length
         ·have ct0:=(HRW.out _ HG.out.o.2.1).1.tc k hlt4
          obtain⟨h0,h1⟩:=Hrk.out.2.rng _ (List.getElem_mem hlt4)
          obtain⟨pl,hpl⟩:∃pl:Nat,r.ts[k].pl=(pl:Int):=⟨r.ts[k].pl.toNat,by omega⟩
          have hpn:pl<p.vars.length:=by omega
          have hpL:pl<L:=by have:=HL.out;omega
          have hpd:pl<ds.length:=by rw[H4.out.nc];exact hpL
          have HNX:=znd (fun(A:Option Addr) (c:Nat) (rr:RV)=>H4.out.next hlt4 hpl hpn (by have:=HL.out;omega) A c rr)
          have HLN:=znd (H4.out.len HF.out HRA.out Hrk.out.2.rise hpn)
          have HTE:=znd (show∀V,PrD N p V→teD N r.ts[k] V from fun V h=>(HRW.out V h).1.ok _ (List.getElem_mem hlt4))
          obtain⟨t,ht⟩:∃t,t=r.ts[k]:=⟨_,rfl⟩
          rw[←ht]at ct0 HTE HNX hpl h1
          dsimp only[TC]at ct0
          rw[hpl]at ct0 h1
          clear ht hpl h0
          rw[zb0 hpd]at HNX HLN
          obtain⟨v,hv⟩:∃v,v=ds[pl]:=⟨_,rfl⟩
          rw[←hv]at HNX HLN
          have Hv:=znd hv
          clear hv
          have HVC:=znd (show∀(ls':List Ow) (new':World→Prop) (V:World),GL w ls' (fun V=>Blk V (w.heap.size) 27 #[.slice p.Av p.vars.length p.cv,.slice p.Ar p.rows.length p.cr,.slice p.Ak p.cost.length p.ck]∧PrD N p V∧Tz V) new' V→ls'[0]?=some ⟨25,1,.slice AC L L,ds.map za3⟩→V.cell? (adr AC pl)=some (.slice v.A v.ts.length v.c)from fun ls' new' V h h0=>by rw[Hv.out];exact h.vc h0 hpd)
          have c:=Blk.cb HG.out.n.1
          go_upto_region 22 with fail
          obtain⟨W3,gt,hW3,hgt,HG⟩:=HG.out.al 65 #[.int .i64 (pl:Int),.bool t.r.num.neg,.slice t.r.num.A t.r.num.k t.r.num.c,.bool t.r.den.neg,.slice t.r.den.A t.r.den.k t.r.den.c]
          rw[hW3,hgt]
          clear hW3 hgt c ct0
          refine wp_region_noPanic ?_
          refine zab 18 (fun W=>CB gt #[.int .i64 (pl:Int),.bool t.r.num.neg,.slice t.r.num.A t.r.num.k t.r.num.c,.bool t.r.den.neg,.slice t.r.den.A t.r.den.k t.r.den.c] W∧CB g5 #[.int .i64 (p.rows.length:Int),.slice AC L L,.slice AL L L,.slice AH L L,.slice AK L L,.slice AB p.rows.length p.rows.length] W∧W.cell? (adr AC pl)=some (.slice v.A v.ts.length v.c)) (by kernel_rfl) (by with_reducible first|exact⟨Blk.cb HG.out.n.1,Blk.cb HG.out.n.2.2.1,HVC.out _ _ _ HG.out rfl⟩|exact⟨Blk.cb HG.out.drew.n.1,Blk.cb HG.out.drew.n.2.2.1,HVC.out _ _ _ HG.out.drew rfl⟩|exact⟨Blk.cb HG.out.n.2.1,Blk.cb HG.out.n.2.2.2.1,HVC.out _ _ _ HG.out rfl⟩|exact⟨Blk.cb HG.out.drew.n.2.1,Blk.cb HG.out.drew.n.2.2.2.1,HVC.out _ _ _ HG.out.drew rfl⟩|exact⟨Blk.cb HG.out.n.2.2.1,Blk.cb HG.out.n.2.2.2.2.1,HVC.out _ _ _ HG.out rfl⟩|exact⟨Blk.cb HG.out.drew.n.2.2.1,Blk.cb HG.out.drew.n.2.2.2.2.1,HVC.out _ _ _ HG.out.drew rfl⟩) (fun hHeld=>?_)
          replace HG:=znd HG.out.drew
          refine gTa 0 102 hHeld ?_
          refine gTa 1 103 hHeld ?_
          refine gTa 2 104 hHeld ?_
          refine gTa 3 105 hHeld ?_
          refine gTa 4 106 hHeld ?_
          refine gTa 5 107 hHeld ?_
          refine gTa 6 108 hHeld ?_
          refine gTa 7 109 hHeld ?_
          refine gTa 8 110 hHeld ?_
          refine gTa 9 111 hHeld ?_
          refine gTa 10 112 hHeld ?_
          refine gTa 11 113 hHeld ?_
          refine gTa 12 114 hHeld ?_
          refine gC 13 rfl (by kernel_rfl) (by rfl) (fun K hK=>?_)
          clear hHeld
          simp only[q1,q2,q3]
          go_simp
          refine(zaG _ t.r t.q N (by omega) h1N (HTE.out _ HG.out.o.2.1) HG.out.o.2.2).mono ?_
          rintro e wq ⟨q,rfl,hk,hb⟩
          replace HG:=znd (HG.out.call hk hb)
          clear hk hb
          (try(go_wp2_with fail))
          refine hK.out _ _ (by with_reducible first|exact⟨Blk.cb HG.out.n.1,Blk.cb HG.out.n.2.2.1,HVC.out _ _ _ HG.out rfl⟩|exact⟨Blk.cb HG.out.drew.n.1,Blk.cb HG.out.drew.n.2.2.1,HVC.out _ _ _ HG.out.drew rfl⟩|exact⟨Blk.cb HG.out.n.2.1,Blk.cb HG.out.n.2.2.2.1,HVC.out _ _ _ HG.out rfl⟩|exact⟨Blk.cb HG.out.drew.n.2.1,Blk.cb HG.out.drew.n.2.2.2.1,HVC.out _ _ _ HG.out.drew rfl⟩|exact⟨Blk.cb HG.out.n.2.2.1,Blk.cb HG.out.n.2.2.2.2.1,HVC.out _ _ _ HG.out rfl⟩|exact⟨Blk.cb HG.out.drew.n.2.2.1,Blk.cb HG.out.drew.n.2.2.2.2.1,HVC.out _ _ _ HG.out.drew rfl⟩) (fun hHeld=>?_)
          clear hK K
          try simp only[p1,p2,p3,p4]
          refine gTa 14 116 hHeld ?_
          refine gC 15 rfl (by kernel_rfl) (by rfl) (fun K hK=>?_)
          clear hHeld
          simp only[q1,q2,q3]
          go_simp
          (try(go_wp2_with fail))
          obtain⟨W4,gb,hW4,hgb,HG⟩:=HG.out.al 65 #[.int .i64 (i:Int),.bool q.num.neg,.slice q.num.A q.num.k q.num.c,.bool q.den.neg,.slice q.den.A q.den.k q.den.c]
          rw[hW4,hgb]
          clear hW4 hgb
          (try(go_wp2_with fail))
          refine hK.out _ _ (by with_reducible first|exact⟨Blk.cb HG.out.n.1,Blk.cb HG.out.n.2.2.1,HVC.out _ _ _ HG.out rfl⟩|exact⟨Blk.cb HG.out.drew.n.1,Blk.cb HG.out.drew.n.2.2.1,HVC.out _ _ _ HG.out.drew rfl⟩|exact⟨Blk.cb HG.out.n.2.1,Blk.cb HG.out.n.2.2.2.1,HVC.out _ _ _ HG.out rfl⟩|exact⟨Blk.cb HG.out.drew.n.2.1,Blk.cb HG.out.drew.n.2.2.2.1,HVC.out _ _ _ HG.out.drew rfl⟩|exact⟨Blk.cb HG.out.n.2.2.1,Blk.cb HG.out.n.2.2.2.2.1,HVC.out _ _ _ HG.out rfl⟩|exact⟨Blk.cb HG.out.drew.n.2.2.1,Blk.cb HG.out.drew.n.2.2.2.2.1,HVC.out _ _ _ HG.out.drew rfl⟩) (fun hHeld=>?_)
          clear hK K
          try simp only[p1,p2,p3,p4]
          obtain⟨A2,c2,W5,hrun,HG2⟩:=HG.out.appV (k:=pl+6) (v:=v) (show(ds.map zbu)[pl]?=some (zbu v)from by rw[List.getElem?_map,List.getElem?_eq_getElem hpd,←Hv.out];rfl) ⟨(i:Int),q,t.q⟩ HG.out.n.1 (by have:=HLN.out;omega)
          refine gC 16 rfl (by kernel_rfl) (by rfl) (fun K hK=>?_)
          clear hHeld
          simp only[q1,q2,q3]
          refine zdD (.tmp 111) (.tmp 117) 25 _ _ _ rfl rfl rfl hrun ?_
          clear hrun
          replace HG:=znd HG2
          clear HG2
          refine hK.out _ _ (by with_reducible first|exact⟨Blk.cb HG.out.n.1,Blk.cb HG.out.n.2.2.1,HVC.out _ _ _ HG.out rfl⟩|exact⟨Blk.cb HG.out.drew.n.1,Blk.cb HG.out.drew.n.2.2.1,HVC.out _ _ _ HG.out.drew rfl⟩|exact⟨Blk.cb HG.out.n.2.1,Blk.cb HG.out.n.2.2.2.1,HVC.out _ _ _ HG.out rfl⟩|exact⟨Blk.cb HG.out.drew.n.2.1,Blk.cb HG.out.drew.n.2.2.2.1,HVC.out _ _ _ HG.out.drew rfl⟩|exact⟨Blk.cb HG.out.n.2.2.1,Blk.cb HG.out.n.2.2.2.2.1,HVC.out _ _ _ HG.out rfl⟩|exact⟨Blk.cb HG.out.drew.n.2.2.1,Blk.cb HG.out.drew.n.2.2.2.2.1,HVC.out _ _ _ HG.out.drew rfl⟩) (fun hHeld=>?_)
          clear hK K
          try simp only[p1,p2,p3,p4]
          refine gTa 17 119 hHeld ?_
          have cc:=HVC.out _ _ _ HG.out rfl
          have fc:=HG.out.free HAC.out (k:=0) rfl
          refine gL rfl (by kernel_rfl) (by kernel_rfl) (by rfl) (fun K hK=>?_)
          clear hHeld
          simp only[q1,q2,q3]
          go_simp
          (try(go_wp2_with fail))
          refine hK.out _ _ ?_
          clear hK K
          try simp only[p1,p2,p3,p4]
          refine NoPanic.normal ?_
          clear cc fc
          replace HG:=znd (HG.out.putV HAC.out (k:=0) rfl hpd ⟨A2,c2,v.ts++[⟨(i:Int),q,t.q⟩]⟩)
          go_wp2_with fail
          go_roundw
          case rel=>exact⟨k+1,ds.set pl ⟨A2,c2,v.ts++[⟨(i:Int),q,t.q⟩]⟩,by go_num,by omega,znd (HNX.out A2 c2 q),znd (show GL w (fls AC AL AH AK AB (w.heap.size+1) L p.rows.length (ds.set pl ⟨A2,c2,v.ts++[⟨(i:Int),q,t.q⟩]⟩) los his ks bs) _ _ _ from by
           have hg:=HG.out.imp (φ:=fun V=>Blk V (w.heap.size) 27 #[.slice p.Av p.vars.length p.cv,.slice p.Ar p.rows.length p.cr,.slice p.Ak p.cost.length p.ck]∧PrD N p V∧Tz V) (ψ:=fun V=>Blk V gr 68 #[.slice r.A r.ts.length r.c,.int .u8 r.kind,.bool r.b.1.num.neg,.slice r.b.1.num.A r.b.1.num.k r.b.1.num.c,.bool r.b.1.den.neg,.slice r.b.1.den.A r.b.1.den.k r.b.1.den.c]∧Blk V g5 32 #[.int .i64 (p.rows.length:Int),.slice AC L L,.slice AL L L,.slice AH L L,.slice AK L L,.slice AB p.rows.length p.rows.length]∧FNew (ds.set pl ⟨A2,c2,v.ts++[⟨(i:Int),q,t.q⟩]⟩) los his ks bs V) (fun V h=>h) (fun V h=>⟨h.2.2.2.1,h.2.2.2.2.1,⟨h.2.2.2.2.2.lo,h.2.2.2.2.2.hi,h.2.2.2.2.2.k,h.2.2.2.2.2.b,zcu h.2.2.2.2.2.c (fun x hx=>(List.mem_append.1 hx).elim (fun hx=>h.2.2.2.2.2.c v (by rw[Hv.out];exact List.getElem_mem hpd) x hx) (fun hx=>by rw[List.mem_singleton.1 hx];exact h.2.1))⟩⟩)
           unfold fls
           rw[List.map_set (f:=zbu)]
           dsimp only at hg
           rw[List.length_append]at hg
           exact hg)⟩
          case measure=>(simp[intOf]<;>omega)
         ·obtain rfl:k=r.ts.length:=by omega
          obtain⟨J,hJ⟩:∃J,J=p.vars.length+i:=⟨_,rfl⟩
          have hJc:(p.vars.length:Int)+(i:Int)=(J:Int):=by omega
          have hJL:J<L:=by have:=HL.out;omega
          have hJ0:J<1200:=by omega
          have hwJ:IntKind.i64.wrap (J:Int)=(J:Int):=by rw[IntKind.wrap_i64];omega
          have HNX:=znd (fun(A:Option Addr) (c:Nat) (q qx1 qx2 qx3:RV)=>HF.out.next hlt HL.out Hro.out H4.out A c q qx1 qx2 qx3)
          rw[←hJ]at HNX
          have hJd:J<ds.length:=by rw[H4.out.nc];exact hJL
          have hJl:J<los.length:=by rw[HF.out.f1.nl];exact hJL
          have hJh:J<his.length:=by rw[HF.out.f1.nh];exact hJL
          have hib:i<bs.length:=by rw[HF.out.nb];exact hlt
          have hds:ds[J]=⟨none,0,[]⟩:=by rw[←zb0 hJd,hJ,H4.out.same _ (by omega),HF.out.emp i (Nat.le_refl _) hlt]
          have Hds:=znd hds
          clear hds hJ
          go_upto_region 24 with fail
          refine wp_region_noPanic ?_
          refine wp_region_held_drew (S:=(fun W=>CB g5 #[.int .i64 (p.rows.length:Int),.slice AC L L,.slice AL L L,.slice AH L L,.slice AK L L,.slice AB p.rows.length p.rows.length] W)) (by kernel_rfl) (by with_reducible first|exact(Blk.cb HG.out.n.2.1)|exact(Blk.cb HG.out.drew.n.2.1)|exact(Blk.cb HG.out.n.2.2.1)|exact(Blk.cb HG.out.drew.n.2.2.1)) (fun hHeld=>?_)
          replace HG:=znd HG.out.drew
          refine hT 0 121 hHeld ?_
          refine hT 1 122 hHeld ?_
          refine hT 2 123 hHeld ?_
          refine hT 3 124 hHeld ?_
          refine za2 (i:=4) (v:=(.int .i64 (J:Int))) (some 125) rfl rfl (by kernel_rfl) (by kernel_rfl) (by kernel_rfl) (fun _ _ _ h=>h) (Or.inl ⟨by rfl,?_⟩) hHeld ?_
          ·intro w hSw
           (try dsimp only at hSw)
           (first|(go_simp;done)|(go_simp;with_reducible rfl))
          try simp only[p1,p2,p3,p4]
          refine hT 5 126 hHeld ?_
          refine za8 (i:=6) rfl (by kernel_rfl) (by rfl) (fun K hK=>?_)
          clear hHeld
          simp only[q1,q2,q3]
          go_simp
          refine(zg2 _ 1 1 (by decide) (by decide) (by decide) (by decide) HG.out.o.2.2).mono ?_
          rintro e wq ⟨q,rfl,hk,hb⟩
          rw[show Rat.divInt 1 1=1 from by decide]at hk
          replace HG:=znd (HG.out.call hk hb)
          clear hk hb
          (try(go_wp2_with fail))
          refine hK.out _ _ (by with_reducible first|exact(Blk.cb HG.out.n.2.1)|exact(Blk.cb HG.out.drew.n.2.1)|exact(Blk.cb HG.out.n.2.2.1)|exact(Blk.cb HG.out.drew.n.2.2.1)) (fun hHeld=>?_)
          clear hK K
          try simp only[p1,p2,p3,p4]
          refine hT 7 128 hHeld ?_
          refine za8 (i:=8) rfl (by kernel_rfl) (by rfl) (fun K hK=>?_)
          clear hHeld
          simp only[q1,q2,q3]
          go_simp
          (try(go_wp2_with fail))
          obtain⟨W4,gb,hW4,hgb,HG⟩:=HG.out.newV' (k:=J+6) (c:=0) (show(ds.map zbu)[J]?=some (zbu ⟨none,0,[]⟩)from by rw[List.getElem?_map,List.getElem?_eq_getElem hJd,Hds.out];rfl) ⟨(i:Int),q,1⟩
          dsimp only[tecells]at hW4
          rw[hW4,hgb]
          clear hW4 hgb
          (try(go_wp2_with fail))
          refine hK.out _ _ (by with_reducible first|exact(Blk.cb HG.out.n.2.1)|exact(Blk.cb HG.out.drew.n.2.1)|exact(Blk.cb HG.out.n.2.2.1)|exact(Blk.cb HG.out.drew.n.2.2.1)) (fun hHeld=>?_)
          clear hK K
          try simp only[p1,p2,p3,p4]
          refine hT 9 130 hHeld ?_
          have cc:=HG.out.vc (k:=0) rfl hJd
          rw[Hds.out]at cc
          have fc:=HG.out.free HAC.out (k:=0) rfl
          refine za8 (i:=10) rfl (by kernel_rfl) (by rfl) (fun K hK=>?_)
          clear hHeld
          simp only[q1,q2,q3]
          go_simp
          (try(go_wp2_with fail))
          clear cc fc
          replace HG:=znd (HG.out.putV HAC.out (k:=0) rfl hJd ⟨some ⟨gb,0,none⟩,1,[⟨(i:Int),q,1⟩]⟩)
          refine hK.out _ _ (by with_reducible first|exact(Blk.cb HG.out.n.2.1)|exact(Blk.cb HG.out.drew.n.2.1)|exact(Blk.cb HG.out.n.2.2.1)|exact(Blk.cb HG.out.drew.n.2.2.1)) (fun hHeld=>?_)
          clear hK K
          try simp only[p1,p2,p3,p4]
          clear hHeld
          refine wpAnyH_done (by kernel_rfl) ?_ _
          refine NoPanic.normal ?_
          replace HG:=znd (show(GL w (fls AC AL AH AK AB (w.heap.size+1) L p.rows.length (ds.set J ⟨some ⟨gb,0,none⟩,1,[⟨(i:Int),q,1⟩]⟩) los his ks bs) (fun V=>Blk V (w.heap.size) 27 #[.slice p.Av p.vars.length p.cv,.slice p.Ar p.rows.length p.cr,.slice p.Ak p.cost.length p.ck]∧PrD N p V∧Tz V) (fun V=>Blk V gr 68 #[.slice r.A r.ts.length r.c,.int .u8 r.kind,.bool r.b.1.num.neg,.slice r.b.1.num.A r.b.1.num.k r.b.1.num.c,.bool r.b.1.den.neg,.slice r.b.1.den.A r.b.1.den.k r.b.1.den.c]∧Blk V g5 32 #[.int .i64 (p.rows.length:Int),.slice AC L L,.slice AL L L,.slice AH L L,.slice AK L L,.slice AB p.rows.length p.rows.length]∧FNew (ds.set J ⟨some ⟨gb,0,none⟩,1,[⟨(i:Int),q,1⟩]⟩) los his ks bs V) _)from by
           unfold fls
           rw[List.map_set (f:=zbu)]
           exact HG.out.imp (fun V h=>h) (fun V h=>⟨h.2.1,h.2.2.1,⟨h.2.2.2.lo,h.2.2.2.hi,h.2.2.2.k,h.2.2.2.b,zcu h.2.2.2.c (fun x hx=>by rw[List.mem_singleton.1 hx];exact h.1)⟩⟩))
          go_upto_region 25 with fail
          refine wp_region_noPanic ?_
          refine wp_region_held_drew (S:=(fun W=>CB (w.heap.size) #[.slice p.Av p.vars.length p.cv,.slice p.Ar p.rows.length p.cr,.slice p.Ak p.cost.length p.ck] W∧CB gr #[.slice r.A r.ts.length r.c,.int .u8 r.kind,.bool r.b.1.num.neg,.slice r.b.1.num.A r.b.1.num.k r.b.1.num.c,.bool r.b.1.den.neg,.slice r.b.1.den.A r.b.1.den.k r.b.1.den.c] W∧CB g5 #[.int .i64 (p.rows.length:Int),.slice AC L L,.slice AL L L,.slice AH L L,.slice AK L L,.slice AB p.rows.length p.rows.length] W)) (by kernel_rfl) (by with_reducible first|exact⟨Blk.cb HG.out.o.1,Blk.cb HG.out.n.1,Blk.cb HG.out.n.2.1⟩|exact⟨Blk.cb HG.out.drew.o.1,Blk.cb HG.out.drew.n.1,Blk.cb HG.out.drew.n.2.1⟩|exact⟨Blk.cb HG.out.o.1,Blk.cb HG.out.n.2.1,Blk.cb HG.out.n.2.2.1⟩|exact⟨Blk.cb HG.out.drew.o.1,Blk.cb HG.out.drew.n.2.1,Blk.cb HG.out.drew.n.2.2.1⟩) (fun hHeld=>?_)
          replace HG:=znd HG.out.drew
          refine hT 0 132 hHeld ?_
          refine hT 1 133 hHeld ?_
          refine hT 2 134 hHeld ?_
          refine hT 3 135 hHeld ?_
          refine za2 (i:=4) (v:=(.int .i64 (J:Int))) (some 136) rfl rfl (by kernel_rfl) (by kernel_rfl) (by kernel_rfl) (fun _ _ _ h=>h) (Or.inl ⟨by rfl,?_⟩) hHeld ?_
          ·intro w hSw
           (try dsimp only at hSw)
           (first|(go_simp;done)|(go_simp;with_reducible rfl))
          try simp only[p1,p2,p3,p4]
          refine hT 5 137 hHeld ?_
          refine hT 6 138 hHeld ?_
          refine hT 7 139 hHeld ?_
          refine hT 8 140 hHeld ?_
          refine za2 (i:=9) (v:=(.int .i64 (J:Int))) (some 141) rfl rfl (by kernel_rfl) (by kernel_rfl) (by kernel_rfl) (fun _ _ _ h=>h) (Or.inl ⟨by rfl,?_⟩) hHeld ?_
          ·intro w hSw
           (try dsimp only at hSw)
           (first|(go_simp;done)|(go_simp;with_reducible rfl))
          try simp only[p1,p2,p3,p4]
          refine hT 10 142 hHeld ?_
          refine hT 11 143 hHeld ?_
          refine za8 (i:=12) rfl (by kernel_rfl) (by rfl) (fun K hK=>?_)
          clear hHeld
          simp only[q1,q2,q3]
          go_simp
          refine(zid _ N hN h1N p HG.out.o.2.1.vars r (HRW.out _ HG.out.o.2.1) Hrk.out.2.rng (by omega) HG.out.o.2.2 Hrk.out.1).mono ?_
          rintro e wq ⟨qx1,qx2,rfl,hk,hb⟩
          replace HG:=znd (HG.out.call hk hb)
          clear hk hb
          (try(go_wp2_with fail))
          refine hK.out _ _ (by with_reducible first|exact⟨Blk.cb HG.out.o.1,Blk.cb HG.out.n.1,Blk.cb HG.out.n.2.1⟩|exact⟨Blk.cb HG.out.drew.o.1,Blk.cb HG.out.drew.n.1,Blk.cb HG.out.drew.n.2.1⟩|exact⟨Blk.cb HG.out.o.1,Blk.cb HG.out.n.2.1,Blk.cb HG.out.n.2.2.1⟩|exact⟨Blk.cb HG.out.drew.o.1,Blk.cb HG.out.drew.n.2.1,Blk.cb HG.out.drew.n.2.2.1⟩) (fun hHeld=>?_)
          clear hK K
          try simp only[p1,p2,p3,p4]
          refine hT 13 131 hHeld ?_
          refine hT 14 145 hHeld ?_
          refine hT 15 146 hHeld ?_
          refine hT 16 147 hHeld ?_
          have cl:=HG.out.rc (k:=1) rfl hJl
          have fl:=HG.out.free HAL.out (k:=1) rfl
          refine za8 (i:=17) rfl (by kernel_rfl) (by rfl) (fun K hK=>?_)
          clear hHeld
          simp only[q1,q2,q3]
          go_simp
          (try(go_wp2_with fail))
          replace HG:=znd (HG.out.putR HAL.out (k:=1) rfl hJl qx1 (zb7 p.vars r))
          clear cl fl
          refine hK.out _ _ (by with_reducible first|exact⟨Blk.cb HG.out.o.1,Blk.cb HG.out.n.1,Blk.cb HG.out.n.2.1⟩|exact⟨Blk.cb HG.out.drew.o.1,Blk.cb HG.out.drew.n.1,Blk.cb HG.out.drew.n.2.1⟩|exact⟨Blk.cb HG.out.o.1,Blk.cb HG.out.n.2.1,Blk.cb HG.out.n.2.2.1⟩|exact⟨Blk.cb HG.out.drew.o.1,Blk.cb HG.out.drew.n.2.1,Blk.cb HG.out.drew.n.2.2.1⟩) (fun hHeld=>?_)
          clear hK K
          try simp only[p1,p2,p3,p4]
          refine hT 18 148 hHeld ?_
          have ch:=HG.out.rc (k:=2) rfl hJh
          have fh:=HG.out.free HAH.out (k:=2) rfl
          refine za8 (i:=19) rfl (by kernel_rfl) (by rfl) (fun K hK=>?_)
          clear hHeld
          simp only[q1,q2,q3]
          go_simp
          (try(go_wp2_with fail))
          replace HG:=znd (HG.out.putR HAH.out (k:=2) rfl hJh qx2 (zb9 p.vars r))
          clear ch fh
          refine hK.out _ _ (by with_reducible first|exact⟨Blk.cb HG.out.o.1,Blk.cb HG.out.n.1,Blk.cb HG.out.n.2.1⟩|exact⟨Blk.cb HG.out.drew.o.1,Blk.cb HG.out.drew.n.1,Blk.cb HG.out.drew.n.2.1⟩|exact⟨Blk.cb HG.out.o.1,Blk.cb HG.out.n.2.1,Blk.cb HG.out.n.2.2.1⟩|exact⟨Blk.cb HG.out.drew.o.1,Blk.cb HG.out.drew.n.2.1,Blk.cb HG.out.drew.n.2.2.1⟩) (fun hHeld=>?_)
          clear hK K
          try simp only[p1,p2,p3,p4]
          clear hHeld
          refine wpAnyH_done (by kernel_rfl) ?_ _
          refine NoPanic.normal ?_
          replace HG:=znd (show(GL w (fls AC AL AH AK AB (w.heap.size+1) L p.rows.length (ds.set J ⟨some ⟨gb,0,none⟩,1,[⟨(i:Int),q,1⟩]⟩) (los.set J (qx1,zb7 p.vars r)) (his.set J (qx2,zb9 p.vars r)) ks bs) (fun V=>Blk V (w.heap.size) 27 #[.slice p.Av p.vars.length p.cv,.slice p.Ar p.rows.length p.cr,.slice p.Ak p.cost.length p.ck]∧PrD N p V∧Tz V) (fun V=>Blk V gr 68 #[.slice r.A r.ts.length r.c,.int .u8 r.kind,.bool r.b.1.num.neg,.slice r.b.1.num.A r.b.1.num.k r.b.1.num.c,.bool r.b.1.den.neg,.slice r.b.1.den.A r.b.1.den.k r.b.1.den.c]∧Blk V g5 32 #[.int .i64 (p.rows.length:Int),.slice AC L L,.slice AL L L,.slice AH L L,.slice AK L L,.slice AB p.rows.length p.rows.length]∧FNew (ds.set J ⟨some ⟨gb,0,none⟩,1,[⟨(i:Int),q,1⟩]⟩) (los.set J (qx1,zb7 p.vars r)) (his.set J (qx2,zb9 p.vars r)) ks bs V) _)from HG.out.imp (fun V h=>h) (fun V h=>⟨h.2.1,h.2.2.1,⟨zcu h.2.2.2.lo h.1.1,zcu h.2.2.2.hi h.1.2,h.2.2.2.k,h.2.2.2.b,h.2.2.2.c⟩⟩))
          go_upto_region 26 with fail
          refine wp_region_noPanic ?_
          refine wp_region_held_drew (S:=(fun W=>CB gr #[.slice r.A r.ts.length r.c,.int .u8 r.kind,.bool r.b.1.num.neg,.slice r.b.1.num.A r.b.1.num.k r.b.1.num.c,.bool r.b.1.den.neg,.slice r.b.1.den.A r.b.1.den.k r.b.1.den.c] W∧CB g5 #[.int .i64 (p.rows.length:Int),.slice AC L L,.slice AL L L,.slice AH L L,.slice AK L L,.slice AB p.rows.length p.rows.length] W)) (by kernel_rfl) (by with_reducible first|exact⟨Blk.cb HG.out.n.1,Blk.cb HG.out.n.2.1⟩|exact⟨Blk.cb HG.out.drew.n.1,Blk.cb HG.out.drew.n.2.1⟩|exact⟨Blk.cb HG.out.n.2.1,Blk.cb HG.out.n.2.2.1⟩|exact⟨Blk.cb HG.out.drew.n.2.1,Blk.cb HG.out.drew.n.2.2.1⟩) (fun hHeld=>?_)
          replace HG:=znd HG.out.drew
          refine hT 0 149 hHeld ?_
          refine hT 1 150 hHeld ?_
          refine hT 2 151 hHeld ?_
          refine hT 3 152 hHeld ?_
          refine hT 4 153 hHeld ?_
          refine za8 (i:=5) rfl (by kernel_rfl) (by rfl) (fun K hK=>?_)
          clear hHeld
          simp only[q1,q2,q3]
          go_simp
          refine(zaG _ r.b.1 r.b.2 N (by omega) h1N (HRW.out _ HG.out.o.2.1).2 HG.out.o.2.2).mono ?_
          rintro e wq ⟨qx3,rfl,hk,hb⟩
          replace HG:=znd (HG.out.call hk hb)
          clear hk hb
          (try(go_wp2_with fail))
          refine hK.out _ _ (by with_reducible first|exact⟨Blk.cb HG.out.n.1,Blk.cb HG.out.n.2.1⟩|exact⟨Blk.cb HG.out.drew.n.1,Blk.cb HG.out.drew.n.2.1⟩|exact⟨Blk.cb HG.out.n.2.1,Blk.cb HG.out.n.2.2.1⟩|exact⟨Blk.cb HG.out.drew.n.2.1,Blk.cb HG.out.drew.n.2.2.1⟩) (fun hHeld=>?_)
          clear hK K
          try simp only[p1,p2,p3,p4]
          refine hT 6 155 hHeld ?_
          have cb:=HG.out.rc (k:=4) rfl hib
          have fb:=HG.out.free HAB.out (k:=4) rfl
          refine za8 (i:=7) rfl (by kernel_rfl) (by rfl) (fun K hK=>?_)
          clear hHeld
          simp only[q1,q2,q3]
          go_simp
          (try(go_wp2_with fail))
          replace HG:=znd (HG.out.putR HAB.out (k:=4) rfl hib qx3 r.b.2)
          clear cb fb
          refine hK.out _ _ (by with_reducible first|exact⟨Blk.cb HG.out.n.1,Blk.cb HG.out.n.2.1⟩|exact⟨Blk.cb HG.out.drew.n.1,Blk.cb HG.out.drew.n.2.1⟩|exact⟨Blk.cb HG.out.n.2.1,Blk.cb HG.out.n.2.2.1⟩|exact⟨Blk.cb HG.out.drew.n.2.1,Blk.cb HG.out.drew.n.2.2.1⟩) (fun hHeld=>?_)
          clear hK K
          try simp only[p1,p2,p3,p4]
          clear hHeld
          refine wpAnyH_done (by kernel_rfl) ?_ _
          refine NoPanic.normal ?_
          go_wp2_with fail
          go_roundw
          case rel=>exact⟨i+1,ds.set J ⟨some ⟨gb,0,none⟩,1,[⟨(i:Int),q,1⟩]⟩,(los.set J (qx1,zb7 p.vars r)),(his.set J (qx2,zb9 p.vars r)),(bs.set i (qx3,r.b.2)),by go_num,by omega,znd (HNX.out _ _ q qx1 qx2 qx3),znd (show GL w (fls AC AL AH AK AB (w.heap.size+1) L p.rows.length (ds.set J ⟨some ⟨gb,0,none⟩,1,[⟨(i:Int),q,1⟩]⟩) (los.set J (qx1,zb7 p.vars r)) (his.set J (qx2,zb9 p.vars r)) ks (bs.set i (qx3,r.b.2))) _ _ _ from HG.out.imp (fun V h=>h) (fun V h=>⟨h.2.2.1,⟨h.2.2.2.lo,h.2.2.2.hi,h.2.2.2.k,zcu h.2.2.2.b h.1,h.2.2.2.c⟩⟩))⟩
          case measure=>(simp[intOf]<;>omega)
       ·obtain rfl:i=p.rows.length:=by omega
        have hlc:=HF.out.nc
        have c:=HG.out.cb (k:=5) rfl
        have c5:=Blk.cb HG.out.n.1
        go_wp2_with fail
        replace HG:=znd (HG.out.put6 (k:=5) rfl (.int .i64 (p.rows.length:Int)) (.slice AC L L) (.slice AL L L) (.slice AH L L) (.slice AK L L) (.slice AB p.rows.length p.rows.length))
        have HE1:=HG.out.els (k:=0) rfl
        have HE2:=HG.out.els (k:=1) rfl
        have HE3:=HG.out.els (k:=2) rfl
        have HE4:=HG.out.els (k:=3) rfl
        have HE5:=HG.out.els (k:=4) rfl
        have HE6:=Rests.all (w:=_) (F:=(w.heap.size≤·)) (l:=cs) (φ:=fun(v:VeV) V=>El V 5 v.A (v.ts.map tecells)) fun v hv=>by
         obtain⟨j,hj,rfl⟩:=List.mem_iff_getElem.1 hv
         exact HG.out.els (k:=j+6) (show(cs.map zbu)[j]?=some (zbu cs[j])from by rw[List.getElem?_map,List.getElem?_eq_getElem hj];rfl)
        have HN:=HG.out.rsn.mono fun n hn=>hn.1
        have cR:=HG.out.cb (k:=5) rfl
        obtain⟨f,hf⟩:∃f:FoV,f=⟨(p.rows.length:Int),AC,L,cs,AL,L,los,AH,L,his,AK,L,ks,AB,p.rows.length,bs⟩:=⟨_,rfl⟩
        refine bodyPost_ret (v:=.tuple #[.agg #[.int .i64 f.M,.slice f.Ac f.cols.length f.cc,.slice f.Al f.lo.length f.cl,.slice f.Ah f.hi.length f.ch,.slice f.Ak f.cost.length f.ck,.slice f.Ab f.b.length f.cb],.int .i64 0]) (by subst hf;simp[results,Tryz.results5,go_sem,cR,hlc,HF.out.f1.nl,HF.out.f1.nh,HF2.out.nk,HF.out.nb]) rfl ⟨.inr ⟨f,rfl,HR.out,(((HE1.and (HE2.and (HE3.and (HE4.and (HE5.and (HE6.and HN)))))).imp fun V h=>?_))⟩,HG.out.bel⟩
        have hFN:FoN f V:=by
         subst hf
         exact⟨⟨h.1,fun v hv=>⟨h.2.2.2.2.2.1 v hv,h.2.2.2.2.2.2.2.c v hv⟩⟩,⟨h.2.1,h.2.2.2.2.2.2.2.lo⟩,⟨h.2.2.1,h.2.2.2.2.2.2.2.hi⟩,⟨h.2.2.2.1,h.2.2.2.2.2.2.2.k⟩,⟨h.2.2.2.2.1,h.2.2.2.2.2.2.2.b⟩⟩
        exact⟨hFN,F3.form HR.out HL.out (by subst hf;rfl) (by subst hf;exact HF2.out) (by subst hf;exact HF.out) hFN⟩
end Go.Proofs.YtfdmajmhmligpaaGreatDoor
