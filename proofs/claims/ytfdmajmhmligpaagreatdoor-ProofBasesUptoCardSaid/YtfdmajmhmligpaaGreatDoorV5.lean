/-
 sparse.ordered of a rising vector. sparse.Of. sparse.Dot of rising vectors. slices.Equal of words; sparse.exact. sparse.exact, sparse.Right.
-/
import Derived.Test.YtfdmajmhmligpaaGreatDoorSV
namespace Go.Proofs.YtfdmajmhmligpaaGreatDoor
set_option maxHeartbeats 4000000
open Go.RowKit

set_option maxRecDepth 100000 in
theorem zcn (w:World) (ok:TeV→World→Prop) (hok:∀p W,ok p W→Rests W (·<W.heap.size) (ok p)) (A:Option Addr) (c:Nat) (ts:List TeV) (h:LsR 5 tecells ok A ts w) (hl:ts.length≤1000000) (hr:Rise ts):
 Calls Tryz.prog 79 #[.slice A ts.length c] w fun e w'=>e=.returned (.slice A ts.length c)∧Below w.heap.size w w':=by
 have sl1:=h.sl
 have hsz2:=zai
 have hadd:=zaa
 have HE:=znd (Env.start (h.old hok))
 have HR:=znd hr
 clear h hr hok
 go_enter Tryz.func79,Tryz.ntmps79
 go_wp2_with fail
 go_loopw [6] (fun iv wr=>∃i:Nat,iv=.int .i64 (i:Int)∧i≤ts.length∧Hid (Env w [] (fun V=>LsR 5 tecells ok A ts V) (fun _=>True) wr)) (fun iv _=>ts.length-(intOf iv).toNat)
 case atStart=>exact⟨0,rfl,Nat.zero_le _,HE⟩
 case round=>
  clear HE
  obtain⟨i,rfl,hi,HE⟩:=hrel
  by_cases hlt:i<ts.length
  ·rcases Nat.eq_zero_or_pos i with rfl|h0
   ·go_upto_region 4 with fail
    go_quiet (fail)
    go_wp2_with fail
    go_roundw
    case rel=>exact⟨1,by go_num,by omega,znd (HE.out.drewN _)⟩
    case measure=>(simp[intOf]<;>omega)
   ·obtain⟨k,rfl⟩:∃k,i=k+1:=⟨i-1,by omega⟩
    have hlt2:=HR.out.at_ (i:=k) (j:=k+1) (by omega) hlt
    have c1:=HE.out.o.tc k (by omega)
    have c2:=HE.out.o.tc (k+1) hlt
    generalize (ts[k]'(by omega))=u at*
    generalize (ts[k+1]'(by omega))=t at*
    have hge:¬t.pl≤u.pl:=by omega
    have hi1:(0:Int)<(k:Int)+1:=by omega
    have hi2:(0:Int)≤(k:Int)+1:=by omega
    have hi3:(k:Int)<(ts.length:Int):=by omega
    have hi4:k<ts.length:=by omega
    have hi7:(k:Int)+1<(ts.length:Int):=by omega
    have hi5:IntKind.i64.wrap ((k:Int)+1-1)=(k:Int):=by rw[IntKind.wrap_i64];omega
    have hi6:IntKind.i64.wrap (k:Int)=(k:Int):=by rw[IntKind.wrap_i64];omega
    clear hlt2
    go_upto_region 4 with fail
    go_quiet (fail)
    go_wp2_with fail
    go_roundw
    case rel=>exact⟨k+2,by go_num,by omega,znd (HE.out.drewN _)⟩
    case measure=>(simp[intOf]<;>omega)
  ·obtain rfl:i=ts.length:=by omega
   go_wp2_with fail
   go_ret
   exact⟨rfl,HE.out.bel⟩

theorem GL.mk0 {w W:World} {e:TypeId} {sz:Nat} {v:Value} {cs:List (Array Value)} {old:World→Prop} (ho:OwnE W w.heap.size e sz v cs) (hr:Rests w (·<w.heap.size) old) (hb:Below w.heap.size w W):GL w [⟨e,sz,v,cs⟩] old (fun _=>True) W:=
 ⟨fun o ho'=>by rw[List.mem_singleton.1 ho'];exact ho,List.pairwise_singleton _ _,(hr.below hb).mono fun n hn o ho' e'=>by
  rw[List.mem_singleton.1 ho']at e'
  have:=(ho.lt n e').1
  omega,Rests.pure trivial _ _,hb⟩
theorem RetVec.up {us:List (Int×Rat)} {w W:World} {e:Ending} {w':World} (h:RetVec us W e w') (hb:Below w.heap.size w W):RetVec us w e w':=by
 obtain⟨A,c,ts,h1,h2,h3,h4,h5⟩:=h
 exact⟨A,c,ts,h1,h2,h3,h4.mono fun n hn=>Nat.le_trans hb.size hn,Below.after hb h5⟩
def tzc:Array Value:=#[.int .i64 0,.bool false,.slice none 0 0,.bool false,.slice none 0 0]
instance:Inhabited RV:=⟨zeroR⟩
def ofT (ps:List (RV×Rat)):List TeV:=ps.zipIdx.map fun x=>⟨(x.2:Int),x.1.1,x.1.2⟩
def zcs (ps:List (RV×Rat)) (i:Nat):List (Array Value):=((ofT ps).take i).map tecells++List.replicate (ps.length-i) tzc
theorem zbw (ps:List (RV×Rat)):(ofT ps).length=ps.length:=by simp[ofT]
theorem zem (ps:List (RV×Rat)) (i:Nat) (hi:i<ps.length):(ofT ps)[i]'(by rw[zbw];exact hi)=⟨(i:Int),ps[i].1,ps[i].2⟩:=by simp[ofT]
theorem zlE (ps:List (RV×Rat)) (i:Nat) (hi:i<ps.length):(zcs ps i).set i (tecells ⟨(i:Int),ps[i].1,ps[i].2⟩)=zcs ps (i+1):=by
 have h1:(((ofT ps).take i).map tecells).length=i:=by simp[zbw];omega
 unfold zcs
 rw[List.set_append_right _ _ (by omega),h1,Nat.sub_self,List.take_succ_eq_append_getElem (by rw[zbw];exact hi),zem ps i hi,List.map_append,show ps.length-i=(ps.length-(i+1))+1 from by omega,List.replicate_succ,List.set_cons_zero,List.append_assoc]
 rfl
theorem zlF (ps:List (RV×Rat)):zcs ps ps.length=(ofT ps).map tecells:=by
 unfold zcs
 rw[Nat.sub_self,List.replicate_zero,List.append_nil,List.take_of_length_le (by rw[zbw];exact Nat.le_refl _)]
theorem zjq (ps:List (RV×Rat)) (i:Nat) (hi:i≤ps.length):(zcs ps i).length=ps.length:=by
 unfold zcs;simp[zbw];omega
theorem zcZ (ps:List (RV×Rat)):Rise (ofT ps):=by
 unfold Rise
 rw[List.pairwise_iff_getElem]
 intro i j hi hj hij
 rw[zbw]at hi hj
 rw[zem ps i hi,zem ps j hj]
 show(i:Int)<(j:Int)
 omega
theorem zjs (n:Nat):(madeCells zcq.cells (n*5)).toList=zb1 (List.replicate n tzc):=by
 have hs:∀c∈List.replicate n tzc,c.size=5:=fun c hc=>by rw[List.eq_of_mem_replicate hc];rfl
 have hl:=zbg hs
 rw[List.length_replicate]at hl
 apply List.ext_getElem?
 intro k
 by_cases hk:k<n*5
 ·obtain⟨a,b,rfl,hb⟩:∃a b,k=a*5+b∧b<5:=⟨k/5,k%5,by omega,by omega⟩
  rw[zbJ hs a b (by simp;omega) hb,List.getElem_replicate]
  have e:(madeCells zcq.cells (n*5)).toList[a*5+b]?=some (zcq.cells[(a*5+b)%zcq.cells.size]!):=by
   simp[madeCells,hk]
  have e2:(a*5+b)%zcq.cells.size=b:=by
   rw[show zcq.cells.size=5 from rfl];omega
  rw[e,e2]
  match b,hb with
  |0,_=>rfl
  |1,_=>rfl
  |2,_=>rfl
  |3,_=>rfl
  |4,_=>rfl
 ·rw[List.getElem?_eq_none (by rw[Array.length_toList,size_madeCells];omega),List.getElem?_eq_none (by rw[hl];omega)]
set_option maxRecDepth 100000 in
theorem zdY (w:World) (n:Nat) (hn:n≤100000000000) (h1n:1≤n) (A:Option Addr) (c:Nat) (ps:List (RV×Rat)) (h:LsR 4 za0 (roD n) A ps w) (h20:ps.length≤20) (hT:Tz w):
 Calls Tryz.prog 35 #[.slice A ps.length c] w (RetVec (((ofT ps).map plq).filter nzP) w):=by
 have sl1:=h.sl
 have hsz1:=zbV
 have hsz4:=zal
 have hadd:=zaa
 have HO:=znd ((h.old zbQ).and hT.old)
 obtain⟨i0,hi0,hz0,hz1,hz2⟩:=info_parts zbD
 have Hi0:=znd hi0
 have Hz0:=znd hz0
 have Hz1:=znd hz1
 have Hz2:=znd (show i0.bytes*ps.length≤281474976710656 by rw[hz2];omega)
 have Hm:=znd (show ps.length≤maxLen by simp[maxLen];omega)
 clear h hT hi0 hz0 hz1 hz2
 go_enter Tryz.func35,Tryz.ntmps35
 go_wp2_with (at_make;refine wpList_make_full _ rfl (.tmp 7) (.tmp 7) 24 rfl w.heap.size 65 i0 zcq 5 zaJ Hi0.out Hz0.out Hz1.out .i64 .i64 _ _ ps.length rfl rfl rfl rfl Hz2.out Hm.out (Nat.le_refl _) ?_;intro w1 hown hgrow)
 have ho:OwnE w1 w.heap.size 65 5 (.slice (some ⟨w.heap.size,0,none⟩) ps.length ps.length) (zcs ps 0):=by
  refine⟨fun c hc=>?_,?_⟩
  ·unfold zcs at hc
   rw[List.take_zero,List.map_nil,List.nil_append]at hc
   rw[List.eq_of_mem_replicate hc];rfl
  ·rw[zjq ps 0 (Nat.zero_le _)]
   have e:zcs ps 0=List.replicate ps.length tzc:=by unfold zcs;simp
   rw[e,←zjs]
   exact hown
 obtain⟨B,hB⟩:∃B:Option Addr,B=some ⟨w.heap.size,0,none⟩:=⟨_,rfl⟩
 rw[←hB]at ho⊢
 have HG:=znd (GL.mk0 ho HO.out ((Below.refl _ w).grown hgrow (Nat.le_refl _) (fun b hb=>by cases hb)))
 have HB:=znd hB
 have slB:Sl B ps.length:=by rw[hB];exact Sl.some_ _ _ _
 clear hown hgrow ho hB Hi0 Hz0 Hz1 Hz2 Hm HO
 go_wp2_with fail
 go_loopw [11] (fun iv wr=>∃i:Nat,iv=.int .i64 (i:Int)∧i≤ps.length∧Hid (GL w [⟨65,5,.slice B ps.length ps.length,zcs ps i⟩] (fun V=>LsR 4 za0 (roD n) A ps V∧Tz V) (fun _=>True) wr)) (fun iv _=>ps.length-(intOf iv).toNat)
 case atStart=>exact⟨0,rfl,Nat.zero_le _,HG⟩
 case round=>
  clear HG
  obtain⟨i,rfl,hi,HG⟩:=hrel
  by_cases hlt:i<ps.length
  ·have HE:=znd HG.out.env
   have c0:=HE.out.o.1.1.rc i hlt
   have Hset:=znd (zlE ps i hlt)
   obtain⟨p,hp⟩:∃p,p=ps[i]:=⟨_,rfl⟩
   rw[←hp]at c0 Hset
   clear hp
   go_upto_region 5 with fail
   obtain⟨W2,gt,hW2,hgt,HE⟩:=Env.al HE.out 48 #[.bool p.1.num.neg,.slice p.1.num.A p.1.num.k p.1.num.c,.bool p.1.den.neg,.slice p.1.den.A p.1.den.k p.1.den.c]
   rw[hW2,hgt]
   clear hW2 hgt c0
   have c1:=Env.c1 HE.out
   have HOw:=znd ((show OwnE wr w.heap.size 65 5 (.slice B ps.length ps.length) (zcs ps i)from HG.out.own _ (List.mem_cons_self ..)).below HE.out.bel)
   have hic:i<(zcs ps i).length:=by rw[zjq ps i hi];exact hlt
   obtain⟨x0,x1,x2,x3,x4,hx⟩:=arr5 (zcs ps i)[i] (HOw.out.1 _ (List.getElem_mem hic))
   have c5:W2.cell? (adr B (i*5))=some x0∧W2.cell? (adr B (i*5+1))=some x1∧W2.cell? (adr B (i*5+2))=some x2∧W2.cell? (adr B (i*5+3))=some x3∧W2.cell? (adr B (i*5+4))=some x4:=by
    have hcc:=HOw.out.el.1.cell i hic
    rw[hx]at hcc
    exact⟨hcc 0 (by decide),hcc 1 (by decide),hcc 2 (by decide),hcc 3 (by decide),hcc 4 (by decide)⟩
   have f5:=fun k=>HOw.out.free HB.out k
   have HGp:=znd (GL.put5 HB.out HG.out HE.out i hic (.int .i64 i) (.bool p.1.num.neg) (.slice p.1.num.A p.1.num.k p.1.num.c) (.bool p.1.den.neg) (.slice p.1.den.A p.1.den.k p.1.den.c))
   clear hx
   have hA:=HB.out
   subst hA
   have hGp:=HGp.out
   have h6:=Hset.out
   unfold tecells at h6
   simp only at h6
   rw[h6]at hGp
   simp only[za6,Nat.zero_add]at c5 f5 hGp
   replace HGp:=znd hGp
   have hadr:∀j,adr (some ⟨w.heap.size,0,none⟩) j=⟨w.heap.size,j,none⟩:=fun j=>by rw[za6,Nat.zero_add]
   clear hGp hadd h6
   go_upto_region 6 with fail
   revert HGp
   generalize (World.setCell (World.setCell (World.setCell (World.setCell (World.setCell W2 _ _) _ _) _ _) _ _) _ _)=W5
   intro HGp
   clear c5 f5 c1
   go_wp2_with fail
   go_roundw
   case rel=>exact⟨i+1,by go_num,by omega,znd (HGp.out.imp (fun _ h=>h) (fun _ _=>trivial))⟩
   case measure=>(simp[intOf]<;>omega)
  ·obtain rfl:i=ps.length:=by omega
   have hg:=HG.out
   rw[zlF]at hg
   have HL:=znd (show LsR 5 tecells (teD n) B (ofT ps) wr from⟨(show OwnE wr w.heap.size 65 5 (.slice B ps.length ps.length) ((ofT ps).map tecells)from hg.own _ (List.mem_cons_self ..)).el.1,fun t ht=>by
    obtain⟨x,hx,rfl⟩:=List.mem_map.1 ht
    obtain⟨j,hj,e⟩:=List.mem_iff_getElem.1 hx
    have hj':j<ps.length:=by simpa using hj
    have e2:x.1=ps[j]:=by rw[←e];simp
    show RatD x.1.1 x.1.2 n wr
    rw[e2]
    exact hg.o.1.ok _ (List.getElem_mem hj')⟩)
   have HTz:=znd hg.o.2
   have Hbel:=znd hg.bel
   clear hg HG
   go_wp2_with fail
   refine(show Calls Tryz.prog 44 #[.slice B ps.length ps.length] wr _ from by have:=zbe wr n hn h1n B ps.length (ofT ps) HL.out (by rw[zbw];exact h20) (zcZ ps) HTz.out;rw[zbw]at this;exact this).mono ?_
   intro e w9 hret
   have Hret:=znd (hret.up Hbel.out)
   obtain⟨Ap,cp,ts,rfl,hc,hm,hr,hb⟩:=hret
   clear hc hm hr hb
   go_wp2_with fail
   go_ret
   exact Hret.out

def getQ (Y:List (Int×Rat)) (a:Int):Rat:=(Y.map fun p=>if p.1=a then p.2 else 0).sum
def dotQ (X Y:List (Int×Rat)):Rat:=(X.map fun p=>p.2*getQ Y p.1).sum
theorem zan {Y:List (Int×Rat)} {a:Int} (h:∀p∈Y,p.1≠a):getQ Y a=0:=by
 induction Y with
 |nil=>rfl
 |cons p Y ih=>
  have h1:=ih fun q hq=>h q (List.mem_cons_of_mem _ hq)
  unfold getQ at h1⊢
  rw[List.map_cons,List.sum_cons,if_neg (h p (List.mem_cons_self ..)),h1,Rat.zero_add]
theorem zaB (Y Z:List (Int×Rat)) (a:Int):getQ (Y++Z) a=getQ Y a+getQ Z a:=by
 induction Y with
 |nil=>simp[getQ,Rat.zero_add]
 |cons p Y ih=>
  unfold getQ at ih⊢
  rw[List.cons_append,List.map_cons,List.sum_cons,ih,List.map_cons,List.sum_cons,Rat.add_assoc]
theorem zgr (X Z Y:List (Int×Rat)):dotQ (X++Z) Y=dotQ X Y+dotQ Z Y:=by
 induction X with
 |nil=>simp[dotQ,Rat.zero_add]
 |cons p X ih=>
  unfold dotQ at ih⊢
  rw[List.cons_append,List.map_cons,List.sum_cons,ih,List.map_cons,List.sum_cons,Rat.add_assoc]
theorem zjc {X Y:List (Int×Rat)} (h:∀p∈X,getQ Y p.1=0):dotQ X Y=0:=by
 induction X with
 |nil=>rfl
 |cons p X ih=>
  have h1:=ih fun q hq=>h q (List.mem_cons_of_mem _ hq)
  unfold dotQ at h1⊢
  rw[List.map_cons,List.sum_cons,h p (List.mem_cons_self ..),h1,Rat.mul_zero,Rat.zero_add]
theorem zk2 (p:Int×Rat) (Y:List (Int×Rat)):dotQ [p] Y=p.2*getQ Y p.1:=by
 show(p.2*getQ Y p.1)+0=_
 rw[Rat.add_zero]
structure DJ (ts us:List TeV) (i j:Nat) (s:Rat):Prop where
 s:s=dotQ ((ts.take i).map plq) (us.map plq)
 lt:∀k m (hk:k<us.length) (hm:m<ts.length),k<j→i≤m→us[k].pl<ts[m].pl
theorem DJ.start (ts us:List TeV):DJ ts us 0 0 0:=⟨rfl,fun _k _m _ _ h=>absurd h (Nat.not_lt_zero _)⟩
theorem DJ.next {ts us:List TeV} {i j:Nat} {s:Rat} (h:DJ ts us i j s) (hi:i<ts.length):s+ts[i].q*getQ (us.map plq) ts[i].pl=dotQ ((ts.take (i+1)).map plq) (us.map plq):=by
 rw[List.take_succ_eq_append_getElem hi,List.map_append,zgr,←h.s]
 show _=s+dotQ [plq ts[i]] _
 rw[zk2]
 rfl
theorem Rise.get_none {us:List TeV} {a:Int} {j:Nat} (h1:∀k (hk:k<us.length),k<j→us[k].pl≠a) (h2:∀k (hk:k<us.length),j≤k→us[k].pl≠a):getQ (us.map plq) a=0:=by
 refine zan fun p hp=>?_
 obtain⟨u,hu,rfl⟩:=List.mem_map.1 hp
 obtain⟨k,hk,rfl⟩:=List.mem_iff_getElem.1 hu
 rcases Nat.lt_or_ge k j with h|h
 ·exact h1 k hk h
 ·exact h2 k hk h
theorem Rise.get_at {us:List TeV} (hr:Rise us) {j:Nat} (hj:j<us.length):getQ (us.map plq) us[j].pl=us[j].q:=by
 have e:us=us.take j++us[j]::us.drop (j+1):=by rw[←List.drop_eq_getElem_cons hj,List.take_append_drop]
 have h1:getQ ((us.take j).map plq) us[j].pl=0:=zan fun p hp=>by
  obtain⟨u,hu,rfl⟩:=List.mem_map.1 hp
  obtain⟨k,hk,rfl⟩:=List.mem_iff_getElem.1 hu
  have hk':k<j:=by simp at hk;omega
  have:=hr.at_ hk' hj
  rw[List.getElem_take]
  show us[k].pl≠us[j].pl
  omega
 have h2:getQ ((us.drop (j+1)).map plq) us[j].pl=0:=zan fun p hp=>by
  obtain⟨u,hu,rfl⟩:=List.mem_map.1 hp
  obtain⟨k,hk,rfl⟩:=List.mem_iff_getElem.1 hu
  have hk':j+1+k<us.length:=by simp at hk;omega
  have:=hr.at_ (i:=j) (j:=j+1+k) (by omega) hk'
  rw[List.getElem_drop]
  show us[j+1+k].pl≠us[j].pl
  omega
 conv=>lhs;arg 1;rw[e]
 rw[List.map_append,zaB,h1,List.map_cons]
 show 0+((if us[j].pl=us[j].pl then us[j].q else 0)+getQ ((us.drop (j+1)).map plq) us[j].pl)=us[j].q
 rw[h2,if_pos rfl,Rat.zero_add,Rat.add_zero]
theorem DJ.left {ts us:List TeV} {i j:Nat} {s:Rat} (h:DJ ts us i j s) (hu:Rise us) (hi:i<ts.length) (hj:j<us.length) (hl:ts[i].pl<us[j].pl):DJ ts us (i+1) j s:=by
 have h0:getQ (us.map plq) ts[i].pl=0:=Rise.get_none (j:=j) (fun k hk hkj=>by have:=h.lt k i hk hi hkj (Nat.le_refl _);omega) (fun k hk hjk=>by
  rcases Nat.eq_or_lt_of_le hjk with e|e
  ·subst e;omega
  ·have:=hu.at_ e hk;omega)
 refine⟨?_,fun k m hk hm h1 h2=>h.lt k m hk hm h1 (by omega)⟩
 rw[←h.next hi,h0,Rat.mul_zero,Rat.add_zero]
theorem DJ.right {ts us:List TeV} {i j:Nat} {s:Rat} (h:DJ ts us i j s) (ht:Rise ts) (hi:i<ts.length) (hj:j<us.length) (hl:us[j].pl<ts[i].pl):DJ ts us i (j+1) s:=by
 refine⟨h.s,fun k m hk hm h1 h2=>?_⟩
 rcases Nat.lt_or_ge k j with h3|h3
 ·exact h.lt k m hk hm h3 h2
 ·have e:k=j:=by omega
  subst e
  rcases Nat.eq_or_lt_of_le h2 with e|e
  ·subst e;exact hl
  ·have:=ht.at_ e hm;omega
theorem DJ.both {ts us:List TeV} {i j:Nat} {s:Rat} (h:DJ ts us i j s) (ht:Rise ts) (hu:Rise us) (hi:i<ts.length) (hj:j<us.length) (hl:ts[i].pl=us[j].pl):DJ ts us (i+1) (j+1) (s+ts[i].q*us[j].q):=by
 refine⟨?_,fun k m hk hm h1 h2=>?_⟩
 ·rw[←h.next hi,hl,hu.get_at hj]
 ·rcases Nat.lt_or_ge k j with h3|h3
  ·exact h.lt k m hk hm h3 (by omega)
  ·have e:k=j:=by omega
   subst e
   have:=ht.at_ (i:=i) (j:=m) (by omega) hm
   omega
theorem DJ.end_ {ts us:List TeV} {i j:Nat} {s:Rat} (h:DJ ts us i j s) (he:ts.length≤i∨us.length≤j):s=dotQ (ts.map plq) (us.map plq):=by
 rw[h.s]
 conv=>rhs;rw[←List.take_append_drop i ts,List.map_append,zgr]
 have h0:dotQ ((ts.drop i).map plq) (us.map plq)=0:=by
  refine zjc fun p hp=>?_
  obtain⟨t,ht,rfl⟩:=List.mem_map.1 hp
  obtain⟨m,hm,rfl⟩:=List.mem_iff_getElem.1 ht
  have hm':i+m<ts.length:=by simp at hm;omega
  rcases he with he|he
  ·omega
  ·refine zan fun q hq=>?_
   obtain⟨u,hu,rfl⟩:=List.mem_map.1 hq
   obtain⟨k,hk,rfl⟩:=List.mem_iff_getElem.1 hu
   have:=h.lt k (i+m) hk hm' (by omega) (by omega)
   rw[List.getElem_drop]
   show us[k].pl≠ts[i+m].pl
   omega
 rw[h0,Rat.add_zero]
theorem zb4 {us:List TeV} (hu:Rise us) {n:Nat} (h1:1≤n) (h:∀u∈us,Sz u.q n) (a:Int):Sz (getQ (us.map plq) a) n:=by
 by_cases hx:∃u∈us,u.pl=a
 ·obtain⟨u,hm,rfl⟩:=hx
  obtain⟨j,hj,rfl⟩:=List.mem_iff_getElem.1 hm
  rw[hu.get_at hj];exact h _ hm
 ·rw[zan fun p hp=>by
   obtain⟨u,hm,rfl⟩:=List.mem_map.1 hp
   exact fun e=>hx ⟨u,hm,e⟩]
  exact zaM.up h1
theorem ziD {us:List TeV} (hu:Rise us) {n:Nat} (h1:1≤n) (h:∀u∈us,Sz u.q n):∀(ts:List TeV),(∀t∈ts,Sz t.q n)→Sz (dotQ (ts.map plq) (us.map plq)) (1+ts.length*(2*n+2)):=by
 intro ts
 induction ts with
 |nil=>
  intro _
  show Sz 0 (1+0*(2*n+2))
  rw[Nat.zero_mul]
  exact zaM
 |cons t ts ih=>
  intro ht
  have h2:=ih fun x hx=>ht x (List.mem_cons_of_mem _ hx)
  have h3:=Sz.mul (ht t (List.mem_cons_self ..)) (zb4 hu h1 h t.pl)
  have h4:=Sz.add h3 h2
  show Sz (t.q*getQ (us.map plq) t.pl+dotQ (ts.map plq) (us.map plq)) _
  refine h4.up ?_
  rw[List.length_cons,Nat.add_mul]
  omega
set_option maxRecDepth 100000 in
theorem zjO (w:World) (n:Nat) (hn:n≤1000000000) (h1n:1≤n) (A A2:Option Addr) (c0 c2:Nat) (ts us:List TeV) (h:LsR 5 tecells (teD n) A ts w) (h':LsR 5 tecells (teD n) A2 us w) (ht:Rise ts) (hu:Rise us) (hl:ts.length≤100) (hl':us.length≤1000000) (hT:Tz w):
 Calls Tryz.prog 42 #[.slice A ts.length c0,.slice A2 us.length c2] w (RetR (dotQ (ts.map plq) (us.map plq)) w):=by
 have sl1:=h.sl
 have sl2:=h'.sl
 have hsz2:=zai
 have hadd:=zaa
 have Hst:=znd (show∀t∈ts,Sz t.q n from fun t ht=>RatD.sz (h.ok t ht) h1n)
 have Hsu:=znd (show∀u∈us,Sz u.q n from fun t ht=>RatD.sz (h'.ok t ht) h1n)
 have Hrt:=znd ht
 have Hru:=znd hu
 have HE:=znd (Env.start ((h.old zah).and ((h'.old zah).and hT.old)))
 obtain⟨N,hN⟩:∃N,N=1+100*(2*n+2):=⟨_,rfl⟩
 have hNb:N≤400000000000:=by omega
 have h1N:1≤N:=by omega
 have HN:=znd hN
 clear h h' hT ht hu hN
 go_enter Tryz.func42,Tryz.ntmps42
 go_upto_region 1 with fail
 obtain⟨W1,g4,hW1,hg4,HE⟩:=Env.al HE.out 48 #[.bool false,.slice none 0 0,.bool false,.slice none 0 0]
 rw[hW1,hg4]
 clear hW1 hg4
 go_wp2_with fail
 refine(zcn _ (teD n) zah A c0 ts HE.out.o.1 (by omega) Hrt.out).mono ?_
 rintro e w2 ⟨rfl,hb⟩
 replace HE:=znd (Env.call HE.out hb)
 clear hb
 go_wp2_with fail
 refine(zcn _ (teD n) zah A2 c2 us HE.out.o.2.1 hl' Hru.out).mono ?_
 rintro e w2 ⟨rfl,hb⟩
 replace HE:=znd (Env.call HE.out hb)
 clear hb
 go_upto_region 3 with fail
 obtain⟨W3,g5,hW3,hg5,HE⟩:=Env.al HE.out 48 #[.bool false,.slice none 0 0,.bool false,.slice none 0 0]
 rw[hW3,hg5]
 clear hW3 hg5
 go_wp2_with fail
 go_loopw [6,7] (fun iv jv wr=>∃(i j:Nat) (k:RV) (s:Rat),iv=.int .i64 (i:Int)∧jv=.int .i64 (j:Int)∧i≤ts.length∧j≤us.length∧Hid (DJ ts us i j s)∧Hid (Env w [⟨g5,48,#[.bool k.num.neg,.slice k.num.A k.num.k k.num.c,.bool k.den.neg,.slice k.den.A k.den.k k.den.c]⟩,⟨g4,48,#[.bool false,.slice none 0 0,.bool false,.slice none 0 0]⟩] (fun V=>LsR 5 tecells (teD n) A ts V∧LsR 5 tecells (teD n) A2 us V∧Tz V) (fun V=>RatN k s V) wr)) (fun iv jv _=>(ts.length-(intOf iv).toNat)+(us.length-(intOf jv).toNat))
 case atStart=>exact⟨0,0,zeroR,0,rfl,rfl,Nat.zero_le _,Nat.zero_le _,znd (DJ.start ts us),znd (HE.out.imp (fun _ h=>h) (fun V _=>zbX V))⟩
 case round=>
  clear HE
  obtain⟨i,j,k,s,rfl,rfl,hi,hj,HD,HE⟩:=hrel
  by_cases hlt:i<ts.length
  ·by_cases hlu:j<us.length
   ·have c1:=HE.out.o.1.tc i hlt
    have c3:=HE.out.o.2.1.tc j hlu
    have HL:=znd (fun h=>HD.out.left Hru.out hlt hlu h)
    have HR:=znd (fun h=>HD.out.right Hrt.out hlt hlu h)
    have HB:=znd (fun h=>HD.out.both Hrt.out Hru.out hlt hlu h)
    have Hs:=znd (show Sz s N by
     have h1:=ziD Hru.out h1n Hsu.out (ts.take i) (fun t ht=>Hst.out t (List.mem_of_mem_take ht))
     rw[←HD.out.s]at h1
     refine h1.up ?_
     have h2:(ts.take i).length≤100:=by simp;omega
     have h3:=Nat.mul_le_mul_right (2*n+2) h2
     rw[HN.out];omega)
    obtain⟨t,ht⟩:∃t,t=ts[i]:=⟨_,rfl⟩
    obtain⟨u,hu⟩:∃u,u=us[j]:=⟨_,rfl⟩
    have Hmt:=znd (show t∈ts by rw[ht];exact List.getElem_mem hlt)
    have Hmu:=znd (show u∈us by rw[hu];exact List.getElem_mem hlu)
    rw[←ht]at c1 HL HR HB
    rw[←hu]at c3 HL HR HB
    have Hp:=znd (show Sz (t.q*u.q) N from(Sz.mul (Hst.out t Hmt.out) (Hsu.out u Hmu.out)).up (by rw[HN.out];omega))
    clear ht hu
    by_cases h1:t.pl<u.pl
    ·have HD2:=znd (HL.out h1)
     go_upto_region 8 with fail
     go_quiet (fail)
     go_wp2_with fail
     go_roundw
     case rel=>exact⟨i+1,j,k,s,by go_num,rfl,by omega,by omega,HD2,znd (HE.out.drewN _)⟩
     case measure=>(simp[intOf]<;>omega)
    ·by_cases h2:u.pl<t.pl
     ·have HD2:=znd (HR.out h2)
      go_upto_region 8 with fail
      go_quiet (fail)
      go_upto_region 10 with fail
      go_quiet (fail)
      go_wp2_with fail
      go_roundw
      case rel=>exact⟨i,j+1,k,s,rfl,by go_num,by omega,by omega,HD2,znd (HE.out.drewN _)⟩
      case measure=>(simp[intOf]<;>omega)
     ·have HD2:=znd (HB.out (by omega))
      go_upto_region 8 with fail
      go_quiet (fail)
      go_upto_region 10 with fail
      go_quiet (fail)
      go_upto_region 5 with fail
      go_cut []from 12 to 66 (fun wx=>∃k2,Hid (Env w [⟨g5,48,#[.bool k2.num.neg,.slice k2.num.A k2.num.k k2.num.c,.bool k2.den.neg,.slice k2.den.A k2.den.k k2.den.c]⟩,⟨g4,48,#[.bool false,.slice none 0 0,.bool false,.slice none 0 0]⟩] (fun V=>LsR 5 tecells (teD n) A ts V∧LsR 5 tecells (teD n) A2 us V∧Tz V) (fun V=>RatN k2 (s+t.q*u.q) V) wx))
      case first=>
       have c:=Env.c2 HE.out
       go_region_with (first
        |(go_at_call 14;go_must (refine(zaN _ t.r u.r t.q u.q n (by omega) h1n ((by first|exact HE.out.o.1.ok t Hmt.out|exact HE.out.drew.o.1.ok t Hmt.out|exact(HE.out.drewN _).o.1.ok t Hmt.out|exact(HE.out.drewN _).drew.o.1.ok t Hmt.out)) ((by first|exact HE.out.o.2.1.ok u Hmu.out|exact HE.out.drew.o.2.1.ok u Hmu.out|exact(HE.out.drewN _).o.2.1.ok u Hmu.out|exact(HE.out.drewN _).drew.o.2.1.ok u Hmu.out)) (by first|exact HE.out.o.2.2|exact HE.out.drew.o.2.2|exact(HE.out.drewN _).o.2.2|exact(HE.out.drewN _).drew.o.2.2)).mono ?_;rintro e w3 ⟨km,rfl,hk,hb⟩;replace HE:=znd (Env.ret (by first|exact HE.out|exact HE.out.drew|exact(HE.out.drewN _)|exact(HE.out.drewN _).drew) hk hb);replace c:=Env.c2 HE.out;clear hk hb))
        |(go_at_call 13;go_must (refine(zbL _ k km s (t.q*u.q) N (by omega) (by omega) (RatN.rat (by first|exact HE.out.n.2|exact HE.out.drew.n.2|exact(HE.out.drewN _).n.2|exact(HE.out.drewN _).drew.n.2) Hs.out) (RatN.rat (by first|exact HE.out.n.1|exact HE.out.drew.n.1|exact(HE.out.drewN _).n.1|exact(HE.out.drewN _).drew.n.1) Hp.out) (by first|exact HE.out.o.2.2|exact HE.out.drew.o.2.2|exact(HE.out.drewN _).o.2.2|exact(HE.out.drewN _).drew.o.2.2)).mono ?_;rintro e w4 ⟨k2,rfl,hk,hb⟩;replace HE:=znd (Env.ret (by first|exact HE.out|exact HE.out.drew|exact(HE.out.drewN _)|exact(HE.out.drewN _).drew) hk hb);replace c:=Env.c2 HE.out;clear hk hb)))
       all_goals
        go_wp2_with fail
        go_meet
        case rel=>exact⟨k2,znd (by first|exact(HE.out.put4 _ _ _ _).imp (fun _ h=>h) (fun _ h=>h.1)|exact(HE.out.drew.put4 _ _ _ _).imp (fun _ h=>h) (fun _ h=>h.1))⟩
      case rest=>
       clear HE c1 c3
       obtain⟨k2,HE⟩:=hcut
       go_wp2_with fail
       go_roundw
       case rel=>exact⟨i+1,j+1,k2,s+t.q*u.q,by go_num,by go_num,by omega,by omega,HD2,HE⟩
       case measure=>(simp[intOf]<;>omega)
   ·have HF:=znd (HD.out.end_ (.inr (by omega)))
    have c:=Env.c2 HE.out
    have hnu:¬(j:Int)<(us.length:Int):=by omega
    go_wp2_with fail
    rw[←HF.out]
    first
     |exact bodyPost_ret (v:=.agg #[.bool k.num.neg,.slice k.num.A k.num.k k.num.c,.bool k.den.neg,.slice k.den.A k.den.k k.den.c]) (by simp[results,Tryz.results42,go_sem,c]) rfl ((HE.out.put4_1 _ _ _ _).retR' rfl fun _ h=>h)
     |exact bodyPost_ret (v:=.agg #[.bool k.num.neg,.slice k.num.A k.num.k k.num.c,.bool k.den.neg,.slice k.den.A k.den.k k.den.c]) (by simp[results,Tryz.results42,go_sem,Env.c2 (HE.out.put4_1 (.bool k.num.neg) (.slice k.num.A k.num.k k.num.c) (.bool k.den.neg) (.slice k.den.A k.den.k k.den.c))]) rfl ((HE.out.put4_1 _ _ _ _).retR' rfl fun _ h=>h)
  ·have HF:=znd (HD.out.end_ (.inl (by omega)))
   have c:=Env.c2 HE.out
   have hnu:¬(i:Int)<(ts.length:Int):=by omega
   go_wp2_with fail
   rw[←HF.out]
   first
    |exact bodyPost_ret (v:=.agg #[.bool k.num.neg,.slice k.num.A k.num.k k.num.c,.bool k.den.neg,.slice k.den.A k.den.k k.den.c]) (by simp[results,Tryz.results42,go_sem,c]) rfl ((HE.out.put4_1 _ _ _ _).retR' rfl fun _ h=>h)
    |exact bodyPost_ret (v:=.agg #[.bool k.num.neg,.slice k.num.A k.num.k k.num.c,.bool k.den.neg,.slice k.den.A k.den.k k.den.c]) (by simp[results,Tryz.results42,go_sem,Env.c2 (HE.out.put4_1 (.bool k.num.neg) (.slice k.num.A k.num.k k.num.c) (.bool k.den.neg) (.slice k.den.A k.den.k k.den.c))]) rfl ((HE.out.put4_1 _ _ _ _).retR' rfl fun _ h=>h)

set_option maxRecDepth 100000 in
theorem ziu (w:World) (A B:Option Addr) (c d n m:Nat) (hne:n≠m):
 Calls Tryz.prog 127 #[.slice A n c,.slice B m d] w fun e w'=>e=.returned (.bool false)∧Below w.heap.size w w':=by
 have h1:((n:Int) != (m:Int))=true:=by simp;omega
 go_enter Tryz.func127,Tryz.ntmps127
 go_wp2_with fail
 go_ret
 exact⟨rfl,Below.refl _ _⟩
set_option maxRecDepth 100000 in
theorem zhl (w:World) (A B:Option Addr) (c d:Nat) (l m:List Nat) (hl:l.length≤17592186044416) (hlm:l.length=m.length) (ha:Rd w .u64 A l) (hb:Rd w .u64 B m):
 Calls Tryz.prog 127 #[.slice A l.length c,.slice B l.length d] w fun e w'=>e=.returned (.bool (decide (l=m)))∧∃n,w'=w.drewN n:=by
 have Hlm:=znd hlm
 have Ha:=znd ha;have Hb:=znd hb
 have hsa:=ha.sl
 have hsb:=hb.sl
 rw[←hlm]at hsb
 have h1:=zaA
 obtain⟨R,hR⟩:∃R,decide (l=m)=R:=⟨_,rfl⟩
 have HR:=znd hR
 rw[hR]
 clear ha hb hlm hR
 go_enter Tryz.func127,Tryz.ntmps127
 go_wp2_with fail
 go_loopw [13] (fun i wr=>∃k:Nat,k≤l.length∧Hid (∀t<k,nth l t=nth m t)∧i=.int .i64 k∧∃q,wr=w.drewN q) (fun i _=>l.length-(intOf i).toNat)
 case atStart=>exact⟨0,Nat.zero_le _,znd (fun t ht=>absurd ht (Nat.not_lt_zero t)),rfl,0,rfl⟩
 case round=>
  obtain⟨k,hk,Hall,rfl,q,rfl⟩:=hrel
  by_cases hlt:k<l.length
  ·have hca:=Ha.out.cell k hlt
   have hcb:=Hb.out.cell k (by rw[←Hlm.out];exact hlt)
   by_cases he:nth l k=nth m k
   ·have Hal2:=znd (show∀t<k+1,nth l t=nth m t from fun t ht=>by
     rcases Nat.lt_or_eq_of_le (Nat.lt_succ_iff.1 ht)with h|h
     ·exact Hall.out t h
     ·rw[h];exact he)
    rw[←he]at hcb
    clear he Hall
    generalize nth l k=x at hca hcb
    go_wp2_with fail
    go_quiet (fail)
    go_wp2_with fail
    go_roundw
    case rel=>exact⟨k+1,by omega,Hal2,by go_num,_,rfl⟩
    case measure=>simp[intOf];omega
   ·have hR:R=false:=by rw[←HR.out];exact decide_eq_false fun e=>he (by rw[e])
    subst hR
    have hx:((nth l k:Nat):Int)≠((nth m k:Nat):Int):=by omega
    generalize nth l k=x at*
    generalize nth m k=y at*
    go_wp2_with fail
    go_quiet (fail)
    go_wp2_with fail
    go_ret
    exact⟨rfl,_,World.drewN_drewN _ _ _⟩
  ·have hR:R=true:=by rw[←HR.out];exact decide_eq_true (zdT l m Hlm.out (fun t ht=>Hall.out t (by omega)))
   subst hR
   go_wp2_with fail
   go_ret
   exact⟨rfl,_,rfl⟩
theorem ziU (w:World) (A B:Option Addr) (c d:Nat) (l m:List Nat) (hl:l.length≤17592186044416) (ha:Rd w .u64 A l) (hb:Rd w .u64 B m):
 Calls Tryz.prog 127 #[.slice A l.length c,.slice B m.length d] w fun e w'=>e=.returned (.bool (decide (l=m)))∧Below w.heap.size w w':=by
 by_cases h:l.length=m.length
 ·rw[←h]
  refine(zhl w A B c d l m hl h ha hb).mono ?_
  rintro e w' ⟨rfl,n,rfl⟩
  exact⟨rfl,Below.drewN (Below.refl _ w) n⟩
 ·rw[decide_eq_false fun e=>h (by rw[e])]
  exact ziu w A B c d _ _ h
set_option maxRecDepth 100000 in
theorem zii (w:World) (i j:IV) (z y:Int) (n:Nat) (_hn:n≤17592186044416) (_h:IntD i y n w) (_h':IntN j z w) (hne:i.neg≠j.neg):
 Calls Tryz.prog 126 #[iA i,iA j] w fun e w'=>e=.returned (.bool false)∧Below w.heap.size w w':=by
 have HE:=znd (lyII i j (Rests.pure trivial w _))
 have c:=Env.c2 HE.out
 have dd:=Env.d2 HE.out
 have he:(i.neg==j.neg)=false:=by simpa using hne
 clear _h _h' hne
 unfold iA
 go_enter Tryz.func126,Tryz.ntmps126
 go_wp2_with fail
 go_ret
 exact⟨rfl,HE.out.bel⟩
set_option maxRecDepth 100000 in
theorem zis (w:World) (i j:IV) (z y:Int) (n:Nat) (hn:n≤17592186044416) (h:IntD i y n w) (h':IntN j z w) (hne:i.neg=j.neg) (B:Bool) (hB:∀l,i.k=l.length→Rd w .u64 i.A l→decide (l=digs B64 z.natAbs)=B):
 Calls Tryz.prog 126 #[iA i,iA j] w fun e w'=>e=.returned (.bool B)∧Below w.heap.size w w':=by
 obtain⟨l,hk,hrd,-,-⟩:=h.ex
 have hB2:=hB l hk hrd
 have hln:l.length≤17592186044416:=by have:=h.le;omega
 have hjk:=h'.k
 have HE:=znd (lyII i j (((zam hrd (fun k hk=>hrd.lt k hk))).and ((zam h'.rd (fun k hk=>h'.rd.lt k hk)))))
 have c:=Env.c2 HE.out
 have dd:=Env.d2 HE.out
 have KE:=znd (fun(V:World) (h1:Rd V .u64 i.A l) (h2:Rd V .u64 j.A (digs B64 z.natAbs))=>(show Calls Tryz.prog 127 #[.slice i.A i.k i.c,.slice j.A j.k j.c] V fun e w'=>e=.returned (.bool B)∧Below V.heap.size V w' from by rw[hk,hjk,←hB2];exact ziU V _ _ _ _ _ _ hln h1 h2))
 have he:(i.neg==j.neg)=true:=by rw[hne];simp
 clear h h' hB hrd hk hjk hB2 hne
 unfold iA
 go_enter Tryz.func126,Tryz.ntmps126
 go_wp2_with fail
 refine(KE.out _ HE.out.o.1 HE.out.o.2).mono ?_
 rintro e w1 ⟨rfl,hb⟩
 replace HE:=znd (Env.call HE.out hb)
 clear hb
 go_wp2_with fail
 go_ret
 exact⟨rfl,HE.out.bel⟩
theorem zea (w:World) (i j:IV) (z y:Int) (n:Nat) (hn:n≤17592186044416) (h:IntD i y n w) (h':IntN j z w):Calls Tryz.prog 126 #[iA i,iA j] w fun e w'=>(∃B,e=.returned (.bool B)∧(B=true↔IntN i z w))∧Below w.heap.size w w':=by
 by_cases hne:i.neg=j.neg
 ·obtain⟨l,hk,hrd,hx,hz⟩:=h.ex
  have key:(l=digs B64 z.natAbs)↔IntN i z w:=by
   constructor
   ·intro e
    refine⟨by rw[hk,e],h.cap,by rw[hne];exact h'.neg,by rw[←e];exact hrd⟩
   ·intro hi
    have h1:l.length=(digs B64 z.natAbs).length:=by rw[←hk];exact hi.k
    exact zdT _ _ h1 fun t ht=>by
     have c1:=hrd.cell t ht
     have c2:=hi.rd.cell t (by omega)
     rw[c1]at c2
     have c3:((nth l t:Nat):Int)=((nth (digs B64 z.natAbs) t:Nat):Int):=by simpa using c2
     omega
  refine(zis w i j z y n hn h h' hne (decide (l=digs B64 z.natAbs)) (fun l' hk' hrd'=>?_)).mono ?_
  ·have:l'=l:=zdT _ _ (by omega) fun t ht=>by
    have c1:=hrd'.cell t ht
    have c2:=hrd.cell t (by omega)
    rw[c1]at c2
    have c3:((nth l' t:Nat):Int)=((nth l t:Nat):Int):=by simpa using c2
    omega
   rw[this]
  ·rintro e w' ⟨rfl,hb⟩
   exact⟨⟨_,rfl,by rw[decide_eq_true_eq];exact key⟩,hb⟩
 ·refine(zii w i j z y n hn h h' hne).mono ?_
  rintro e w' ⟨rfl,hb⟩
  refine⟨⟨false,rfl,fun h0=>absurd h0 (by decide),fun hi=>?_⟩,hb⟩
  exact absurd (hi.neg.trans h'.neg.symm) hne

theorem zgL {i:IV} {z:Int} {w:World} {l:List Nat} (hk:i.k=l.length) (hrd:Rd w .u64 i.A l) (hc:i.k≤i.c):IntN i z w↔(i.neg=decide (z<0)∧l=digs B64 z.natAbs):=by
 constructor
 ·intro hi
  refine⟨hi.neg,zdT _ _ (by rw[←hk];exact hi.k) fun t ht=>?_⟩
  have c1:=hrd.cell t ht
  have c2:=hi.rd.cell t (by rw[←hi.k,hk];exact ht)
  rw[c1]at c2
  have c3:((nth l t:Nat):Int)=((nth (digs B64 z.natAbs) t:Nat):Int):=by simpa using c2
  omega
 ·rintro⟨h1,h2⟩
  exact⟨by rw[hk,h2],hc,h1,by rw[←h2];exact hrd⟩
theorem IntD.same {i:IV} {y z:Int} {n:Nat} {w W:World} (h:IntD i y n w) (hb:Below w.heap.size w W):IntN i z W↔IntN i z w:=by
 obtain⟨l,hk,hrd,-,-⟩:=h.ex
 rw[zgL hk (hrd.below hb (Nat.le_refl _)) h.cap,zgL hk hrd h.cap]
theorem RatD.same {r:RV} {q q':Rat} {n:Nat} {w W:World} (h:RatD r q n w) (hb:Below w.heap.size w W):RatN r q' W↔RatN r q' w:=by
 obtain⟨x,d,hx,hd,-⟩:=h.ex
 constructor
 ·intro k;exact⟨(hx.same hb).1 k.num,(hd.same hb).1 k.den⟩
 ·intro k;exact⟨(hx.same hb).2 k.num,(hd.same hb).2 k.den⟩
set_option maxRecDepth 100000 in
theorem zfE (w:World) (r:RV) (q:Rat) (n:Nat) (hn:n≤400000000000) (h1n:1≤n) (h:RatD r q n w) (hT:Tz w):
 Calls Tryz.prog 104 #[rA r] w fun e w'=>(∃B,e=.returned (.bool B)∧(B=true↔RatN r q w))∧Below w.heap.size w w':=by
 obtain⟨x,d,hx,hd,hq⟩:=h.ex
 have HE:=znd (lyR r (((RatD.old h)).and ((hx.old).and ((hd.old).and (hT.old)))))
 have c:=Env.c1 HE.out
 have HX:=znd hx
 have HD:=znd hd
 clear h hx hd hT hq
 unfold rA
 go_enter Tryz.func104,Tryz.ntmps104
 go_wp2_with fail
 refine(zaG _ r q n (by omega) h1n HE.out.o.1 HE.out.o.2.2.2).mono ?_
 rintro e w1 ⟨k,rfl,hk,hb⟩
 replace HE:=znd (Env.ret HE.out hk hb)
 clear hk hb
 go_upto_region 3 with fail
 obtain⟨W2,g4,hW2,hg4,HE⟩:=Env.al HE.out 48 #[.bool k.num.neg,.slice k.num.A k.num.k k.num.c,.bool k.den.neg,.slice k.den.A k.den.k k.den.c]
 rw[hW2,hg4]
 clear hW2 hg4
 replace c:=Env.c2 HE.out
 go_wp2_with fail
 refine(zea _ r.num k.num q.num x n (by omega) HE.out.o.2.1 HE.out.n.1.num).mono ?_
 rintro e w3 ⟨⟨B1,rfl,hB1⟩,hb⟩
 have H1:=znd (hB1.trans (HX.out.same HE.out.bel))
 replace HE:=znd (Env.call HE.out hb)
 replace c:=Env.c2 HE.out
 clear hb hB1
 cases B1
 ·go_wp2_with fail
  exact bodyPost_ret (v:=.bool false) (by simp[results,Tryz.results104,go_sem]) rfl (⟨⟨false,rfl,⟨fun h0=>absurd h0 (by decide),fun hr=>H1.out.2 hr.num⟩⟩,HE.out.bel⟩)
 ·go_wp2_with fail
  refine(zea _ r.den k.den (dn q) d n (by omega) HE.out.o.2.2.1 HE.out.n.1.den).mono ?_
  rintro e w4 ⟨⟨B2,rfl,hB2⟩,hb⟩
  have H2:=znd (hB2.trans (HD.out.same HE.out.bel))
  replace HE:=znd (Env.call HE.out hb)
  replace c:=Env.c2 HE.out
  clear hb hB2
  go_wp2_with fail
  exact bodyPost_ret (v:=.bool B2) (by simp[results,Tryz.results104,go_sem]) rfl (⟨⟨B2,rfl,⟨fun h0=>⟨H1.out.1 (by simp),H2.out.1 h0⟩,fun hr=>H2.out.2 hr.den⟩⟩,HE.out.bel⟩)
def zaR (P:Prop) (e:Ending):Prop:=∃B,e=.returned (.bool B)∧(B=true↔P)
theorem za7 {P:Prop} (B:Bool) (h:B=true↔P):zaR P (.returned (.bool B)):=⟨B,rfl,h⟩
structure RightP (ts:List TeV) (m:Int) (w:World):Prop where
 rng:∀t∈ts,0≤t.pl∧t.pl<m
 rise:Rise ts
 nz:∀t∈ts,nzT t=true
 one:∀t∈ts,RatN t.r t.q w
theorem RightP.nil (m:Int) (w:World):RightP [] m w:=⟨by simp,.nil,by simp,by simp⟩
theorem RightP.more {ts:List TeV} {m:Int} {w:World} {i:Nat} (h:RightP (ts.take i) m w) (hi:i<ts.length) (h1:0≤ts[i].pl) (h2:ts[i].pl<m) (h3:∀k (hk:k<ts.length),k+1=i→ts[k].pl<ts[i].pl) (h4:nzT ts[i]=true) (h5:RatN ts[i].r ts[i].q w):RightP (ts.take (i+1)) m w:=by
 rw[List.take_succ_eq_append_getElem hi]
 refine⟨fun t ht=>?_,?_,fun t ht=>?_,fun t ht=>?_⟩
 ·rcases List.mem_append.1 ht with ht|ht
  ·exact h.rng t ht
  ·rw[List.mem_singleton.1 ht];exact⟨h1,h2⟩
 ·refine List.pairwise_append.2 ⟨h.rise,List.pairwise_singleton _ _,fun a ha b hb=>?_⟩
  rw[List.mem_singleton.1 hb]
  obtain⟨k,hk,rfl⟩:=List.mem_iff_getElem.1 ha
  have hk':k<i:=by simp at hk;omega
  rw[List.getElem_take]
  obtain⟨j,rfl⟩:∃j,i=j+1:=⟨i-1,by omega⟩
  have hj:=h3 j (by omega) rfl
  rcases Nat.lt_or_ge k j with h0|h0
  ·have:=h.rise.at_ (i:=k) (j:=j) h0 (by simp;omega)
   rw[List.getElem_take,List.getElem_take]at this
   omega
  ·have:k=j:=by omega
   subst this;exact hj
 ·rcases List.mem_append.1 ht with ht|ht
  ·exact h.nz t ht
  ·rw[List.mem_singleton.1 ht];exact h4
 ·rcases List.mem_append.1 ht with ht|ht
  ·exact h.one t ht
  ·rw[List.mem_singleton.1 ht];exact h5
set_option maxRecDepth 100000 in
theorem zcj (w:World) (n:Nat) (hn:n≤400000000000) (h1n:1≤n) (A:Option Addr) (c:Nat) (ts:List TeV) (m:Int) (h:LsR 5 tecells (teD n) A ts w) (hl:ts.length≤1000000) (hT:Tz w):
 Calls Tryz.prog 63 #[.slice A ts.length c,.int .i64 m] w fun e w'=>zaR (RightP ts m w) e∧Below w.heap.size w w':=by
 have sl1:=h.sl
 have hsz2:=zai
 have hadd:=zaa
 have Hw:=znd h
 have Ho:=znd ((h.old zah).and hT.old)
 have Hb:=znd (Below.refl w.heap.size w)
 clear h hT
 go_enter Tryz.func63,Tryz.ntmps63
 go_wp2_with fail
 go_loopw [9] (fun iv wr=>∃i:Nat,iv=.int .i64 (i:Int)∧i≤ts.length∧Hid (RightP (ts.take i) m w)∧Hid (Below w.heap.size w wr)) (fun iv _=>ts.length-(intOf iv).toNat)
 case atStart=>exact⟨0,rfl,Nat.zero_le _,znd (RightP.nil m w),Hb⟩
 case round=>
  clear Hb
  obtain⟨i,rfl,hi,HP,Hb⟩:=hrel
  by_cases hlt:i<ts.length
  ·have HE:=znd (Env.start ((Ho.out.below Hb.out).now|>fun h=>(LsR.old zah h.1).and h.2.old))
   have c0:=HE.out.o.1.tc i hlt
   obtain⟨t,ht⟩:∃t,t=ts[i]:=⟨_,rfl⟩
   rw[←ht]at c0
   have Hm:=znd (show t∈ts by rw[ht];exact List.getElem_mem hlt)
   have Ht:=znd ht
   clear ht
   go_upto_region 4 with fail
   obtain⟨W2,gt,hW2,hgt,HE⟩:=Env.al HE.out 65 #[.int .i64 t.pl,.bool t.r.num.neg,.slice t.r.num.A t.r.num.k t.r.num.c,.bool t.r.den.neg,.slice t.r.den.A t.r.den.k t.r.den.c]
   rw[hW2,hgt]
   clear hW2 hgt c0
   have cb:=Env.c1 HE.out
   by_cases h1:t.pl<0
   ·have Hx:=znd h1
    go_wp2_with fail
    go_ret
    exact⟨za7 false ⟨fun h0=>absurd h0 (by decide),fun hr=>absurd (hr.rng t Hm.out).1 (by omega)⟩,by first|exact Below.after Hb.out HE.out.bel|exact Below.after Hb.out (HE.out.drewN _).bel⟩
   ·by_cases h2:m≤t.pl
    ·have Hx:=znd h2
     go_wp2_with fail
     go_ret
     exact⟨za7 false ⟨fun h0=>absurd h0 (by decide),fun hr=>absurd (hr.rng t Hm.out).2 (by omega)⟩,by first|exact Below.after Hb.out HE.out.bel|exact Below.after Hb.out (HE.out.drewN _).bel⟩
    ·rcases Nat.eq_zero_or_pos i with rfl|h0
     ·go_upto_region 6 with fail
      go_quiet (fail)
      go_upto_region 8 with fail
      have cb:=Env.c1 (HE.out.drewN nq)
      replace HE:=znd (HE.out.drewN nq)
      go_wp2_with fail
      refine(zaV _ t.r t.q n (by omega) (HE.out.o.1.ok t Hm.out)).mono ?_
      rintro e w3 ⟨rfl,hb⟩
      replace HE:=znd (Env.call HE.out hb)
      replace cb:=Env.c1 HE.out
      clear hb
      obtain⟨B,hB⟩:∃B,(t.q.num.sign==0)=B:=⟨_,rfl⟩
      have HB:=znd hB
      cases B
      ·go_wp2_with fail
       refine(zfE _ t.r t.q n hn h1n (HE.out.o.1.ok t Hm.out) HE.out.o.2).mono ?_
       rintro e w4 ⟨⟨B2,rfl,hB2⟩,hb⟩
       have H2:=znd (hB2.trans ((Hw.out.ok t Hm.out).same (Below.after Hb.out HE.out.bel)))
       replace HE:=znd (Env.call HE.out hb)
       clear hb hB2 cb
       cases B2
       ·go_wp2_with fail
        go_ret
        exact⟨za7 false ⟨fun h0=>absurd h0 (by decide),fun hr=>absurd (H2.out.2 (hr.one t Hm.out)) (by simp)⟩,Below.after Hb.out HE.out.bel⟩
       ·go_wp2_with fail
        go_roundw
        case rel=>exact⟨1,by go_num,by omega,znd (HP.out.more hlt (by rw[←Ht.out];omega) (by rw[←Ht.out];omega) (fun k hk e=>absurd e (by omega)) (by rw[←Ht.out];unfold nzT;rw[HB.out];rfl) (by rw[←Ht.out];exact H2.out.1 (by simp))),znd (Below.after Hb.out HE.out.bel)⟩
        case measure=>(simp[intOf]<;>omega)
      ·go_wp2_with fail
       go_ret
       exact⟨za7 false ⟨fun h0=>absurd h0 (by decide),fun hr=>absurd (hr.nz t Hm.out) (by unfold nzT;rw[HB.out];decide)⟩,Below.after Hb.out HE.out.bel⟩
     ·obtain⟨k,rfl⟩:∃k,i=k+1:=⟨i-1,by omega⟩
      have hkl:k<ts.length:=by omega
      have c2:=(HE.out.o.1.tc k hkl)
      obtain⟨u,hu⟩:∃u,u=ts[k]:=⟨_,rfl⟩
      rw[←hu]at c2
      have Hu:=znd hu
      clear hu
      have hi1:(0:Int)<(k:Int)+1:=by omega
      have hi3:(k:Int)<(ts.length:Int):=by omega
      have hi5:IntKind.i64.wrap ((k:Int)+1-1)=(k:Int):=by rw[IntKind.wrap_i64];omega
      have hi6:IntKind.i64.wrap (k:Int)=(k:Int):=by rw[IntKind.wrap_i64];omega
      by_cases h3:t.pl≤u.pl
      ·have Hx:=znd h3
       go_upto_region 6 with fail
       go_quiet (fail)
       go_wp2_with fail
       go_ret
       exact⟨za7 false ⟨fun h0=>absurd h0 (by decide),fun hr=>absurd (show u.pl<t.pl by rw[Hu.out,Ht.out];exact hr.rise.at_ (by omega) hlt) (by omega)⟩,by first|exact Below.after Hb.out HE.out.bel|exact Below.after Hb.out (HE.out.drewN _).bel⟩
      ·go_upto_region 6 with fail
       go_quiet (fail)
       clear c2
       go_upto_region 8 with fail
       have cb:=Env.c1 (HE.out.drewN nq)
       replace HE:=znd (HE.out.drewN nq)
       go_wp2_with fail
       refine(zaV _ t.r t.q n (by omega) (HE.out.o.1.ok t Hm.out)).mono ?_
       rintro e w3 ⟨rfl,hb⟩
       replace HE:=znd (Env.call HE.out hb)
       replace cb:=Env.c1 HE.out
       clear hb
       obtain⟨B,hB⟩:∃B,(t.q.num.sign==0)=B:=⟨_,rfl⟩
       have HB:=znd hB
       cases B
       ·go_wp2_with fail
        refine(zfE _ t.r t.q n hn h1n (HE.out.o.1.ok t Hm.out) HE.out.o.2).mono ?_
        rintro e w4 ⟨⟨B2,rfl,hB2⟩,hb⟩
        have H2:=znd (hB2.trans ((Hw.out.ok t Hm.out).same (Below.after Hb.out HE.out.bel)))
        replace HE:=znd (Env.call HE.out hb)
        clear hb hB2 cb
        cases B2
        ·go_wp2_with fail
         go_ret
         exact⟨za7 false ⟨fun h0=>absurd h0 (by decide),fun hr=>absurd (H2.out.2 (hr.one t Hm.out)) (by simp)⟩,Below.after Hb.out HE.out.bel⟩
        ·go_wp2_with fail
         go_roundw
         case rel=>exact⟨k+2,by go_num,by omega,znd (HP.out.more hlt (by rw[←Ht.out];omega) (by rw[←Ht.out];omega) (fun k2 hk e=>by have e2:k2=k:=(by omega);subst e2;rw[←Hu.out,←Ht.out];omega) (by rw[←Ht.out];unfold nzT;rw[HB.out];rfl) (by rw[←Ht.out];exact H2.out.1 (by simp))),znd (Below.after Hb.out HE.out.bel)⟩
         case measure=>(simp[intOf]<;>omega)
       ·go_wp2_with fail
        go_ret
        exact⟨za7 false ⟨fun h0=>absurd h0 (by decide),fun hr=>absurd (hr.nz t Hm.out) (by unfold nzT;rw[HB.out];decide)⟩,Below.after Hb.out HE.out.bel⟩
  ·obtain rfl:i=ts.length:=by omega
   have HP2:=znd (show RightP ts m w by have:=HP.out;rwa [List.take_length]at this)
   go_wp2_with fail
   go_ret
   exact⟨za7 true ⟨fun _=>HP2.out,fun _=>rfl⟩,Hb.out⟩
end Go.Proofs.YtfdmajmhmligpaaGreatDoor
