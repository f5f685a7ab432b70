/-
 sparse.Scale. sparse.join. sparse.join: the walk. sparse.Axpy.
-/
import Derived.Test.YtfdmajmhmligpaaGreatDoorV5
namespace Go.Proofs.YtfdmajmhmligpaaGreatDoor
set_option maxHeartbeats 8000000
open Go.RowKit

def scP (a:Rat) (p:Int×Rat):Int×Rat:=(p.1,a*p.2)
theorem GL.length {w W:World} {e:TypeId} {sz n c:Nat} {A:Option Addr} {cs:List (Array Value)} {ls:List Ow} {old new:World→Prop} (h:GL w (⟨e,sz,.slice A n c,cs⟩::ls) old new W):n=cs.length:=
 (show OwnE W w.heap.size e sz (.slice A n c) cs from h.own _ (List.mem_cons_self ..)).el.2
set_option maxRecDepth 100000 in
theorem zho (w:World) (r:RV) (a:Rat) (n:Nat) (hn:n≤100000000000) (h1n:1≤n) (A:Option Addr) (c:Nat) (ts:List TeV) (hr:RatD r a n w) (h:LsR 5 tecells (teD n) A ts w) (ht:Rise ts) (hl:ts.length≤1000) (hT:Tz w):
 Calls Tryz.prog 45 #[rA r,.slice A ts.length c] w (RetVec (((ts.map plq).map (scP a)).filter nzP) w):=by
 have sl1:=h.sl
 have hsz2:=zai
 have hadd:=zaa
 have Hrt:=znd ht
 have Hsa:=znd (RatD.sz hr h1n)
 have Hst:=znd (show∀t∈ts,Sz t.q n from fun t ht=>RatD.sz (h.ok t ht) h1n)
 have HE:=znd (Env.lay1 (Env.start ((h.old zah).and ((RatD.old hr).and hT.old))) (rfl:w.alloc (.cells #[.bool r.num.neg,.slice r.num.A r.num.k r.num.c,.bool r.den.neg,.slice r.den.A r.den.k r.den.c] 48)=_))
 clear h hr hT ht
 unfold rA
 go_enter Tryz.func45,Tryz.ntmps45
 go_wp2_with fail
 refine(zcn _ (teD n) zah A c ts HE.out.o.1 (by omega) Hrt.out).mono ?_
 rintro e w2 ⟨rfl,hb⟩
 replace HE:=znd (Env.call HE.out hb)
 clear hb
 go_wp2_with fail
 have HG:=znd ((GL.start HE.out).new_ 65 5)
 clear HE
 go_loopw [5,12] (fun ov iv wr=>∃(Ao:Option Addr) (co i:Nat) (os:List TeV),ov=.slice Ao os.length co∧iv=.int .i64 (i:Int)∧i≤ts.length∧Hid (os.length≤i)∧Hid (os.map plq=(((ts.take i).map plq).map (scP a)).filter nzP)∧Hid (GL w [⟨65,5,.slice Ao os.length co,os.map tecells⟩] (fun V=>(∀b∈[(⟨w.heap.size,48,#[.bool r.num.neg,.slice r.num.A r.num.k r.num.c,.bool r.den.neg,.slice r.den.A r.den.k r.den.c]⟩:Bo)],Blk V b.g b.t b.cs)∧LsR 5 tecells (teD n) A ts V∧RatD r a n V∧Tz V) (fun V=>∀p∈os,teN p V) wr)) (fun _ iv _=>ts.length-(intOf iv).toNat)
 case atStart=>exact⟨none,0,0,[],rfl,rfl,Nat.zero_le _,znd (Nat.zero_le _),znd rfl,znd (HG.out.imp (fun _ h=>h) (fun _ _=>by simp))⟩
 case round=>
  clear HG
  obtain⟨Ao,co,i,os,rfl,rfl,hi,Hol,HM,HG⟩:=hrel
  by_cases hlt:i<ts.length
  ·have HE:=znd HG.out.env
   have c0:=HE.out.o.1.2.1.tc i hlt
   obtain⟨t,ht⟩:∃t,t=ts[i]:=⟨_,rfl⟩
   rw[←ht]at c0
   have Hm:=znd (show t∈ts by rw[ht];exact List.getElem_mem hlt)
   have HM2:=znd (show(((ts.take (i+1)).map plq).map (scP a)).filter nzP=os.map plq++([scP a (plq t)]).filter nzP by
    rw[List.take_succ_eq_append_getElem hlt,List.map_append,List.map_append,List.filter_append,←HM.out,ht];rfl)
   clear ht
   go_upto_region 5 with fail
   obtain⟨W2,gt,hW2,hgt,HE⟩:=Env.al HE.out 65 #[.int .i64 t.pl,.bool t.r.num.neg,.slice t.r.num.A t.r.num.k t.r.num.c,.bool t.r.den.neg,.slice t.r.den.A t.r.den.k t.r.den.c]
   rw[hW2,hgt]
   clear hW2 hgt c0
   have cb:=Env.c1 HE.out
   have ca:=Blk.cb (HE.out.o.1.1 _ (List.mem_singleton_self _))
   go_wp2_with fail
   refine(zaN _ r t.r a t.q n (by omega) h1n HE.out.o.1.2.2.1 (HE.out.o.1.2.1.ok t Hm.out) HE.out.o.1.2.2.2).mono ?_
   rintro e w3 ⟨k,rfl,hk,hb⟩
   replace HE:=znd (Env.ret HE.out hk hb)
   clear hk hb cb ca
   go_upto_region 6 with fail
   obtain⟨W4,gv,hW4,hgv,HE⟩:=Env.al HE.out 48 #[.bool k.num.neg,.slice k.num.A k.num.k k.num.c,.bool k.den.neg,.slice k.den.A k.den.k k.den.c]
   rw[hW4,hgv]
   clear hW4 hgv
   have cb:=Env.c2 HE.out
   have Hsk:=znd (Sz.mul Hsa.out (Hst.out t Hm.out))
   go_wp2_with fail
   refine(zaV _ k (a*t.q) (n+n+1) (by omega) (RatN.rat HE.out.n.1 Hsk.out)).mono ?_
   rintro e w5 ⟨rfl,hb⟩
   replace HE:=znd (Env.call HE.out hb)
   replace cb:=Env.c2 HE.out
   clear hb
   obtain⟨B,hB⟩:∃B,((a*t.q).num.sign==0)=B:=⟨_,rfl⟩
   have hB2:((a*t.q).num.sign != 0)=!B:=by rw[←hB];rfl
   have HB:=znd hB
   clear hB
   cases B
   ·obtain⟨Ap,cp,w8,hrun,hG⟩:=GL.appT zaE HG.out HE.out.read.read ⟨t.pl,k,a*t.q⟩ (by have:=Hol.out;omega)
    have Hrun:=znd hrun
    have HG2:=znd hG
    clear hrun hG HE HG
    go_wp2_with (at_builtin;refine zac rfl (.tmp 23) (.tmp 28) 25 _ _ _ rfl rfl rfl Hrun.out ?_)
    clear Hrun cb
    go_wp2_with fail
    go_roundw
    case rel=>exact⟨Ap,cp,i+1,os++[⟨t.pl,k,a*t.q⟩],by simp,by go_num,by omega,znd (by have:=Hol.out;simp;omega),znd (by
     rw[HM2.out,List.map_append,List.filter_cons,show nzP (scP a (plq t))=true from by show(!((a*t.q).num.sign==0))=true;rw[HB.out];rfl,if_pos rfl];rfl),znd (HG2.out.imp (fun _ h=>h) (fun V h p hp=>by
     rcases List.mem_append.1 hp with hp|hp
     ·exact h.2 p hp
     ·rw[List.mem_singleton.1 hp];exact h.1.2.2.1))⟩
    case measure=>(simp[intOf]<;>omega)
   ·go_wp2_with fail
    go_roundw
    case rel=>exact⟨Ao,co,i+1,os,rfl,by go_num,by omega,znd (by have:=Hol.out;omega),znd (by
     rw[HM2.out,List.filter_cons,show nzP (scP a (plq t))=false from by show(!((a*t.q).num.sign==0))=false;rw[HB.out];rfl];simp),znd ((HG.out.keep (Rests.pure trivial _ _) HE.out.bel).imp (fun _ h=>h) (fun _ h=>h.2))⟩
    case measure=>(simp[intOf]<;>omega)
  ·obtain rfl:i=ts.length:=by omega
   obtain⟨A',c',hv,hc,hr⟩:=HG.out.tell (cells:=tecells) (ok:=teN) (l:=os) (fun V h=>h)
   obtain⟨rfl,rfl⟩:Ao=A'∧co=c':=by simpa using hv
   have Hr:=znd hr
   have Hbel:=znd HG.out.bel
   clear hr hv HG
   go_wp2_with fail
   go_ret
   exact⟨Ao,co,os,rfl,hc,by rw[HM.out,List.take_length],Hr.out,Hbel.out⟩

theorem zaY (p:Int×Rat) (a:Int):getQ [p] a=if p.1=a then p.2 else 0:=by
 show(if p.1=a then p.2 else 0)+0=_
 rw[Rat.add_zero]
structure JI (ts us:List TeV) (N i j:Nat) (os:List TeV):Prop where
 rise:Rise os
 nz:∀o∈os,nzT o=true
 get:∀a,getQ (os.map plq) a=getQ ((ts.take i).map plq) a+getQ ((us.take j).map plq) a
 lx:∀o∈os,∀m (hm:m<ts.length),i≤m→o.pl<ts[m].pl
 ly:∀o∈os,∀m (hm:m<us.length),j≤m→o.pl<us[m].pl
 sz:∀o∈os,Sz o.q N
 len:os.length≤i+j
theorem JI.start (ts us:List TeV) (N:Nat):JI ts us N 0 0 []:=⟨.nil,by simp,fun a=>by show(0:Rat)=0+0;rw[Rat.zero_add],by simp,by simp,by simp,Nat.le_refl _⟩
theorem zds {ts:List TeV} {i:Nat} (hi:i<ts.length) (a:Int):getQ ((ts.take (i+1)).map plq) a=getQ ((ts.take i).map plq) a+getQ [plq ts[i]] a:=by
 rw[List.take_succ_eq_append_getElem hi,List.map_append,zaB];rfl
theorem JI.one {ts us os:List TeV} {N i j:Nat} (h:JI ts us N i j os) (x:TeV) (i' j':Nat) (hi:i≤i') (hj:j≤j') (hl:i+j+1≤i'+j') (h1:∀o∈os,o.pl<x.pl) (h2:∀m (hm:m<ts.length),i'≤m→x.pl<ts[m].pl) (h3:∀m (hm:m<us.length),j'≤m→x.pl<us[m].pl)
 (hz:nzT x=true) (hs:Sz x.q N) (hg:∀a,getQ ((ts.take i').map plq) a+getQ ((us.take j').map plq) a=(getQ ((ts.take i).map plq) a+getQ ((us.take j).map plq) a)+getQ [plq x] a):JI ts us N i' j' (os++[x]):=by
 refine⟨List.pairwise_append.2 ⟨h.rise,List.pairwise_singleton _ _,fun a ha b hb=>by rw[List.mem_singleton.1 hb];exact h1 a ha⟩,fun o ho=>?_,fun a=>?_,fun o ho m hm hmi=>?_,fun o ho m hm hmi=>?_,fun o ho=>?_,by have:=h.len;simp;omega⟩
 ·rcases List.mem_append.1 ho with ho|ho
  ·exact h.nz o ho
  ·rw[List.mem_singleton.1 ho];exact hz
 ·rw[hg,←h.get,List.map_append,zaB];rfl
 ·rcases List.mem_append.1 ho with ho|ho
  ·exact h.lx o ho m hm (by omega)
  ·rw[List.mem_singleton.1 ho];exact h2 m hm hmi
 ·rcases List.mem_append.1 ho with ho|ho
  ·exact h.ly o ho m hm (by omega)
  ·rw[List.mem_singleton.1 ho];exact h3 m hm hmi
 ·rcases List.mem_append.1 ho with ho|ho
  ·exact h.sz o ho
  ·rw[List.mem_singleton.1 ho];exact hs
theorem Rise.later {ts:List TeV} (hr:Rise ts) {i m:Nat} (him:i+1≤m) (hm:m<ts.length):(ts[i]'(by omega)).pl<ts[m].pl:=hr.at_ (by omega) hm
theorem Rise.from_ {ts:List TeV} (hr:Rise ts) {a:Int} {i:Nat} (hi:i<ts.length) (h:a<ts[i].pl) (m:Nat) (hm:m<ts.length) (him:i≤m):a<ts[m].pl:=by
 rcases Nat.eq_or_lt_of_le him with e|e
 ·subst e;exact h
 ·have:=hr.at_ e hm;omega
theorem JI.left {ts us os:List TeV} {N i j:Nat} (h:JI ts us N i j os) (ht:Rise ts) (hu:Rise us) (hi:i<ts.length) (hl:∀hj:j<us.length,ts[i].pl<us[j].pl) (hz:nzT ts[i]=true) (hs:Sz ts[i].q N):JI ts us N (i+1) j (os++[ts[i]]):=
 h.one ts[i] (i+1) j (by omega) (Nat.le_refl _) (by omega) (fun o ho=>h.lx o ho i hi (Nat.le_refl _)) (fun m hm hmi=>ht.later hmi hm) (fun m hm hmj=>hu.from_ (by omega) (hl (by omega)) m hm hmj) hz hs (fun a=>by
  rw[zds hi,Rat.add_assoc,Rat.add_comm (getQ [plq ts[i]] a),←Rat.add_assoc])
theorem JI.right {ts us os:List TeV} {N i j:Nat} (h:JI ts us N i j os) (ht:Rise ts) (hu:Rise us) (hj:j<us.length) (hl:∀hi:i<ts.length,us[j].pl<ts[i].pl) (hz:nzT us[j]=true) (hs:Sz us[j].q N):JI ts us N i (j+1) (os++[us[j]]):=
 h.one us[j] i (j+1) (Nat.le_refl _) (by omega) (by omega) (fun o ho=>h.ly o ho j hj (Nat.le_refl _)) (fun m hm hmi=>ht.from_ (by omega) (hl (by omega)) m hm hmi) (fun m hm hmj=>hu.later hmj hm) hz hs (fun a=>by
  rw[zds hj,←Rat.add_assoc])
theorem JI.sum {ts us os:List TeV} {N i j:Nat} (_h:JI ts us N i j os) (hi:i<ts.length) (hj:j<us.length) (he:ts[i].pl=us[j].pl) (a:Int):getQ ((ts.take (i+1)).map plq) a+getQ ((us.take (j+1)).map plq) a=(getQ ((ts.take i).map plq) a+getQ ((us.take j).map plq) a)+getQ [(ts[i].pl,ts[i].q+us[j].q)] a:=by
 rw[zds hi,zds hj]
 have e:getQ [(ts[i].pl,ts[i].q+us[j].q)] a=getQ [plq ts[i]] a+getQ [plq us[j]] a:=by
  rw[zaY,zaY,zaY]
  show(if ts[i].pl=a then ts[i].q+us[j].q else 0)=(if ts[i].pl=a then ts[i].q else 0)+(if us[j].pl=a then us[j].q else 0)
  rw[←he]
  split
  ·rfl
  ·rw[Rat.zero_add]
 rw[e]
 generalize getQ ((ts.take i).map plq) a=x1
 generalize getQ ((us.take j).map plq) a=x2
 generalize getQ [plq ts[i]] a=x3
 generalize getQ [plq us[j]] a=x4
 rw[Rat.add_assoc,←Rat.add_assoc x3,Rat.add_comm x3,Rat.add_assoc x2,←Rat.add_assoc x1]
theorem JI.both {ts us os:List TeV} {N i j:Nat} (h:JI ts us N i j os) (ht:Rise ts) (hu:Rise us) (hi:i<ts.length) (hj:j<us.length) (he:ts[i].pl=us[j].pl) (x:TeV) (hx:x.pl=ts[i].pl) (hq:x.q=ts[i].q+us[j].q) (hz:nzT x=true) (hs:Sz x.q N):JI ts us N (i+1) (j+1) (os++[x]):=
 h.one x (i+1) (j+1) (by omega) (by omega) (by omega) (fun o ho=>by rw[hx];exact h.lx o ho i hi (Nat.le_refl _)) (fun m hm hmi=>by rw[hx];exact ht.later hmi hm) (fun m hm hmj=>by rw[hx,he];exact hu.later hmj hm) hz hs (fun a=>by
  rw[h.sum hi hj he a]
  show _=_+getQ [(x.pl,x.q)] a
  rw[hx,hq])
theorem JI.none {ts us os:List TeV} {N i j:Nat} (h:JI ts us N i j os) (hi:i<ts.length) (hj:j<us.length) (he:ts[i].pl=us[j].pl) (hq:ts[i].q+us[j].q=0):JI ts us N (i+1) (j+1) os:=
 ⟨h.rise,h.nz,fun a=>by
  rw[h.sum hi hj he a,hq,zaY,h.get a]
  show _=_+(if ts[i].pl=a then(0:Rat) else 0)
  rw[show(if ts[i].pl=a then(0:Rat) else 0)=0 by split<;>rfl,Rat.add_zero],fun o ho m hm hmi=>h.lx o ho m hm (by omega),fun o ho m hm hmi=>h.ly o ho m hm (by omega),h.sz,by have:=h.len;omega⟩
theorem GL.mk1 {w0 w W:World} {e:TypeId} {sz:Nat} {v:Value} {cs:List (Array Value)} {old new:World→Prop} (ho:OwnE W w0.heap.size e sz v cs) (hv:∀b,v.ownBlock=some b→w.heap.size≤b) (hr:Rests w (·<w.heap.size) old) (hn:Rests w (w0.heap.size≤·) new) (hb:Below w.heap.size w W) (h0:Below w0.heap.size w0 w):GL w0 [⟨e,sz,v,cs⟩] old new W:=
 ⟨fun o ho'=>by rw[List.mem_singleton.1 ho'];exact ho,List.pairwise_singleton _ _,(hr.below hb).mono fun n hn o ho' e'=>by
  rw[List.mem_singleton.1 ho']at e'
  have:=hv n e'
  omega,(hn.lt.below hb).mono fun n hn=>⟨hn.1,fun o ho' e'=>by
  rw[List.mem_singleton.1 ho']at e'
  have:=hv n e'
  have:=hn.2
  omega⟩,Below.after h0 hb⟩
def RetC (f:Int→Rat) (N L:Nat) (w:World) (e:Ending) (w':World):Prop:=
 ∃us:List (Int×Rat),us.Pairwise (fun p q=>p.1<q.1)∧(∀p∈us,nzP p=true∧Sz p.2 N)∧us.length≤L∧(∀a,getQ us a=f a)∧RetVec us w e w'

set_option maxRecDepth 100000 in
theorem zk6 (w0 w:World) (h0:Below w0.heap.size w0 w) (n m:Nat) (hn:n≤100000000000) (hm:m≤100000000000) (h1n:1≤n) (A A2:Option Addr) (c0 c2:Nat) (ts us:List TeV) (hr:Rests w (w0.heap.size≤·) (fun V=>LsR 5 tecells teN A ts V∧LsR 5 tecells teN A2 us V)) (ht:Rise ts) (hu:Rise us) (hzt:∀t∈ts,nzT t=true) (hzu:∀t∈us,nzT t=true) (hst:∀t∈ts,Sz t.q n) (hsu:∀t∈us,Sz t.q m) (hl:ts.length≤1000) (hl':us.length≤1000) (hT:Tz w):
 Calls Tryz.prog 43 #[.slice A ts.length c0,.slice A2 us.length c2] w (RetC (fun a=>getQ (ts.map plq) a+getQ (us.map plq) a) (n+m+1) (ts.length+us.length) w0):=by
 have sl1:=hr.now.1.sl
 have sl2:=hr.now.2.sl
 have hsz2:=zai
 have hadd:=zaa
 have Hrt:=znd ht
 have Hru:=znd hu
 have Hzt:=znd hzt
 have Hzu:=znd hzu
 have Hst:=znd hst
 have Hsu:=znd hsu
 obtain⟨i0,hi0,hz0,hz1,hz2⟩:=info_parts zbD
 have Hi0:=znd hi0
 have Hz0:=znd hz0
 have Hz1:=znd hz1
 have Hz2:=znd (show i0.bytes*(ts.length+us.length)≤281474976710656 by rw[hz2];omega)
 have Hm:=znd (show ts.length+us.length≤maxLen by simp[maxLen];omega)
 have Hr:=znd hr
 have HT:=znd hT.old
 have H0:=znd h0
 clear hr hT hi0 hz0 hz1 hz2 ht hu hzt hzu hst hsu h0
 go_enter Tryz.func43,Tryz.ntmps43
 go_wp2_with (at_make;refine wpList_make_own _ rfl (.const (.int .i64 0)) (.tmp 13) 25 rfl w0.heap.size 65 i0 zcq 5 zaE Hi0.out Hz0.out Hz1.out .i64 .i64 _ (ts.length+us.length) rfl rfl (by simp) Hz2.out Hm.out H0.out.size ?_;intro w1 hown hgrow)
 have HG:=znd (GL.mk1 (W:=w1) (e:=65) (sz:=5) (v:=.slice (some ⟨w.heap.size,0,none⟩) 0 (ts.length+us.length)) (cs:=[]) ⟨by simp,hown⟩ (fun b hb=>Nat.le_of_eq (by simpa[Value.ownBlock] using hb)) HT.out Hr.out ((Below.refl _ w).grown hgrow (Nat.le_refl _) (fun b hb=>by cases hb)) H0.out)
 clear hown hgrow Hi0 Hz0 Hz1 Hz2 Hm Hr HT
 go_wp2_with fail
 go_loopw [5,6,7] (fun ov iv jv wr=>∃(Ao:Option Addr) (co i j:Nat) (os:List TeV),ov=.slice Ao os.length co∧iv=.int .i64 (i:Int)∧jv=.int .i64 (j:Int)∧i≤ts.length∧j≤us.length∧Hid (JI ts us (n+m+1) i j os)∧Hid (GL w0 [⟨65,5,.slice Ao os.length co,os.map tecells⟩] (Tz) (fun V=>(∀p∈os,teN p V)∧LsR 5 tecells teN A ts V∧LsR 5 tecells teN A2 us V) wr)) (fun _ iv jv _=>(ts.length-(intOf iv).toNat)+(us.length-(intOf jv).toNat))
 case atStart=>exact⟨_,_,0,0,[],rfl,rfl,rfl,Nat.zero_le _,Nat.zero_le _,znd (JI.start ts us _),znd (HG.out.imp (fun _ h=>h) (fun _ h=>⟨by simp,h⟩))⟩
 case round=>
  clear HG
  obtain⟨Ao,co,i,j,os,rfl,rfl,rfl,hi,hj,HJ,HG⟩:=hrel
  have HE:=znd HG.out.env
  by_cases hlt:i<ts.length
  ·have hit:((i:Int)==(ts.length:Int))=false:=by simp;omega
   obtain⟨t,ht⟩:∃t,t=ts[i]:=⟨_,rfl⟩
   have Hmt:=znd (show t∈ts by rw[ht];exact List.getElem_mem hlt)
   have Ht:=znd ht
   clear ht
   by_cases hlu:j<us.length
   ·have hju:((j:Int)==(us.length:Int))=false:=by simp;omega
    obtain⟨u,hu⟩:∃u,u=us[j]:=⟨_,rfl⟩
    have Hmu:=znd (show u∈us by rw[hu];exact List.getElem_mem hlu)
    have Hu:=znd hu
    clear hu
    by_cases h1:t.pl<u.pl
    ·have HJ2:=znd (show JI ts us (n+m+1) (i+1) j (os++[t]) by rw[Ht.out];exact HJ.out.left Hrt.out Hru.out hlt (fun _=>by rw[←Ht.out,←Hu.out];exact h1) (Hzt.out _ (List.getElem_mem hlt)) ((Hst.out _ (List.getElem_mem hlt)).up (by omega)))
     have c1:=HE.out.o.2.2.1.tc i hlt
     have c3:=HE.out.o.2.2.2.tc j hlu
     rw[←Ht.out]at c1
     rw[←Hu.out]at c3
     go_upto_region 9 with fail
     go_quiet (fail)
     replace HE:=znd (HE.out.drewN nq)
     generalize wr.drewN nq=wq at HE⊢
     clear c1 c3
     have c1:=HE.out.o.2.2.1.tc i hlt
     have c3:=HE.out.o.2.2.2.tc j hlu
     rw[←Ht.out]at c1
     rw[←Hu.out]at c3
     obtain⟨Ap,cp,w8,hrun,hG⟩:=GL.appT zaE HG.out HE.out t (by have:=HJ.out.len;omega)
     have Hrun:=znd hrun
     have HG2:=znd hG
     clear hrun hG HG
     go_wp2_with (at_builtin;refine zac rfl (.tmp 77) (.tmp 82) 25 _ _ _ rfl rfl rfl Hrun.out ?_)
     clear Hrun
     go_wp2_with fail
     go_roundw
     case rel=>exact⟨Ap,cp,i+1,j,os++[t],by simp,by go_num,by go_num,by omega,by omega,HJ2,znd (HG2.out.imp (fun _ h=>h) (fun V h=>⟨fun p hp=>by
      rcases List.mem_append.1 hp with hp|hp
      ·exact h.2.1 p hp
      ·rw[List.mem_singleton.1 hp];exact h.2.2.1.ok _ Hmt.out,h.2.2⟩))⟩
     case measure=>(simp[intOf]<;>omega)
    ·by_cases h2:u.pl<t.pl
     ·have HJ2:=znd (show JI ts us (n+m+1) i (j+1) (os++[u]) by rw[Hu.out];exact HJ.out.right Hrt.out Hru.out hlu (fun _=>by rw[←Ht.out,←Hu.out];exact h2) (Hzu.out _ (List.getElem_mem hlu)) ((Hsu.out _ (List.getElem_mem hlu)).up (by omega)))
      have c1:=HE.out.o.2.2.1.tc i hlt
      have c3:=HE.out.o.2.2.2.tc j hlu
      rw[←Ht.out]at c1
      rw[←Hu.out]at c3
      go_upto_region 9 with fail
      go_quiet (fail)
      replace HE:=znd (HE.out.drewN nq)
      generalize wr.drewN nq=wq at HE⊢
      clear c1 c3
      have c1:=HE.out.o.2.2.1.tc i hlt
      have c3:=HE.out.o.2.2.2.tc j hlu
      rw[←Ht.out]at c1
      rw[←Hu.out]at c3
      go_upto_region 12 with fail
      go_quiet (fail)
      replace HE:=znd (HE.out.drewN nq)
      generalize wq.drewN nq=wp at HE⊢
      clear c1 c3
      have c1:=HE.out.o.2.2.1.tc i hlt
      have c3:=HE.out.o.2.2.2.tc j hlu
      rw[←Ht.out]at c1
      rw[←Hu.out]at c3
      obtain⟨Ap,cp,w8,hrun,hG⟩:=GL.appT zaE HG.out HE.out u (by have:=HJ.out.len;omega)
      have Hrun:=znd hrun
      have HG2:=znd hG
      clear hrun hG HG
      go_wp2_with (at_builtin;refine zac rfl (.tmp 104) (.tmp 109) 25 _ _ _ rfl rfl rfl Hrun.out ?_)
      clear Hrun
      go_wp2_with fail
      go_roundw
      case rel=>exact⟨Ap,cp,i,j+1,os++[u],by simp,by go_num,by go_num,by omega,by omega,HJ2,znd (HG2.out.imp (fun _ h=>h) (fun V h=>⟨fun p hp=>by
       rcases List.mem_append.1 hp with hp|hp
       ·exact h.2.1 p hp
       ·rw[List.mem_singleton.1 hp];exact h.2.2.2.ok _ Hmu.out,h.2.2⟩))⟩
      case measure=>(simp[intOf]<;>omega)
     ·skip
      have c1:=HE.out.o.2.2.1.tc i hlt
      have c3:=HE.out.o.2.2.2.tc j hlu
      rw[←Ht.out]at c1
      rw[←Hu.out]at c3
      go_upto_region 9 with fail
      go_quiet (fail)
      replace HE:=znd (HE.out.drewN nq)
      generalize wr.drewN nq=wq at HE⊢
      clear c1 c3
      have c1:=HE.out.o.2.2.1.tc i hlt
      have c3:=HE.out.o.2.2.2.tc j hlu
      rw[←Ht.out]at c1
      rw[←Hu.out]at c3
      go_upto_region 12 with fail
      go_quiet (fail)
      replace HE:=znd (HE.out.drewN nq)
      generalize wq.drewN nq=wp at HE⊢
      clear c1 c3
      have c1:=HE.out.o.2.2.1.tc i hlt
      have c3:=HE.out.o.2.2.2.tc j hlu
      rw[←Ht.out]at c1
      rw[←Hu.out]at c3
      have HS1:=znd (Hst.out _ Hmt.out)
      have HS2:=znd (Hsu.out _ Hmu.out)
      have HT1:=znd (fun(V:World) (h:LsR 5 tecells teN A ts V)=>(show TC A i t V by rw[Ht.out];exact h.tc i hlt))
      have HU1:=znd (fun(V:World) (h:LsR 5 tecells teN A2 us V)=>(show TC A2 j u V by rw[Hu.out];exact h.tc j hlu))
      go_upto_region 4 with fail
      go_cut [8]from 15 to 112 (fun v wx=>∃g8 k,v=.pointer (some ⟨g8,0,none⟩)∧Hid (Env wr [⟨g8,48,#[.bool k.num.neg,.slice k.num.A k.num.k k.num.c,.bool k.den.neg,.slice k.den.A k.den.k k.den.c]⟩] (fun V=>(Tz) V∧(fun V=>(∀p∈os,teN p V)∧LsR 5 tecells teN A ts V∧LsR 5 tecells teN A2 us V) V) (fun V=>RatN k (t.q+u.q) V) wx))
      case first=>
       have c:=And.intro c1 c3
       go_region_held3 (fun W=>TC A i t W∧TC A2 j u W) (first|with_reducible exact c|((repeat' apply And.intro)<;>go_keep)|exact c|(refine⟨HT1.out _ ?_,HU1.out _ ?_⟩<;>first|exact HE.out.o.2.2.1|exact HE.out.o.2.2.2|exact HE.out.drew.o.2.2.1|exact HE.out.drew.o.2.2.2|exact(HE.out.nn _ _).o.2.2.1|exact(HE.out.nn _ _).o.2.2.2|exact(HE.out.nd_ _ _).o.2.2.1|exact(HE.out.nd_ _ _).o.2.2.2|exact(HE.out.put4 _ _ _ _).o.2.2.1|exact(HE.out.put4 _ _ _ _).o.2.2.2|exact(HE.out.drew.put4 _ _ _ _).o.2.2.1|exact(HE.out.drew.put4 _ _ _ _).o.2.2.2))
        (first
         |(go_at_call 13;go_must (refine(zbL _ t.r u.r t.q u.q (n+m) (by omega) (by omega) (RatN.rat ((by first|exact HE.out.o.2.2.1.ok t Hmt.out|exact HE.out.drew.o.2.2.1.ok t Hmt.out|exact(HE.out.nn _ _).o.2.2.1.ok t Hmt.out|exact(HE.out.nd_ _ _).o.2.2.1.ok t Hmt.out|exact(HE.out.nn _ _).drew.o.2.2.1.ok t Hmt.out)) (HS1.out.up (by omega))) (RatN.rat ((by first|exact HE.out.o.2.2.2.ok u Hmu.out|exact HE.out.drew.o.2.2.2.ok u Hmu.out|exact(HE.out.nn _ _).o.2.2.2.ok u Hmu.out|exact(HE.out.nd_ _ _).o.2.2.2.ok u Hmu.out|exact(HE.out.nn _ _).drew.o.2.2.2.ok u Hmu.out)) (HS2.out.up (by omega))) (by first|exact HE.out.o.1|exact HE.out.drew.o.1|exact(HE.out.nn _ _).o.1|exact(HE.out.nd_ _ _).o.1|exact(HE.out.nn _ _).drew.o.1)).mono ?_;rintro e w3 ⟨k,rfl,hk,hb⟩;(first|(replace HE:=znd (Env.ret HE.out hk hb))|(replace HE:=znd (Env.ret HE.out.drew hk hb))|(replace HE:=znd (Env.ret (HE.out.nn 48 #[.bool false,.slice none 0 0,.bool false,.slice none 0 0]) hk hb))|(replace HE:=znd (Env.ret (HE.out.nd_ 48 #[.bool false,.slice none 0 0,.bool false,.slice none 0 0]) hk hb))|(replace HE:=znd (Env.ret (HE.out.nn 48 #[.bool false,.slice none 0 0,.bool false,.slice none 0 0]).drew hk hb)));replace c:=And.intro (HT1.out _ HE.out.o.2.2.1) (HU1.out _ HE.out.o.2.2.2);clear hk hb;(first|(have cb:=Env.c1 HE.out)|skip))))
       all_goals
        go_wp2_with fail
        go_meet
        case rel=>exact⟨_,k,rfl,znd (by first|exact(HE.out.put4 _ _ _ _).imp (fun _ h=>h) (fun _ h=>h.1)|exact(HE.out.drew.put4 _ _ _ _).imp (fun _ h=>h) (fun _ h=>h.1)|exact(HE.out.nn _ _).imp (fun _ h=>h) (fun _ h=>h.1)|exact(HE.out.nd_ _ _).imp (fun _ h=>h) (fun _ h=>h.1))⟩
      case rest=>
       clear HE c1 c3
       obtain⟨g8,k,rfl,HE⟩:=hcut
       have cb:=Env.c1 HE.out
       have Hsk:=znd ((Sz.add HS1.out HS2.out).up (show n+m+1≤n+m+1 by omega))
       go_wp2_with fail
       refine(zaV _ k (t.q+u.q) (n+m+1) (by omega) (RatN.rat HE.out.n Hsk.out)).mono ?_
       rintro e w5 ⟨rfl,hb⟩
       replace HE:=znd (Env.call HE.out hb)
       replace cb:=Env.c1 HE.out
       clear hb
       obtain⟨B,hB⟩:∃B,((t.q+u.q).num.sign==0)=B:=⟨_,rfl⟩
       have hB2:((t.q+u.q).num.sign != 0)=!B:=by rw[←hB];rfl
       have HB:=znd hB
       clear hB
       cases B
       ·have HJ2:=znd (show JI ts us (n+m+1) (i+1) (j+1) (os++[⟨t.pl,k,t.q+u.q⟩])from HJ.out.both Hrt.out Hru.out hlt hlu (by rw[←Ht.out,←Hu.out];omega) _ (by rw[←Ht.out]) (by rw[←Ht.out,←Hu.out]) (by unfold nzT;show(!((t.q+u.q).num.sign==0))=true;rw[HB.out];rfl) Hsk.out)
        have c1:=HT1.out _ HE.out.o.2.2.1
        have ck1:=znd (fun(o:Obj)=>And.intro (Env.c1 (HE.out.other o)) (HT1.out _ (HE.out.other o).o.2.2.1))
        have ck2:=znd (fun(o:Obj)=>And.intro (Env.c1 (HE.out.drew.other o)) (HT1.out _ (HE.out.drew.other o).o.2.2.1))
        have ck3:=znd (fun(o:Obj)=>And.intro (Env.c1 ((HE.out.other o).drew)) (HT1.out _ ((HE.out.other o).drew).o.2.2.1))
        go_upto_region 6 with fail
        go_region_held3 (fun W=>CB g8 #[.bool k.num.neg,.slice k.num.A k.num.k k.num.c,.bool k.den.neg,.slice k.den.A k.den.k k.den.c] W∧TC A i t W) (first|with_reducible exact And.intro cb c1|with_reducible exact ck3.out _|with_reducible exact ck1.out _|with_reducible exact ck2.out _|exact ck3.out _|((repeat' apply And.intro)<;>go_keep))
         (first
          |(obtain⟨Ap,cp,w8,hrun,hG⟩:=GL.appT zaE HG.out HE.out.drew.read ⟨t.pl,k,t.q+u.q⟩ (by have:=HJ.out.len;omega);refine zbr rfl (.tmp 39) (.tmp 47) 25 _ _ _ rfl rfl rfl hrun ?_;replace cb:=Blk.cb hG.n.1.1;replace c1:=HT1.out _ hG.n.2.2.1;have HG2:=znd hG;clear hrun hG HE)
          |(obtain⟨Ap,cp,w8,hrun,hG⟩:=GL.appT zaE HG.out HE.out.read ⟨t.pl,k,t.q+u.q⟩ (by have:=HJ.out.len;omega);refine zbr rfl (.tmp 39) (.tmp 47) 25 _ _ _ rfl rfl rfl hrun ?_;replace cb:=Blk.cb hG.n.1.1;replace c1:=HT1.out _ hG.n.2.2.1;have HG2:=znd hG;clear hrun hG HE))
        go_wp2_with fail
        go_roundw
        case rel=>exact⟨Ap,cp,i+1,j+1,os++[⟨t.pl,k,t.q+u.q⟩],by simp,by go_num,by go_num,by omega,by omega,HJ2,znd (HG2.out.imp (fun _ h=>h) (fun V h=>⟨fun p hp=>by
         rcases List.mem_append.1 hp with hp|hp
         ·exact h.2.1 p hp
         ·rw[List.mem_singleton.1 hp];exact h.1.2,h.2.2⟩))⟩
        case measure=>(simp[intOf]<;>omega)
       ·have HJ2:=znd (show JI ts us (n+m+1) (i+1) (j+1) os from HJ.out.none hlt hlu (by rw[←Ht.out,←Hu.out];omega) (by
         rw[←Ht.out,←Hu.out]
         have h1:=HB.out
         rw[beq_iff_eq,Int.sign_eq_zero_iff_zero]at h1
         exact Rat.num_eq_zero.1 h1))
        go_wp2_with fail
        go_roundw
        case rel=>exact⟨Ao,co,i+1,j+1,os,rfl,by go_num,by go_num,by omega,by omega,HJ2,znd ((HG.out.keep (Rests.pure trivial _ _) HE.out.bel).imp (fun _ h=>h) (fun _ h=>h.2))⟩
        case measure=>(simp[intOf]<;>omega)
   ·obtain rfl:j=us.length:=by omega
    have HJ2:=znd (show JI ts us (n+m+1) (i+1) us.length (os++[t]) by rw[Ht.out];exact HJ.out.left Hrt.out Hru.out hlt (fun hj=>absurd hj (by omega)) (Hzt.out _ (List.getElem_mem hlt)) ((Hst.out _ (List.getElem_mem hlt)).up (by omega)))
    have c1:=HE.out.o.2.2.1.tc i hlt
    rw[←Ht.out]at c1
    go_upto_region 9 with fail
    go_quiet (fail)
    replace HE:=znd (HE.out.drewN nq)
    generalize wr.drewN nq=wq at HE⊢
    clear c1
    have c1:=HE.out.o.2.2.1.tc i hlt
    rw[←Ht.out]at c1
    obtain⟨Ap,cp,w8,hrun,hG⟩:=GL.appT zaE HG.out HE.out t (by have:=HJ.out.len;omega)
    have Hrun:=znd hrun
    have HG2:=znd hG
    clear hrun hG HG
    go_wp2_with (at_builtin;refine zac rfl (.tmp 77) (.tmp 82) 25 _ _ _ rfl rfl rfl Hrun.out ?_)
    clear Hrun
    go_wp2_with fail
    go_roundw
    case rel=>exact⟨Ap,cp,i+1,us.length,os++[t],by simp,by go_num,by go_num,by omega,by omega,HJ2,znd (HG2.out.imp (fun _ h=>h) (fun V h=>⟨fun p hp=>by
     rcases List.mem_append.1 hp with hp|hp
     ·exact h.2.1 p hp
     ·rw[List.mem_singleton.1 hp];exact h.2.2.1.ok _ Hmt.out,h.2.2⟩))⟩
    case measure=>(simp[intOf]<;>omega)
  ·obtain rfl:i=ts.length:=by omega
   by_cases hlu:j<us.length
   ·have hju:((j:Int)==(us.length:Int))=false:=by simp;omega
    obtain⟨u,hu⟩:∃u,u=us[j]:=⟨_,rfl⟩
    have Hmu:=znd (show u∈us by rw[hu];exact List.getElem_mem hlu)
    have Hu:=znd hu
    clear hu
    have HJ2:=znd (show JI ts us (n+m+1) ts.length (j+1) (os++[u]) by rw[Hu.out];exact HJ.out.right Hrt.out Hru.out hlu (fun hi=>absurd hi (by omega)) (Hzu.out _ (List.getElem_mem hlu)) ((Hsu.out _ (List.getElem_mem hlu)).up (by omega)))
    have c3:=HE.out.o.2.2.2.tc j hlu
    rw[←Hu.out]at c3
    go_upto_region 9 with fail
    go_quiet (fail)
    replace HE:=znd (HE.out.drewN nq)
    generalize wr.drewN nq=wq at HE⊢
    clear c3
    have c3:=HE.out.o.2.2.2.tc j hlu
    rw[←Hu.out]at c3
    go_upto_region 12 with fail
    go_quiet (fail)
    replace HE:=znd (HE.out.drewN nq)
    generalize wq.drewN nq=wp at HE⊢
    clear c3
    have c3:=HE.out.o.2.2.2.tc j hlu
    rw[←Hu.out]at c3
    obtain⟨Ap,cp,w8,hrun,hG⟩:=GL.appT zaE HG.out HE.out u (by have:=HJ.out.len;omega)
    have Hrun:=znd hrun
    have HG2:=znd hG
    clear hrun hG HG
    go_wp2_with (at_builtin;refine zac rfl (.tmp 104) (.tmp 109) 25 _ _ _ rfl rfl rfl Hrun.out ?_)
    clear Hrun
    go_wp2_with fail
    go_roundw
    case rel=>exact⟨Ap,cp,ts.length,j+1,os++[u],by simp,by go_num,by go_num,by omega,by omega,HJ2,znd (HG2.out.imp (fun _ h=>h) (fun V h=>⟨fun p hp=>by
     rcases List.mem_append.1 hp with hp|hp
     ·exact h.2.1 p hp
     ·rw[List.mem_singleton.1 hp];exact h.2.2.2.ok _ Hmu.out,h.2.2⟩))⟩
    case measure=>(simp[intOf]<;>omega)
   ·obtain rfl:j=us.length:=by omega
    obtain⟨A',c',hv,hc,hr⟩:=HG.out.tell (cells:=tecells) (ok:=teN) (l:=os) (fun V h=>h.1)
    obtain⟨rfl,rfl⟩:Ao=A'∧co=c':=by simpa using hv
    have Hr:=znd hr
    have Hbel:=znd HG.out.bel
    clear hr hv HG HE
    go_wp2_with fail
    go_ret
    refine⟨os.map plq,?_,fun p hp=>?_,by rw[List.length_map];exact HJ.out.len,fun a=>?_,⟨Ao,co,os,rfl,hc,rfl,Hr.out,Hbel.out⟩⟩
    ·exact List.pairwise_map.2 HJ.out.rise
    ·obtain⟨o,ho,rfl⟩:=List.mem_map.1 hp
     exact⟨HJ.out.nz o ho,HJ.out.sz o ho⟩
    ·have:=HJ.out.get a
     rw[List.take_length,List.take_length]at this
     exact this

theorem zjM {p:Int×Rat} (h:nzP p=false):p.2=0:=by
 unfold nzP at h
 have h1:(p.2.num.sign==0)=true:=by simpa using h
 rw[beq_iff_eq,Int.sign_eq_zero_iff_zero]at h1
 exact Rat.num_eq_zero.1 h1
theorem zbB (l:List (Int×Rat)) (a:Int):getQ (l.filter nzP) a=getQ l a:=by
 induction l with
 |nil=>rfl
 |cons p l ih=>
  have e:getQ (p::l) a=getQ [p] a+getQ l a:=by rw[←List.singleton_append,zaB]
  by_cases h:nzP p=true
  ·rw[List.filter_cons,if_pos h,e,←ih,←zaB];rfl
  ·have h':nzP p=false:=by simpa using h
   rw[List.filter_cons,if_neg h,ih,e,zaY,zjM h']
   rw[show(if p.1=a then(0:Rat) else 0)=0 by split<;>rfl,Rat.zero_add]
theorem zhh (c:Rat) (l:List (Int×Rat)) (a:Int):getQ (l.map (scP c)) a=c*getQ l a:=by
 induction l with
 |nil=>show(0:Rat)=c*0;rw[Rat.mul_zero]
 |cons p l ih=>
  have e:getQ (p::l) a=getQ [p] a+getQ l a:=by rw[←List.singleton_append,zaB]
  have e2:getQ ((p::l).map (scP c)) a=getQ [scP c p] a+getQ (l.map (scP c)) a:=by rw[List.map_cons,←List.singleton_append,zaB]
  rw[e2,e,ih,Rat.mul_add,zaY,zaY]
  show(if p.1=a then c*p.2 else 0)+_=_
  split
  ·rfl
  ·rw[Rat.mul_zero]
theorem zcY {l:List TeV} {us:List (Int×Rat)} (h:l.map plq=us) (hu:us.Pairwise fun p q=>p.1<q.1):Rise l:=by
 subst h
 exact(List.pairwise_map (f:=plq) (R:=fun p q:Int×Rat=>p.1<q.1)).1 hu
theorem Rise.map {l:List TeV} (h:Rise l):(l.map plq).Pairwise fun p q=>p.1<q.1:=(List.pairwise_map (f:=plq) (R:=fun p q:Int×Rat=>p.1<q.1)).2 h
theorem zkX {l:List TeV} {us:List (Int×Rat)} (h:l.map plq=us) (hu:∀p∈us,nzP p=true):∀t∈l,nzT t=true:=by
 subst h
 exact fun t ht=>hu _ (List.mem_map_of_mem ht)
theorem zfy {l:List TeV} {us:List (Int×Rat)} {n:Nat} (h:l.map plq=us) (hu:∀p∈us,Sz p.2 n):∀t∈l,Sz t.q n:=by
 subst h
 exact fun t ht=>hu _ (List.mem_map_of_mem (f:=plq) ht)
theorem Env.of_below {w W:World} (hb:Below w.heap.size w W):Env w [] (fun _=>True) (fun _=>True) W:=⟨by simp,Rests.pure trivial _ _,Rests.pure trivial _ _,hb,by simp,.nil⟩
theorem zhO {w W:World} {bs:List Bo} {old new:World→Prop} {n m:Nat} {A3 A4:Option Addr} {c3 c4:Nat} {ts us ys xs:List TeV} {a:Rat} (HE:Env w bs old new W) (Hts:ts.map plq=(ys.map plq).filter nzP) (Hus:us.map plq=((xs.map plq).map (scP a)).filter nzP) (Hry:Rise ys) (Hrx:Rise xs)
 (Hsy:∀t∈ys,Sz t.q n) (Hsx:∀t∈xs,Sz t.q m) (Hsa:Sz a m) (hn:n≤49000000000) (hm:m≤49000000000) (h1n:1≤n) (hl:ys.length≤20) (hl':xs.length≤1000) (hnew:∀V,new V→LsR 5 tecells teN A3 ts V∧LsR 5 tecells teN A4 us V) (hT:Tz W):
 Calls Tryz.prog 43 #[.slice A3 ts.length c3,.slice A4 us.length c4] W (RetC (fun p=>getQ (ys.map plq) p+a*getQ (xs.map plq) p) (n+(2*m+1)+1) (ys.length+xs.length) w):=by
 have hlt:ts.length≤ys.length:=by
  have h:=congrArg List.length Hts
  rw[List.length_map]at h
  have h2:=List.length_filter_le nzP (ys.map plq)
  rw[List.length_map]at h2
  omega
 have hlu:us.length≤xs.length:=by
  have h:=congrArg List.length Hus
  rw[List.length_map]at h
  have h2:=List.length_filter_le nzP ((xs.map plq).map (scP a))
  rw[List.length_map,List.length_map]at h2
  omega
 refine(zk6 w _ HE.bel n (2*m+1) (by omega) (by omega) h1n A3 A4 c3 c4 ts us ((HE.rsn.mono fun _ h=>h.1).imp hnew) (zcY Hts (Hry.map.filter _)) (zcY Hus (List.Pairwise.filter _ (List.pairwise_map.2 Hrx.map)))
  (zkX Hts fun p hp=>(List.mem_filter.1 hp).2) (zkX Hus fun p hp=>(List.mem_filter.1 hp).2)
  (zfy Hts fun p hp=>by
   obtain⟨t,ht,rfl⟩:=List.mem_map.1 (List.mem_filter.1 hp).1
   exact Hsy t ht)
  (zfy Hus fun p hp=>by
   obtain⟨q,hq,rfl⟩:=List.mem_map.1 (List.mem_filter.1 hp).1
   obtain⟨t,ht,rfl⟩:=List.mem_map.1 hq
   exact(Sz.mul Hsa (Hsx t ht)).up (by omega)) (by omega) (by omega) hT).mono ?_
 rintro e w3 ⟨vs,h1,h2,h3,h4,h5⟩
 exact⟨vs,h1,h2,by omega,fun p=>by
  rw[h4,Hts,Hus]
  show getQ _ p+getQ _ p=getQ _ p+a*getQ _ p
  rw[zbB,zbB,zhh],h5⟩
set_option maxRecDepth 100000 in
theorem zdp (w:World) (n m:Nat) (hn:n≤49000000000) (hm:m≤49000000000) (h1n:1≤n) (h1m:1≤m) (A A2:Option Addr) (c0 c2:Nat) (ys xs:List TeV) (r:RV) (a:Rat) (hy:LsR 5 tecells (teD n) A ys w) (hx:LsR 5 tecells (teD m) A2 xs w) (ha:RatD r a m w) (hry:Rise ys) (hrx:Rise xs) (hl:ys.length≤20) (hl':xs.length≤1000) (hT:Tz w):
 Calls Tryz.prog 12 #[.slice A ys.length c0,rA r,.slice A2 xs.length c2] w (RetC (fun p=>getQ (ys.map plq) p+a*getQ (xs.map plq) p) (n+(2*m+1)+1) (ys.length+xs.length) w):=by
 have Hsy:=znd (show∀t∈ys,Sz t.q n from fun t ht=>RatD.sz (hy.ok t ht) h1n)
 have Hsx:=znd (show∀t∈xs,Sz t.q m from fun t ht=>RatD.sz (hx.ok t ht) h1m)
 have Hsa:=znd (RatD.sz ha h1m)
 have Hry:=znd hry
 have Hrx:=znd hrx
 have HE:=znd (Env.lay1 (Env.start ((hy.old zah).and ((hx.old zah).and ((RatD.old ha).and hT.old)))) (rfl:w.alloc (.cells #[.bool r.num.neg,.slice r.num.A r.num.k r.num.c,.bool r.den.neg,.slice r.den.A r.den.k r.den.c] 48)=_))
 have c:=Env.c1 HE.out
 clear hy hx ha hry hrx hT
 unfold rA
 go_enter Tryz.func12,Tryz.ntmps12
 go_wp2_with fail
 go_region_with (first
  |(go_at_call 44;go_must (refine(zbe _ n (by omega) h1n A c0 ys (by first|exact HE.out.o.1|exact HE.out.drew.o.1) hl Hry.out (by first|exact HE.out.o.2.2.2|exact HE.out.drew.o.2.2.2)).mono ?_;rintro e w1 ⟨A3,c3,ts,rfl,hc3,hts,hk,hb⟩;replace HE:=znd (Env.rx HE.out hk hb);replace c:=Env.c1 HE.out;have Hts:=znd hts;clear hk hb hts hc3))
  |(go_at_call 45;go_must (refine(zho _ r a m (by omega) h1m A2 c2 xs (by first|exact HE.out.o.2.2.1|exact HE.out.drew.o.2.2.1) (by first|exact HE.out.o.2.1|exact HE.out.drew.o.2.1) Hrx.out hl' (by first|exact HE.out.o.2.2.2|exact HE.out.drew.o.2.2.2)).mono ?_;rintro e w2 ⟨A4,c4,us,rfl,hc4,hus,hk,hb⟩;replace HE:=znd (Env.rx HE.out hk hb);replace c:=Env.c1 HE.out;have Hus:=znd hus;clear hk hb hus hc4))
  |(go_at_call 43;go_must (refine(zhO (by first|exact HE.out|exact HE.out.drew) Hts.out Hus.out Hry.out Hrx.out Hsy.out Hsx.out Hsa.out hn hm h1n hl hl' (by first|exact fun _ h=>⟨h.2.1,h.1⟩) (by first|exact HE.out.o.2.2.2|exact HE.out.drew.o.2.2.2)).mono ?_;rintro e w3 hret;have Hret:=znd hret;obtain⟨vs,h1,h2,h3,h4,A5,c5,zs,rfl,hc5,hzs,hk,hb⟩:=hret;clear h1 h2 h3 h4 hk hzs hc5 hb c)))
 all_goals
  go_wp2_with fail
  go_ret
  exact Hret.out
end Go.Proofs.YtfdmajmhmligpaaGreatDoor
