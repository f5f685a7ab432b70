/-
 Lists of numbers of the call's own. sparse.Dense. lu.less. lu.spread. (*lu.LU).dense.
-/
import Derived.Test.YtfdmajmhmligpaaGreatDoorPF
import Derived.Test.YtfdmajmhmligpaaGreatDoorIV
import Derived.Test.YtfdmajmhmligpaaGreatDoorKJ
namespace Go.Proofs.YtfdmajmhmligpaaGreatDoor
set_option maxHeartbeats 4000000
open Go.RowKit

def zaH (n:Nat):List (RV×Rat):=List.replicate n (zeroR,0)
theorem zbo (w:World) (L:Nat) (hL:L≤100000):(Instr.makeSlice 30 (.int .i64 (L:Int)) (.int .i64 (L:Int))).run Tryz.prog w=.ok (.slice (some ⟨w.heap.size,0,none⟩) L L) (w.alloc (.cells (madeCells ratZ.cells (L*4)) 48)):=by
 obtain⟨i0,hi0,hz0,hz1,hz2⟩:=info_parts zc7
 have h:=run_makeSlice (P:=Tryz.prog) w 30 48 i0 ratZ zbn hi0 hz0 .i64 .i64 (L:Int) (L:Int) (by omega) (by omega) (by rw[hz1,Int.toNat_natCast];omega) (by rw[hz2];omega) (by omega)
 rw[Int.toNat_natCast,hz1]at h
 exact h
section
variable {w W:World} {ls:List Ow} {old new:World→Prop}
theorem GL.al4 (h:GL w ls old new W) (L:Nat) (hL:L≤100000):∃W' g,W.alloc (.cells (madeCells ratZ.cells (L*4)) 48)=W'∧W.heap.size=g∧Hid (GL w (⟨48,4,.slice (some ⟨g,0,none⟩) L L,List.map za0 (zaH L)⟩::ls) old new W'):=by
 refine⟨_,_,rfl,rfl,znd ?_⟩
 have h1:=h.addz (e:=48) (sz:=4) (z:=ratZ.cells) rfl (by decide) L (by simp[maxLen];omega)
 unfold zaH
 rw[List.map_replicate]
 exact h1
end
theorem zbS (n:Nat) (V:World):∀p∈zaH n,roN p V:=fun p hp=>by
 unfold zaH at hp
 rw[List.eq_of_mem_replicate hp]
 exact zbX V
theorem zb2 {α:Type} {P:α→Prop} {l:List α} {i:Nat} {x:α} (h:∀y∈l,P y) (hx:P x):∀y∈l.set i x,P y:=fun y hy=>by
 rcases List.mem_or_eq_of_mem_set hy with h1|rfl
 ·exact h y h1
 ·exact hx
structure SetQ (m:Nat) (os:List (RV×Rat)) (f:Nat→Rat):Prop where
 n:os.length=m
 q:∀j (h:j<os.length),os[j].2=f j
theorem SetQ.zero (m:Nat):SetQ m (zaH m) (fun _=>0):=⟨by simp[zaH],fun j h=>by simp[zaH]⟩
theorem SetQ.put {m:Nat} {os:List (RV×Rat)} {f f':Nat→Rat} (h:SetQ m os f) {p:Nat} {r:RV} {q:Rat} (hq:q=f' p) (ho:∀j,j<m→j≠p→f' j=f j):SetQ m (os.set p (r,q)) f':=by
 refine⟨by rw[List.length_set];exact h.n,fun j hj=>?_⟩
 rw[List.length_set]at hj
 rw[List.getElem_set]
 by_cases e:p=j
 ·subst e;rw[if_pos rfl];exact hq
 ·rw[if_neg e,ho j (by rw[←h.n];exact hj) (fun e'=>e e'.symm)];exact h.q j hj
theorem SetQ.congr {m:Nat} {os:List (RV×Rat)} {f f':Nat→Rat} (h:SetQ m os f) (he:∀j,j<m→f j=f' j):SetQ m os f':=⟨h.n,fun j hj=>(h.q j hj).trans (he j (by rw[←h.n];exact hj))⟩
def DenRes (f:Nat→Rat) (m:Nat) (w:World) (v:Value) (w':World):Prop:=
 ∃B cp g os,((0<m→B=some ⟨g,0,none⟩)∧Sl B m)∧v=.slice B m cp∧SetQ m os f∧GL w [⟨48,4,.slice B m cp,os.map za0⟩] (fun _=>True) (fun V=>∀p∈os,roN p V) w'
theorem OwnE.less {w:World} {B B':Nat} {e:TypeId} {sz:Nat} {pv:Value} {cs:List (Array Value)} (h:OwnE w B e sz pv cs) (hB:B'≤B):OwnE w B' e sz pv cs:=
 ⟨h.1,h.2.1,h.2.2.imp id (fun⟨g,cap,cur,hv,hg,rest⟩=>⟨g,cap,cur,hv,Nat.le_trans hB hg,rest⟩)⟩
theorem GL.join {w W W':World} {o:Ow} {ls:List Ow} {old new N:World→Prop} (h:GL w ls old new W) (h':GL W [o] (fun _=>True) N W'):GL w (o::ls) old (fun V=>N V∧new V) W':=by
 have hb:=h'.bel
 have ho:OwnE W' W.heap.size o.e o.sz o.v o.cs:=h'.own _ (List.mem_singleton_self _)
 have hoB:∀k,o.v.ownBlock=some k→W.heap.size≤k:=fun k e=>(ho.lt k e).1
 have hlt:∀q∈ls,∀k,q.v.ownBlock=some k→k<W.heap.size:=fun q hq k e=>((h.own q hq).lt k e).2
 refine⟨fun q hq=>?_,.cons (fun b hb' k e e'=>?_) h.nd,(h.rso.lt.below hb).mono fun n hn q hq e=>?_,Rests.and (h'.rsn.mono fun n hn=>⟨Nat.le_trans h.bel.size hn.1,fun q hq e=>?_⟩) ((h.rsn.lt.below hb).mono fun n hn=>⟨hn.1.1,fun q hq e=>?_⟩),Below.after h.bel hb⟩
 ·rcases List.mem_cons.1 hq with rfl|hq
  ·exact ho.less h.bel.size
  ·exact(h.own q hq).below hb
 ·have:=hoB k e;have:=hlt b hb' k e';omega
 ·rcases List.mem_cons.1 hq with rfl|hq
  ·have:=hoB n e;have:=hn.2;omega
  ·exact hn.1 q hq e
 ·rcases List.mem_cons.1 hq with rfl|hq
  ·exact hn.2 q (List.mem_singleton_self _) e
  ·have:=hlt q hq n e;have:=hn.1;omega
 ·rcases List.mem_cons.1 hq with rfl|hq
  ·have:=hoB n e;have:=hn.2;omega
  ·exact hn.1.2 q hq e

theorem zeL {ts:List TeV} {i:Nat} (hi:i<ts.length) (a:Int):getQ ((ts.take (i+1)).map plq) a=getQ ((ts.take i).map plq) a+(if ts[i].pl=a then ts[i].q else 0):=by
 rw[List.take_succ_eq_append_getElem hi,List.map_append,zaB]
 congr 1
 show(if ts[i].pl=a then ts[i].q else 0)+0=_
 rw[Rat.add_zero]
theorem ziw {us:List TeV} (hr:Rise us) {i:Nat} (hi:i<us.length):getQ ((us.take i).map plq) us[i].pl=0:=zan fun p hp=>by
 obtain⟨u,hu,rfl⟩:=List.mem_map.1 hp
 obtain⟨k,hk,rfl⟩:=List.mem_iff_getElem.1 hu
 have hk':k<i:=by simp at hk;omega
 have:=hr.at_ hk' hi
 rw[List.getElem_take]
 show us[k].pl≠us[i].pl
 omega
theorem zc9 {us:List TeV} (h:(us.map plq).Pairwise fun p q=>p.1<q.1):Rise us:=
 (List.pairwise_map (f:=plq) (R:=fun p q:Int×Rat=>p.1<q.1)).1 h
set_option maxRecDepth 100000 in
theorem zj1 (w:World) (n:Nat) (hn:n≤100000000000) (h1n:1≤n) (A:Option Addr) (c:Nat) (ts:List TeV) (h:LsR 5 tecells (teD n) A ts w) (ht:Rise ts) (hl:ts.length≤20) (m:Nat) (hm1:1≤m) (hm:m≤1000) (hpl:∀t∈ts,0≤t.pl∧t.pl<(m:Int)) (hT:Tz w):Calls Tryz.prog 39 #[.slice A ts.length c,.int .i64 (m:Int)] w fun e w'=>∃v,e=.returned v∧DenRes (fun j=>getQ (ts.map plq) (j:Int)) m w v w':=by
 have sl1:=h.sl
 have szr:=zal
 have szv:=zai
 have hadd:=zaa
 have Hrt:=znd ht
 have Hpl:=znd hpl
 have hmin:min (m:Int) 65536=(m:Int):=by omega
 have hm0:¬(m:Int)<1:=by omega
 have HG:=znd (GL.start (Env.start ((h.old zah).and hT.old)))
 clear h hT ht hpl
 go_enter Tryz.func39,Tryz.ntmps39
 go_wp2_with fail
 rw[zbo _ m (by omega)]
 obtain⟨W4,g,hW4,hg,HG2⟩:=HG.out.al4 m (by omega)
 rw[hW4,hg]
 clear hW4 hg HG
 obtain⟨B,hB⟩:∃B:Option Addr,B=some ⟨g,0,none⟩:=⟨_,rfl⟩
 rw[←hB]at HG2⊢
 have HB:=znd hB
 have slB:Sl B m:=by rw[hB];exact Sl.some_ _ _ _
 clear hB
 go_wp2_with fail
 refine(zbe _ n hn h1n A c ts HG2.out.o.2.1 hl Hrt.out HG2.out.o.2.2).mono ?_
 rintro e w1 ⟨A2,c2,us,rfl,-,hm2,hk9,hb9⟩
 have HU:=znd hm2
 have HG:=znd (show GL w (⟨48,4,.slice B m m,List.map za0 (zaH m)⟩::[]) (fun V=>LsR 5 tecells (teD n) A ts V∧Tz V) (fun V=>(∀zp∈(zaH m),roN zp V)∧LsR 5 tecells teN A2 us V) w1 from(HG2.out.call hk9 hb9).imp (fun _ h=>h.2) (fun V h=>⟨zbS m V,h.1⟩))
 clear hm2 hk9 hb9 HG2
 have HUr:=znd (show Rise us from zc9 (by rw[HU.out];exact List.Pairwise.filter _ (List.pairwise_map.2 Hrt.out)))
 have HUp:=znd (show∀u∈us,0≤u.pl∧u.pl<(m:Int)from fun u hu=>by
  have h1:=List.mem_map_of_mem (f:=plq) hu
  rw[HU.out]at h1
  obtain⟨t,ht,e9⟩:=List.mem_map.1 (List.mem_filter.1 h1).1
  have e2:t.pl=u.pl:=congrArg Prod.fst e9
  rw[←e2];exact Hpl.out t ht)
 have sl2:Sl A2 us.length:=HG.out.n.2.sl
 obtain⟨L,hL⟩:∃L,L=us.length:=⟨_,rfl⟩
 have HL:=znd hL
 rw[←hL]at sl2⊢
 have hL9:L≤20:=by have h9:=congrArg List.length HU.out;rw[List.length_map]at h9;have h8:=List.length_filter_le nzP (ts.map plq);rw[List.length_map]at h8;omega
 clear hL
 go_wp2_with fail
 go_loopw [16] (fun iv wr=>∃(i:Nat) (os:List (RV×Rat)),iv=.int .i64 (i:Int)∧i≤L∧Hid (SetQ m os (fun j=>getQ ((us.take i).map plq) (j:Int)))∧Hid (GL w (⟨48,4,.slice B m m,List.map za0 os⟩::[]) (fun V=>LsR 5 tecells (teD n) A ts V∧Tz V) (fun V=>(∀zp∈os,roN zp V)∧LsR 5 tecells teN A2 us V) wr)) (fun iv _=>L-(intOf iv).toNat)
 case atStart=>exact⟨0,zaH m,rfl,Nat.zero_le _,znd (SetQ.zero m),HG⟩
 case round=>
  clear HG
  obtain⟨i,os,rfl,hi,HI,HG⟩:=hrel
  by_cases hlt:i<L
  ·have hlu:i<us.length:=by rw[←HL.out];exact hlt
   have c0:=HG.out.n.2.tc i hlu
   have HP:=znd (HUp.out _ (List.getElem_mem hlu))
   have HGT:=znd (fun a=>zeL hlu a)
   have HGB:=znd (ziw HUr.out hlu)
   have HTN:=znd (show∀V,LsR 5 tecells teN A2 us V→RatN (us[i]).r (us[i]).q V from fun V h=>h.ok _ (List.getElem_mem hlu))
   obtain⟨t,ht⟩:∃t,t=us[i]:=⟨_,rfl⟩
   rw[←ht]at c0 HP HGB HTN
   simp only[←ht]at HGT
   clear ht
   obtain⟨tp,tr,tq⟩:=t
   obtain⟨p,rfl⟩:∃p:Nat,tp=(p:Int):=⟨tp.toNat,by have h9:=HP.out.1;simp only at h9;omega⟩
   have hpm:p<m:=by have h9:=HP.out.2;simp only at h9;omega
   have hlo:p<os.length:=by rw[HI.out.n];exact hpm
   go_upto_region 7 with fail
   obtain⟨W5,gt,hW5,hgt,HG2⟩:=HG.out.al 65 #[.int .i64 (p:Int),.bool tr.num.neg,.slice tr.num.A tr.num.k tr.num.c,.bool tr.den.neg,.slice tr.den.A tr.den.k tr.den.c]
   rw[hW5,hgt]
   clear hW5 hgt c0
   have c:=Blk.cb HG2.out.n.1
   have hpz:(0:Int)≤(p:Int):=by omega
   have hpm2:(p:Int)<(m:Int):=by omega
   clear HG
   have HG:=HG2
   clear HG2
   have fr:=HG.out.free HB.out (k:=0) rfl
   have rcx:=HG.out.rc (k:=0) rfl hlo
   have hadd2:∀(n j:Nat),(⟨(adr B n).block,(adr B n).off+j,none⟩:Addr)=adr B (n+j):=fun n j=>by unfold adr;simp[Nat.add_assoc]
   have hs01:=za1 B (show p*4≠p*4+1 by omega)
   have hs02:=za1 B (show p*4≠p*4+2 by omega)
   have hs03:=za1 B (show p*4≠p*4+3 by omega)
   have hs12:=za1 B (show p*4+1≠p*4+2 by omega)
   have hs13:=za1 B (show p*4+1≠p*4+3 by omega)
   have hs23:=za1 B (show p*4+2≠p*4+3 by omega)
   go_upto_region 9 with fail
   clear rcx fr hadd2 hs01 hs02 hs03 hs12 hs13 hs23 c
   have HG9:=znd (HG.out.putR HB.out (k:=0) rfl hlo tr tq)
   go_wp2_with fail
   go_roundw
   case rel=>exact⟨i+1,os.set p (tr,tq),by go_num,by omega,znd (HI.out.put (by show tq=getQ _ _;rw[HGT.out,HGB.out,if_pos rfl,Rat.zero_add]) (fun j _ hj=>by show getQ _ _=getQ _ _;rw[HGT.out,if_neg (fun e9=>hj (by have e8:(p:Int)=(j:Int):=e9;omega)),Rat.add_zero])),znd (HG9.out.imp (fun _ h=>h) (fun V h=>⟨zb2 (P:=fun p=>roN p V) h.2.1 (HTN.out V h.2.2),h.2.2⟩))⟩
   case measure=>(simp[intOf]<;>omega)
  ·obtain rfl:i=L:=by omega
   have HF:=znd (show SetQ m os (fun j=>getQ (ts.map plq) (j:Int))from HI.out.congr fun j _=>by rw[List.take_of_length_le (by rw[←HL.out];exact Nat.le_refl _),HU.out,zbB])
   have hnu:¬(i:Int)<(i:Int):=by omega
   go_wp2_with fail
   go_ret
   exact⟨_,rfl,B,m,g,os,⟨fun _=>HB.out,slB⟩,rfl,HF.out,HG.out.imp (fun _ _=>trivial) (fun V h=>h.1)⟩
theorem zcp (w:World) (n:Nat) (hn:n≤100000000000) (h1n:1≤n) (A:Option Addr) (c:Nat) (ts:List TeV) (h:LsR 5 tecells (teD n) A ts w) (ht:Rise ts) (hl:ts.length≤20) (m:Nat) (hm:m≤1000) (hpl:∀t∈ts,0≤t.pl∧t.pl<(m:Int)) (hT:Tz w):Calls Tryz.prog 39 #[.slice A ts.length c,.int .i64 (m:Int)] w fun e w'=>∃v,e=.returned v∧DenRes (fun j=>getQ (ts.map plq) (j:Int)) m w v w':=by
 rcases Nat.eq_zero_or_pos m with h0|h0
 ·subst h0
  have HE:=znd (Env.start (old:=fun _=>True) (.pure trivial w _))
  clear h ht hpl hT
  go_enter Tryz.func39,Tryz.ntmps39
  go_wp2_with fail
  go_ret
  exact⟨_,rfl,none,0,0,[],⟨fun h=>absurd h (by decide),Sl.none_⟩,rfl,⟨rfl,fun j hj=>absurd hj (Nat.not_lt_zero _)⟩,((GL.start HE.out).new_ 48 4).imp (fun _ _=>trivial) (fun _ _ p hp=>by cases hp)⟩
 ·exact zj1 w n hn h1n A c ts h ht hl m h0 hm hpl hT

def subQ (F:Nat→Rat) (l:List TeV):Rat:=(l.map fun t=>t.q*F t.pl.toNat).sum
theorem zf7 (F:Nat→Rat) {ts:List TeV} {i:Nat} (hi:i<ts.length):subQ F (ts.take (i+1))=subQ F (ts.take i)+ts[i].q*F ts[i].pl.toNat:=by
 unfold subQ
 rw[List.take_succ_eq_append_getElem hi,List.map_append,List.sum_append]
 show _+(_+0)=_
 rw[Rat.add_zero]
theorem zew {F:Nat→Rat} {x:Rat} {nx nl nb:Nat} {ts:List TeV} (hx:Sz x nx) (ht:∀t∈ts,Sz t.q nl) (hf:∀t∈ts,Sz (F t.pl.toNat) nb):∀i,i≤ts.length→Sz (x-subQ F (ts.take i)) (nx+i*(nl+nb+3))
 |0,_=>by
  rw[show subQ F (ts.take 0)=0 from by simp[subQ],show x-0=x from by grind]
  exact hx.up (by omega)
 |i+1,hi=>by
  have h1:=zew hx ht hf i (by omega)
  have h2:=Sz.mul (ht _ (List.getElem_mem (show i<ts.length by omega))) (hf _ (List.getElem_mem (show i<ts.length by omega)))
  rw[zf7 F (show i<ts.length by omega),show x-(subQ F (ts.take i)+ts[i].q*F ts[i].pl.toNat)=(x-subQ F (ts.take i))-ts[i].q*F ts[i].pl.toNat from by grind]
  refine(Sz.sub h1 h2).up ?_
  rw[Nat.add_mul];omega
def zeK (r:RV) (x q:Rat) (w:World) (e:Ending) (w':World):Prop:=
 ∃k:RV,e=.returned (.agg #[.bool k.num.neg,.slice k.num.A k.num.k k.num.c,.bool k.den.neg,.slice k.den.A k.den.k k.den.c])∧Rests w' (w.heap.size≤·) (fun V=>(k=r∧q=x)∨RatN k q V)∧Below w.heap.size w w'
set_option maxRecDepth 100000 in
theorem zgO (w:World) (nx nl nb N:Nat) (hN:N≤400000000000) (h1x:1≤nx) (h1l:1≤nl) (h1b:1≤nb) (r:RV) (x:Rat) (hr:RatD r x nx w) (A:Option Addr) (c0:Nat) (ts:List TeV) (h:LsR 5 tecells (teD nl) A ts w) (B:Option Addr) (cb:Nat) (ps:List (RV×Rat)) (h':LsR 4 za0 (roD nb) B ps w) (m:Nat) (F:Nat→Rat) (hf:SetQ m ps F) (hpl:∀t∈ts,0≤t.pl∧t.pl<(m:Int)) (hbd:nx+ts.length*(nl+nb+3)≤N) (hT:Tz w):
 Calls Tryz.prog 112 #[rA r,.slice A ts.length c0,.slice B ps.length cb] w (zeK r x (x-subQ F ts) w):=by
 have sl1:=h.sl
 have slb:=h'.sl
 have szr:=zal
 have szv:=zai
 have hadd:=zaa
 have Hpl:=znd hpl
 have HF:=znd hf
 have Hxs:=znd (RatD.sz hr h1x)
 have Hst:=znd (show∀t∈ts,Sz t.q nl from fun t ht=>RatD.sz (h.ok t ht) h1l)
 have Hsb:=znd (show∀j,j<m→Sz (F j) nb from fun j hj=>by
  have hj':j<ps.length:=by rw[hf.n];exact hj
  rw[←hf.q j hj']
  exact RatD.sz (h'.ok _ (List.getElem_mem hj')) h1b)
 have Hss:=znd (zew (F:=F) Hxs.out Hst.out (fun t ht=>Hsb.out _ (by have:=hpl t ht;omega)))
 obtain⟨L,hL⟩:∃L,L=ts.length:=⟨_,rfl⟩
 have HL:=znd hL
 rw[hf.n]at slb⊢
 rw[←hL]at sl1 hbd Hss⊢
 have hL9:L≤400000000000:=by have h9:=Nat.le_mul_of_pos_right L (show 0<nl+nb+3 by omega);omega
 have HE:=znd (lyRZ r (((h.old zah)).and (((h'.old zbQ)).and (((RatD.old hr)).and (hT.old)))))
 have c:=Env.c2 HE.out
 have dd:=Env.d2 HE.out
 clear h h' hr hT hpl hf hL
 unfold rA
 go_enter Tryz.func112,Tryz.ntmps112
 go_wp2_with fail
 clear c
 go_loopw [11] (fun iv wr=>∃(i:Nat) (k:RV) (s:Rat),iv=.int .i64 (i:Int)∧i≤L∧Hid (s=x-subQ F (ts.take i))∧Hid (Env w [⟨w.heap.size+1,48,#[.bool false,.slice none 0 0,.bool false,.slice none 0 0]⟩,⟨w.heap.size,48,#[.bool k.num.neg,.slice k.num.A k.num.k k.num.c,.bool k.den.neg,.slice k.den.A k.den.k k.den.c]⟩] (fun V=>LsR 5 tecells (teD nl) A ts V∧LsR 4 za0 (roD nb) B ps V∧RatD r x nx V∧Tz V) (fun V=>(k=r∧s=x)∨RatN k s V) wr)) (fun iv _=>L-(intOf iv).toNat)
 case atStart=>exact⟨0,r,x,rfl,Nat.zero_le _,znd (by rw[show subQ F (ts.take 0)=0 from by simp[subQ]];grind),znd (HE.out.imp (fun _ h=>h) (fun V _=>.inl ⟨rfl,rfl⟩))⟩
 case round=>
  clear HE
  obtain⟨i,k,s,rfl,hi,HS,HE⟩:=hrel
  by_cases hlt:i<L
  ·have hlt2:i<ts.length:=by rw[←HL.out];exact hlt
   have c0:=HE.out.o.1.tc i hlt2
   have HS2:=znd (zf7 F hlt2)
   have Hsq:=znd (show Sz s N from by rw[HS.out];exact(Hss.out i hi).up (by have:=Nat.mul_le_mul_right (nl+nb+3) hi;omega))
   obtain⟨t,ht⟩:∃t,t=ts[i]:=⟨_,rfl⟩
   have Hm:=znd (show t∈ts by rw[ht];exact List.getElem_mem hlt2)
   rw[←ht]at c0 HS2
   clear ht hlt2
   obtain⟨tp,tr,tq⟩:=t
   obtain⟨p,rfl⟩:∃p:Nat,tp=(p:Int):=⟨tp.toNat,by have h9:=(Hpl.out _ Hm.out).1;simp only at h9;omega⟩
   have hpm:p<m:=by have h9:=(Hpl.out _ Hm.out).2;simp only at h9;omega
   have hpz:(0:Int)≤(p:Int):=by omega
   have hpm2:(p:Int)<(m:Int):=by omega
   have hpp:p<ps.length:=by rw[HF.out.n];exact hpm
   have HRC:=znd (fun(V:World) (h:LsR 4 za0 (roD nb) B ps V)=>h.rc p hpp)
   have HFq:=znd (HF.out.q p hpp)
   have HTD:=znd (show∀V,LsR 5 tecells (teD nl) A ts V→RatD tr tq nl V from fun V h=>h.ok _ Hm.out)
   obtain⟨u,hu⟩:∃u,u=ps[p]:=⟨_,rfl⟩
   have HUD:=znd (show∀V,LsR 4 za0 (roD nb) B ps V→RatD u.1 u.2 nb V from fun V h=>by rw[hu];exact h.ok _ (List.getElem_mem hpp))
   rw[←hu]at HRC HFq
   clear hu
   have HS3:=znd (show s-tq*u.2=x-subQ F (ts.take (i+1))from by rw[HS2.out,HS.out,HFq.out,show((⟨(p:Int),tr,tq⟩:TeV).pl).toNat=p from by simp];grind)
   have hnlb:nl+nb+3≤N:=by have:=Nat.mul_le_mul_right (nl+nb+3) (show 1≤L by omega);omega
   have Hsm:=znd (show Sz (tq*u.2) N from(Sz.mul (Hst.out _ Hm.out) (by rw[HFq.out];exact Hsb.out p hpm)).up (by have:=Nat.mul_le_mul_right (nl+nb+3) (show 1≤L by omega);omega))
   have HKD:=znd (show∀V,(fun V=>LsR 5 tecells (teD nl) A ts V∧LsR 4 za0 (roD nb) B ps V∧RatD r x nx V∧Tz V) V→((k=r∧s=x)∨RatN k s V)→RatD k s N V from fun V ho hn=>by
    rcases hn with⟨h1,h2⟩|h
    ·rw[h1,h2];exact ho.2.2.1.mono9 (by omega)
    ·exact RatN.rat h Hsq.out)
   go_upto_region 4 with fail
   obtain⟨W5,gt,hW5,hgt,HE⟩:=Env.al HE.out 65 #[.int .i64 (p:Int),.bool tr.num.neg,.slice tr.num.A tr.num.k tr.num.c,.bool tr.den.neg,.slice tr.den.A tr.den.k tr.den.c]
   rw[hW5,hgt]
   clear hW5 hgt c0
   have HC:=znd (fun(V:World) {nw:World→Prop} (h:Env w [⟨gt,65,#[.int .i64 (p:Int),.bool tr.num.neg,.slice tr.num.A tr.num.k tr.num.c,.bool tr.den.neg,.slice tr.den.A tr.den.k tr.den.c]⟩,⟨w.heap.size+1,48,#[.bool false,.slice none 0 0,.bool false,.slice none 0 0]⟩,⟨w.heap.size,48,#[.bool k.num.neg,.slice k.num.A k.num.k k.num.c,.bool k.den.neg,.slice k.den.A k.den.k k.den.c]⟩] (fun V=>LsR 5 tecells (teD nl) A ts V∧LsR 4 za0 (roD nb) B ps V∧RatD r x nx V∧Tz V) nw V)=>And.intro (Env.c3 h).1 (And.intro (HRC.out V h.o.2.1) (Env.c3 h).2.2))
   refine wp_region_noPanic ?_
   refine zab 10 (fun W=>CB gt #[.int .i64 (p:Int),.bool tr.num.neg,.slice tr.num.A tr.num.k tr.num.c,.bool tr.den.neg,.slice tr.den.A tr.den.k tr.den.c] W∧RC B p u W∧CB (w.heap.size) #[.bool k.num.neg,.slice k.num.A k.num.k k.num.c,.bool k.den.neg,.slice k.den.A k.den.k k.den.c] W) (by kernel_rfl) (by with_reducible first|exact HC.out _ HE.out|exact HC.out _ HE.out.drew) (fun hHeld=>?_)
   replace HE:=znd HE.out.drew
   refine gTa 0 15 hHeld ?_
   refine gTa 1 16 hHeld ?_
   refine gTa 2 17 hHeld ?_
   refine gTa 3 18 hHeld ?_
   refine gTa 4 19 hHeld ?_
   refine gTa 5 20 hHeld ?_
   refine gTa 6 21 hHeld ?_
   refine gTa 7 22 hHeld ?_
   refine gC 8 rfl (by kernel_rfl) (by rfl) (fun K hK=>?_)
   clear hHeld
   simp only[q1,q2,q3]
   go_simp
   refine(zaN _ tr u.1 tq u.2 (nl+nb) (by omega) (by omega) ((HTD.out _ HE.out.o.1).mono9 (by omega)) ((HUD.out _ HE.out.o.2.1).mono9 (by omega)) HE.out.o.2.2.2).mono ?_
   rintro e w3 ⟨km,rfl,hk,hb⟩
   replace HE:=znd (Env.ret HE.out hk hb)
   clear hk hb
   (try(go_wp2_with fail))
   refine hK.out _ _ (by with_reducible first|exact HC.out _ HE.out|exact HC.out _ HE.out.drew) (fun hHeld=>?_)
   clear hK K
   try simp only[p1,p2,p3,p4]
   refine gC 9 rfl (by kernel_rfl) (by rfl) (fun K hK=>?_)
   clear hHeld
   simp only[q1,q2,q3]
   go_simp
   refine(zd0 _ k km s (tq*u.2) N hN (by omega) (HKD.out _ HE.out.o HE.out.n.2) (RatN.rat HE.out.n.1 Hsm.out) HE.out.o.2.2.2).mono ?_
   rintro e w3 ⟨k2,rfl,hk,hb⟩
   replace HE:=znd (Env.ret HE.out hk hb)
   clear hk hb
   (try(go_wp2_with fail))
   refine hK.out _ _ (by with_reducible first|exact HC.out _ HE.out|exact HC.out _ HE.out.drew) (fun hHeld=>?_)
   clear hK K
   try simp only[p1,p2,p3,p4]
   have c:=Env.c3 HE.out
   refine gL rfl (by kernel_rfl) (by kernel_rfl) (by rfl) (fun K hK=>?_)
   clear hHeld
   simp only[q1,q2,q3]
   go_simp
   (try(go_wp2_with fail))
   refine hK.out _ _ ?_
   clear hK K
   try simp only[p1,p2,p3,p4]
   refine NoPanic.normal ?_
   obtain⟨W9,hW9,HE2⟩:=Env.st4_2 HE.out (.bool k2.num.neg) (.slice k2.num.A k2.num.k k2.num.c) (.bool k2.den.neg) (.slice k2.den.A k2.den.k k2.den.c)
   rw[hW9]
   clear hW9 c HE
   go_wp2_with fail
   go_roundw
   case rel=>exact⟨i+1,k2,s-tq*u.2,by go_num,by omega,HS3,znd (HE2.out.drop.imp (fun _ h=>h) (fun _ h=>.inr h.1))⟩
   case measure=>(simp[intOf]<;>omega)
  ·obtain rfl:i=L:=by omega
   have HF2:=znd (show s=x-subQ F ts by rw[HS.out,List.take_of_length_le (by rw[←HL.out];exact Nat.le_refl _)])
   have c:=Env.c2 HE.out
   have hnu:¬(i:Int)<(i:Int):=by omega
   have HRES:=znd (show∀W',Env w [⟨w.heap.size+1,48,#[.bool k.num.neg,.slice k.num.A k.num.k k.num.c,.bool k.den.neg,.slice k.den.A k.den.k k.den.c]⟩,⟨w.heap.size,48,#[.bool k.num.neg,.slice k.num.A k.num.k k.num.c,.bool k.den.neg,.slice k.den.A k.den.k k.den.c]⟩] (fun V=>LsR 5 tecells (teD nl) A ts V∧LsR 4 za0 (roD nb) B ps V∧RatD r x nx V∧Tz V) (fun V=>(k=r∧s=x)∨RatN k s V) W'→zeK r x s w (.returned (.agg #[.bool k.num.neg,.slice k.num.A k.num.k k.num.c,.bool k.den.neg,.slice k.den.A k.den.k k.den.c])) W' from fun W' h9=>⟨k,rfl,h9.fresh,h9.bel⟩)
   go_wp2_with fail
   rw[←HF2.out]
   exact bodyPost_ret (v:=.agg #[.bool k.num.neg,.slice k.num.A k.num.k k.num.c,.bool k.den.neg,.slice k.den.A k.den.k k.den.c]) (by simp[results,Tryz.results112,go_sem,Env.c2 (HE.out.put4 (.bool k.num.neg) (.slice k.num.A k.num.k k.num.c) (.bool k.den.neg) (.slice k.den.A k.den.k k.den.c))]) rfl (HRES.out _ (HE.out.put4 _ _ _ _))

set_option maxRecDepth 100000 in
theorem zec (w W:World) (ls:List Ow) (old new:World→Prop) (B:Option Addr) (g m cp:Nat) (hB:B=some ⟨g,0,none⟩) (ps:List (RV×Rat)) (F:Nat→Rat) (hq:SetQ m ps F) (nb nl nx:Nat) (hN:nb+nl+nx≤300000000000) (h1l:1≤nl) (h1x:1≤nx) (hf:∀j,j<m→Sz (F j) nb)
 (h:GL w (⟨48,4,.slice B m cp,List.map za0 ps⟩::ls) old (fun V=>(∀zp∈ps,roN zp V)∧new V) W) (A:Option Addr) (c0:Nat) (ts:List TeV) (hts:∀V,old V→new V→LsR 5 tecells (teD nl) A ts V) (hr:Rise ts) (hl:ts.length≤1000) (hpl:∀t∈ts,0≤t.pl∧t.pl<(m:Int)) (r:RV) (x:Rat) (hx:∀V,old V→new V→RatD r x nx V) (hT:∀V,old V→Tz V):
 Calls Tryz.prog 110 #[.slice B m cp,.slice A ts.length c0,rA r] W fun e w'=>e=.returned (.tuple #[])∧∃os,SetQ m os (fun j=>F j-getQ (ts.map plq) (j:Int)*x)∧GL w (⟨48,4,.slice B m cp,List.map za0 os⟩::ls) old (fun V=>(∀zp∈os,roN zp V)∧new V) w':=by
 have slB:Sl B m:=by rw[hB];exact Sl.some_ _ _ _
 have sl1:=(hts W h.o h.n.2).sl
 have szr:=zal
 have szv:=zai
 have hadd:=zaa
 have HB:=znd hB
 have HQ:=znd hq
 have HF:=znd hf
 have HTS:=znd hts
 have HX:=znd hx
 have HTZ:=znd hT
 have Hr:=znd hr
 have Hpl:=znd hpl
 have Hst:=znd (show∀t∈ts,Sz t.q nl from fun t ht=>RatD.sz ((hts W h.o h.n.2).ok t ht) h1l)
 have Hxs:=znd (RatD.sz (hx W h.o h.n.2) h1x)
 have Hss:=znd (show∀i j,j<m→Sz (F j-getQ ((ts.take i).map plq) (j:Int)*x) (nb+nl+nx+3)from fun i j hj=>(Sz.sub (hf j hj) (Sz.mul (zb4 (us:=ts.take i) (hr.sublist (List.take_sublist ..)) h1l (fun t ht=>Hst.out t (List.mem_of_mem_take ht)) (j:Int)) Hxs.out)).up (by omega))
 obtain⟨L,hL⟩:∃L,L=ts.length:=⟨_,rfl⟩
 have HL:=znd hL
 rw[←hL]at sl1 hl⊢
 have HG0:=znd h
 clear h hB hq hf hts hx hT hr hpl hL
 unfold rA
 go_enter Tryz.func110,Tryz.ntmps110
 go_upto_region 1 with fail
 obtain⟨W1,gx,hW1,hgx,HG1⟩:=HG0.out.al 48 #[.bool r.num.neg,.slice r.num.A r.num.k r.num.c,.bool r.den.neg,.slice r.den.A r.den.k r.den.c]
 rw[hW1,hgx]
 clear hW1 hgx HG0
 have HG:=znd (show GL w (⟨48,4,.slice B m cp,List.map za0 ps⟩::ls) old (fun V=>(∀zp∈ps,roN zp V)∧Blk V gx 48 #[.bool r.num.neg,.slice r.num.A r.num.k r.num.c,.bool r.den.neg,.slice r.den.A r.den.k r.den.c]∧new V) W1 from HG1.out.imp (fun _ h=>h) (fun V h=>⟨h.2.1,h.1,h.2.2⟩))
 clear HG1
 have c:=Blk.cb HG.out.n.2.1
 go_wp2_with fail
 refine(zaV _ r x nx (by omega) (HX.out _ HG.out.o HG.out.n.2.2)).mono ?_
 rintro e w1 ⟨rfl,hb⟩
 replace HG:=znd (HG.out.skip hb)
 clear hb c
 obtain⟨S0,hS0⟩:∃S0,(x.num.sign==0)=S0:=⟨_,rfl⟩
 have HS0:=znd hS0
 clear hS0
 have hS1:=HS0.out
 cases S0
 ·have hS2:=hS1
  clear hS1
  go_wp2_with fail
  go_loopw [13] (fun iv wr=>∃(i:Nat) (os:List (RV×Rat)),iv=.int .i64 (i:Int)∧i≤L∧Hid (SetQ m os (fun j=>F j-getQ ((ts.take i).map plq) (j:Int)*x))∧Hid (GL w (⟨48,4,.slice B m cp,List.map za0 os⟩::ls) old (fun V=>(∀zp∈os,roN zp V)∧Blk V gx 48 #[.bool r.num.neg,.slice r.num.A r.num.k r.num.c,.bool r.den.neg,.slice r.den.A r.den.k r.den.c]∧new V) wr)) (fun iv _=>L-(intOf iv).toNat)
  case atStart=>exact⟨0,ps,rfl,Nat.zero_le _,znd (HQ.out.congr fun j _=>by show F j=F j-(0:Rat)*x;grind),HG⟩
  case round=>
   clear HG
   obtain⟨i,os,rfl,hi,HI,HG⟩:=hrel
   by_cases hlt:i<L
   ·have hlt2:i<ts.length:=by rw[←HL.out];exact hlt
    have c0:=(HTS.out _ HG.out.o HG.out.n.2.2).tc i hlt2
    have HGT:=znd (fun a=>zeL hlt2 a)
    obtain⟨t,ht⟩:∃t,t=ts[i]:=⟨_,rfl⟩
    have Hm:=znd (show t∈ts by rw[ht];exact List.getElem_mem hlt2)
    rw[←ht]at c0
    simp only[←ht]at HGT
    clear ht hlt2
    obtain⟨tp,tr,tq⟩:=t
    obtain⟨p,rfl⟩:∃p:Nat,tp=(p:Int):=⟨tp.toNat,by have h9:=(Hpl.out _ Hm.out).1;simp only at h9;omega⟩
    have hpm:p<m:=by have h9:=(Hpl.out _ Hm.out).2;simp only at h9;omega
    have hpz:(0:Int)≤(p:Int):=by omega
    have hpm2:(p:Int)<(m:Int):=by omega
    have hpo:p<os.length:=by rw[HI.out.n];exact hpm
    have HTD:=znd (show∀V,old V→new V→RatD tr tq nl V from fun V ho hn=>(HTS.out V ho hn).ok _ Hm.out)
    obtain⟨u,hu⟩:∃u,u=os[p]:=⟨_,rfl⟩
    have Hu:=znd hu
    have HRC:=znd (show∀V {nw:World→Prop},GL w (⟨48,4,.slice B m cp,List.map za0 os⟩::ls) old (nw) V→RC B p u V from fun V _ h=>by rw[hu];exact h.rc (k:=0) rfl hpo)
    have Huq:=znd (show Sz u.2 (nb+nl+nx+3)from by rw[hu,HI.out.q p hpo];exact Hss.out i p hpm)
    have Huo:=znd (show u∈os from by rw[hu];exact List.getElem_mem hpo)
    skip
    clear hu
    go_upto_region 5 with fail
    obtain⟨W5,gt,hW5,hgt,HG2⟩:=HG.out.al 65 #[.int .i64 (p:Int),.bool tr.num.neg,.slice tr.num.A tr.num.k tr.num.c,.bool tr.den.neg,.slice tr.den.A tr.den.k tr.den.c]
    rw[hW5,hgt]
    clear hW5 hgt c0 HG
    have HG:=HG2
    clear HG2
    refine wp_region_noPanic ?_
    refine zab 14 (fun V=>CB gt #[.int .i64 (p:Int),.bool tr.num.neg,.slice tr.num.A tr.num.k tr.num.c,.bool tr.den.neg,.slice tr.den.A tr.den.k tr.den.c] V∧CB gx #[.bool r.num.neg,.slice r.num.A r.num.k r.num.c,.bool r.den.neg,.slice r.den.A r.den.k r.den.c] V∧RC B p u V) (by kernel_rfl) (by with_reducible first|exact⟨Blk.cb HG.out.n.1,Blk.cb HG.out.n.2.2.1,HRC.out _ HG.out⟩|exact⟨Blk.cb HG.out.n.2.1,Blk.cb HG.out.n.2.2.2.1,HRC.out _ HG.out⟩|exact⟨Blk.cb HG.out.n.2.2.1,Blk.cb HG.out.n.2.2.2.2.1,HRC.out _ HG.out⟩|exact⟨Blk.cb HG.out.drew.n.1,Blk.cb HG.out.drew.n.2.2.1,HRC.out _ HG.out.drew⟩|exact⟨Blk.cb HG.out.drew.n.2.1,Blk.cb HG.out.drew.n.2.2.2.1,HRC.out _ HG.out.drew⟩|exact⟨Blk.cb HG.out.drew.n.2.2.1,Blk.cb HG.out.drew.n.2.2.2.2.1,HRC.out _ HG.out.drew⟩) (fun hHeld=>?_)
    replace HG:=znd HG.out.drew
    refine gTa 0 17 hHeld ?_
    refine gTa 1 18 hHeld ?_
    refine gTa 2 19 hHeld ?_
    refine gTa 3 20 hHeld ?_
    refine gTa 4 21 hHeld ?_
    refine gTa 5 22 hHeld ?_
    refine gTa 6 23 hHeld ?_
    refine gTa 7 24 hHeld ?_
    refine gTa 8 25 hHeld ?_
    refine gTa 9 26 hHeld ?_
    refine gTa 10 27 hHeld ?_
    refine gC 11 rfl (by kernel_rfl) (by rfl) (fun K hK=>?_)
    clear hHeld
    simp only[q1,q2,q3]
    go_simp
    refine(zaN _ tr r tq x (nl+nx) (by omega) (by omega) ((HTD.out _ HG.out.o HG.out.n.2.2.2).mono9 (by omega)) ((HX.out _ HG.out.o HG.out.n.2.2.2).mono9 (by omega)) (HTZ.out _ HG.out.o)).mono ?_
    rintro e wq ⟨km,rfl,hk9,hb9⟩
    replace HG:=znd (HG.out.call hk9 hb9)
    clear hk9 hb9
    (try(go_wp2_with fail))
    refine hK.out _ _ (by with_reducible first|exact⟨Blk.cb HG.out.n.1,Blk.cb HG.out.n.2.2.1,HRC.out _ HG.out⟩|exact⟨Blk.cb HG.out.n.2.1,Blk.cb HG.out.n.2.2.2.1,HRC.out _ HG.out⟩|exact⟨Blk.cb HG.out.n.2.2.1,Blk.cb HG.out.n.2.2.2.2.1,HRC.out _ HG.out⟩|exact⟨Blk.cb HG.out.drew.n.1,Blk.cb HG.out.drew.n.2.2.1,HRC.out _ HG.out.drew⟩|exact⟨Blk.cb HG.out.drew.n.2.1,Blk.cb HG.out.drew.n.2.2.2.1,HRC.out _ HG.out.drew⟩|exact⟨Blk.cb HG.out.drew.n.2.2.1,Blk.cb HG.out.drew.n.2.2.2.2.1,HRC.out _ HG.out.drew⟩) (fun hHeld=>?_)
    clear hK K
    try simp only[p1,p2,p3,p4]
    refine gC 12 rfl (by kernel_rfl) (by rfl) (fun K hK=>?_)
    clear hHeld
    simp only[q1,q2,q3]
    go_simp
    refine(zd0 _ u.1 km u.2 (tq*x) (nb+nl+nx+3) (by omega) (by omega) (RatN.rat (HG.out.n.2.2.1 u Huo.out) Huq.out) (RatN.rat HG.out.n.1 ((Sz.mul (Hst.out _ Hm.out) Hxs.out).up (by omega))) (HTZ.out _ HG.out.o)).mono ?_
    rintro e wq ⟨k2,rfl,hk9,hb9⟩
    replace HG:=znd (HG.out.call hk9 hb9)
    clear hk9 hb9
    (try(go_wp2_with fail))
    refine hK.out _ _ (by with_reducible first|exact⟨Blk.cb HG.out.n.1,Blk.cb HG.out.n.2.2.1,HRC.out _ HG.out⟩|exact⟨Blk.cb HG.out.n.2.1,Blk.cb HG.out.n.2.2.2.1,HRC.out _ HG.out⟩|exact⟨Blk.cb HG.out.n.2.2.1,Blk.cb HG.out.n.2.2.2.2.1,HRC.out _ HG.out⟩|exact⟨Blk.cb HG.out.drew.n.1,Blk.cb HG.out.drew.n.2.2.1,HRC.out _ HG.out.drew⟩|exact⟨Blk.cb HG.out.drew.n.2.1,Blk.cb HG.out.drew.n.2.2.2.1,HRC.out _ HG.out.drew⟩|exact⟨Blk.cb HG.out.drew.n.2.2.1,Blk.cb HG.out.drew.n.2.2.2.2.1,HRC.out _ HG.out.drew⟩) (fun hHeld=>?_)
    clear hK K
    try simp only[p1,p2,p3,p4]
    refine gTa 13 30 hHeld ?_
    have fr:=HG.out.free HB.out (k:=0) rfl
    have rcx:=HG.out.rc (k:=0) rfl hpo
    have hadd2:∀(n j:Nat),(⟨(adr B n).block,(adr B n).off+j,none⟩:Addr)=adr B (n+j):=fun n j=>by unfold adr;simp[Nat.add_assoc]
    have hs01:=za1 B (show p*4≠p*4+1 by omega)
    have hs02:=za1 B (show p*4≠p*4+2 by omega)
    have hs03:=za1 B (show p*4≠p*4+3 by omega)
    have hs12:=za1 B (show p*4+1≠p*4+2 by omega)
    have hs13:=za1 B (show p*4+1≠p*4+3 by omega)
    have hs23:=za1 B (show p*4+2≠p*4+3 by omega)
    refine gL rfl (by kernel_rfl) (by kernel_rfl) (by rfl) (fun K hK=>?_)
    clear hHeld
    simp only[q1,q2,q3]
    go_simp
    (try(go_wp2_with fail))
    refine hK.out _ _ ?_
    clear hK K
    try simp only[p1,p2,p3,p4]
    refine NoPanic.normal ?_
    clear rcx fr hadd2 hs01 hs02 hs03 hs12 hs13 hs23
    replace HG:=znd (HG.out.putR HB.out (k:=0) rfl hpo k2 (u.2-tq*x))
    go_wp2_with fail
    go_roundw
    case rel=>exact⟨i+1,os.set p (k2,u.2-tq*x),by go_num,by omega,znd (HI.out.put (f':=(fun j=>F j-getQ ((ts.take (i+1)).map plq) (j:Int)*x)) (by show u.2-tq*x=F p-getQ _ _*x;rw[HGT.out,if_pos rfl,Hu.out,HI.out.q p hpo];grind) (fun j _ hj=>by show F j-getQ _ _*x=F j-getQ _ _*x;rw[HGT.out,if_neg (fun e9=>hj (by have e8:(p:Int)=(j:Int):=e9;omega)),Rat.add_zero])),znd (HG.out.imp (fun _ h=>h) (fun V h=>⟨zb2 (P:=fun p=>roN p V) h.2.2.2.1 h.1,h.2.2.2.2.1,h.2.2.2.2.2⟩))⟩
    case measure=>(simp[intOf]<;>omega)
   ·obtain rfl:i=L:=by omega
    have hnu:¬(i:Int)<(i:Int):=by omega
    go_wp2_with fail
    go_end0
    exact⟨rfl,os,HI.out.congr (fun j _=>by rw[List.take_of_length_le (by rw[←HL.out];exact Nat.le_refl _)]),HG.out.imp (fun _ h=>h) (fun V h=>⟨fun a b hz=>h.1 (a,b) hz,h.2.2⟩)⟩
 ·have hx0:x=0:=Rat.num_eq_zero.1 (Int.sign_eq_zero_iff_zero.1 (by simpa using hS1))
  have HX0:=znd hx0
  clear hx0
  have hS2:x.num.sign=0:=by simpa using hS1
  go_wp2_with fail
  refine bodyPost_ret (v:=.tuple #[]) (by simp[results,Tryz.results110,go_sem]) rfl ?_
  exact⟨rfl,ps,HQ.out.congr (fun j _=>by rw[HX0.out];grind),HG.out.imp (fun _ h=>h) (fun V h=>⟨h.1,h.2.2⟩)⟩

theorem Blk.rests {w:World} {g:Nat} {t:TypeId} {cs:Array Value} (h:Blk w g t cs):Rests w (·<w.heap.size) (fun V=>Blk V g t cs):=⟨h,fun _ hw=>(hw g h.lt h.lt).trans h⟩
theorem DenRes.up {F:Nat→Rat} {m:Nat} {w w' W:World} {v:Value} {old new:World→Prop} (h:GL w [] old new W) (hd:DenRes F m W v w'):DenRes F m w v w':=by
 obtain⟨B,cp,g,os,h1,h2,h3,h4⟩:=hd
 exact⟨B,cp,g,os,h1,h2,h3,(h.join h4).imp (fun _ _=>trivial) (fun _ h=>h.1)⟩
set_option maxRecDepth 100000 in
theorem zdB (w:World) (n:Nat) (hn:n≤100000000000) (h1n:1≤n) (A:Option Addr) (c:Nat) (ts:List TeV) (h:LsR 5 tecells (teD n) A ts w) (ht:Rise ts) (hl:ts.length≤20) (m:Nat) (hm:m≤1000) (hpl:∀t∈ts,0≤t.pl∧t.pl<(m:Int)) (gf:Nat) (mk:Bool) (As:Option Addr) (ks cs:Nat) (hf:Blk w gf 146 #[.bool mk,.int .i64 (m:Int),.slice As ks cs]) (hT:Tz w):Calls Tryz.prog 109 #[.pointer (some ⟨gf,0,none⟩),.slice A ts.length c] w fun e w'=>∃v,e=.returned (.tuple #[v,.bool true])∧DenRes (fun j=>getQ (ts.map plq) (j:Int)) m w v w':=by
 have sl1:=h.sl
 have szr:=zal
 have szv:=zai
 have hadd:=zaa
 have Hrt:=znd ht
 have Hpl:=znd hpl
 have HE:=znd (Env.start (((h.old zah)).and ((hf.rests).and (hT.old))))
 clear h hf hT ht hpl
 go_enter Tryz.func109,Tryz.ntmps109
 go_wp2_with fail
 refine(zbe _ n hn h1n A c ts HE.out.o.1 hl Hrt.out HE.out.o.2.2).mono ?_
 rintro e w1 ⟨A2,c2,us,rfl,-,hm2,hk9,hb9⟩
 have HU:=znd hm2
 replace HE:=znd ((Env.ret HE.out hk9 hb9).imp (φ:=fun V=>LsR 5 tecells (teD n) A ts V∧Blk V gf 146 #[.bool mk,.int .i64 (m:Int),.slice As ks cs]∧Tz V) (ψ:=fun V=>LsR 5 tecells teN A2 us V) (fun _ h=>h) (fun _ h=>h.1))
 clear hm2 hk9 hb9
 have HUp:=znd (show∀u∈us,0≤u.pl∧u.pl<(m:Int)from fun u hu=>by
  have h1:=List.mem_map_of_mem (f:=plq) hu
  rw[HU.out]at h1
  obtain⟨t,ht,e9⟩:=List.mem_map.1 (List.mem_filter.1 h1).1
  have e2:t.pl=u.pl:=congrArg Prod.fst e9
  rw[←e2];exact Hpl.out t ht)
 have sl2:Sl A2 us.length:=HE.out.n.sl
 obtain⟨L,hL⟩:∃L,L=us.length:=⟨_,rfl⟩
 have HL:=znd hL
 rw[←hL]at sl2⊢
 have hL9:L≤20:=by have h9:=congrArg List.length HU.out;rw[List.length_map]at h9;have h8:=List.length_filter_le nzP (ts.map plq);rw[List.length_map]at h8;omega
 clear hL
 go_wp2_with fail
 go_loopw [11] (fun iv wr=>∃(i:Nat),iv=.int .i64 (i:Int)∧i≤L∧Hid (Env w [] (fun V=>LsR 5 tecells (teD n) A ts V∧Blk V gf 146 #[.bool mk,.int .i64 (m:Int),.slice As ks cs]∧Tz V) (fun V=>LsR 5 tecells teN A2 us V) wr)) (fun iv _=>L-(intOf iv).toNat)
 case atStart=>exact⟨0,rfl,Nat.zero_le _,HE⟩
 case round=>
  clear HE
  obtain⟨i,rfl,hi,HE⟩:=hrel
  by_cases hlt:i<L
  ·have hlu:i<us.length:=by rw[←HL.out];exact hlt
   have c0:=HE.out.n.tc i hlu
   have HP:=znd (HUp.out _ (List.getElem_mem hlu))
   obtain⟨t,ht⟩:∃t,t=us[i]:=⟨_,rfl⟩
   rw[←ht]at c0 HP
   clear ht hlu
   obtain⟨tp,tr,tq⟩:=t
   obtain⟨p,rfl⟩:∃p:Nat,tp=(p:Int):=⟨tp.toNat,by have h9:=HP.out.1;simp only at h9;omega⟩
   have hpm:p<m:=by have h9:=HP.out.2;simp only at h9;omega
   have hpz:¬(p:Int)<0:=by omega
   have hpm2:¬(m:Int)≤(p:Int):=by omega
   go_upto_region 4 with fail
   obtain⟨W5,gt,hW5,hgt,HE⟩:=Env.al HE.out 65 #[.int .i64 (p:Int),.bool tr.num.neg,.slice tr.num.A tr.num.k tr.num.c,.bool tr.den.neg,.slice tr.den.A tr.den.k tr.den.c]
   rw[hW5,hgt]
   clear hW5 hgt c0
   have c:=Env.c1 HE.out
   have cf:=Blk.cb HE.out.o.2.1
   go_quiet (fail)
   go_wp2_with fail
   go_roundw
   case rel=>exact⟨i+1,by go_num,by omega,znd (HE.out.drewN _).drop⟩
   case measure=>(simp[intOf]<;>omega)
  ·obtain rfl:i=L:=by omega
   have hnu:¬(i:Int)<(i:Int):=by omega
   have cf:=Blk.cb HE.out.o.2.1
   go_wp2_with fail
   refine(zcp _ n hn h1n A c ts HE.out.o.1 Hrt.out hl m hm Hpl.out HE.out.o.2.2).mono ?_
   rintro e w2 ⟨v,rfl,hd⟩
   have HD:=znd (hd.up (GL.start HE.out))
   obtain⟨B,cp,g,os,hB,rfl,hq,hg⟩:=hd
   clear hB hq hg
   go_wp2_with fail
   exact bodyPost_ret (v:=.tuple #[.slice B m cp,.bool true]) (by simp[results,Tryz.results109,go_sem]) rfl ⟨_,rfl,HD.out⟩
end Go.Proofs.YtfdmajmhmligpaaGreatDoor
