/-
 (*lu.LU).Btran.
-/
import Derived.Test.YtfdmajmhmligpaaGreatDoorIL
namespace Go.Proofs.YtfdmajmhmligpaaGreatDoor
set_option maxHeartbeats 4000000
open Go.RowKit

def szG (nb nl:Nat):Nat→Nat
 |0=>nb
 |i+1=>2*szG nb nl i+2*nl+4
theorem zep (nb nl:Nat):∀{i j:Nat},i≤j→szG nb nl i≤szG nb nl j:=fun{i j} h=>by
 induction h with
 |refl=>exact Nat.le_refl _
 |step _ ih=>rw[szG];omega
def szY (S nl m:Nat):Nat→Nat
 |0=>S
 |i+1=>szY S nl m i+m*(nl+szY S nl m i+3)
theorem zgU (S nl m:Nat):∀{i j:Nat},i≤j→szY S nl m i≤szY S nl m j:=fun{i j} h=>by
 induction h with
 |refl=>exact Nat.le_refl _
 |step _ ih=>exact Nat.le_trans ih (Nat.le_add_right _ _)
set_option maxRecDepth 100000 in
theorem zio (w:World) (n nb nl nt:Nat) (hn:n≤100000000000) (h1n:1≤n) (h1l:1≤nl) (h1t:1≤nt) (h1b:1≤nb) (hnl:nl≤100000000) (_hnt:nt≤100000000) (gf m:Nat) (As:Option Addr) (cs:Nat) (ss:List SpV) (h:LuD gf m As cs ss w) (hp:LuP m nl nt ss) (hm:m≤20) (hz:szG nb nl m≤100000000) (hzx:szY (szG nb nl m) nt m m≤100000000000) (A:Option Addr) (c0:Nat) (ts:List TeV) (h':LsR 5 tecells (teD n) A ts w) (ht:Rise ts) (hl:ts.length≤20) (hpl:∀t∈ts,0≤t.pl∧t.pl<(m:Int)) (HSB:Hid (∀j,j<m→Sz (getQ (ts.map plq) (j:Int)) (szG nb nl 0))) (hT:Tz w):Calls Tryz.prog 76 #[.pointer (some ⟨gf,0,none⟩),.slice A ts.length c0] w fun e w'=>∃(ys:List (RV×Rat)) (v:Value),e=.returned (.tuple #[v,.int .i64 0])∧SetQ m ys (ybw m (ss.map SpV.toP) (zfw (ss.map SpV.toP) (fun j=>getQ (ts.map plq) (j:Int)) (fun _=>0)))∧(∀p∈ys,Sz p.2 (szY (szG nb nl m) nt m m))∧RetVec (((ofT ys).map plq).filter nzP) w (.returned v) w':=by
 have sl1:=h'.sl
 have slA:=h.st.sl
 have szr:=zal
 have szv:=zai
 have szs:=zej
 have hadd:=zaa
 have HP:=znd hp
 have Hrt:=znd ht
 have Hpl:=znd hpl
 rw[hp.len]at slA
 have HG0:=znd (GL.start (Env.start (h.old.and ((h'.old zah).and hT.old))))
 have HG:=znd (show GL w [] (fun V=>LuD gf m As cs ss V∧LsR 5 tecells (teD n) A ts V∧Tz V) (fun _=>True) w from HG0.out.imp (fun _ h=>h.2) (fun _ h=>h))
 have HLB:=znd (show∀V,LuD gf m As cs ss V→Blk V gf 146 #[.bool true,.int .i64 (m:Int),.slice As m cs]from fun V h=>by have h9:=h.blk;rw[hp.len]at h9;exact h9)
 clear h h' hT hp ht hpl HG0
 have c:=Blk.cb (HLB.out _ HG.out.o.1)
 go_enter Tryz.func76,Tryz.ntmps76
 go_wp2_with fail
 refine(zdB _ n hn h1n A c0 ts HG.out.o.2.1 Hrt.out hl m (by omega) Hpl.out gf true As m cs (HLB.out _ HG.out.o.1) HG.out.o.2.2).mono ?_
 rintro e w1 ⟨v,rfl,B,cp,g,os,hB,rfl,hq,hg⟩
 have HG1:=znd (show GL w [⟨48,4,.slice B m cp,List.map za0 os⟩] (fun V=>LuD gf m As cs ss V∧LsR 5 tecells (teD n) A ts V∧Tz V) (fun V=>∀p∈os,roN p V) w1 from(HG.out.join hg).imp (fun _ h=>h) (fun V h=>h.1))
 have HB:=znd hB
 have slB:=hB.2
 have HQ:=znd hq
 clear hB hq hg HG c
 have HG:=HG1
 clear HG1
 have c:=Blk.cb (HLB.out _ HG.out.o.1)
 go_wp2_with fail
 clear c
 rw[zbo _ m (by omega)]
 obtain⟨W6,gx,hW6,hgx,HG2⟩:=HG.out.al4 m (by omega)
 rw[hW6,hgx]
 clear hW6 hgx HG
 obtain⟨Y,hY⟩:∃Y:Option Addr,Y=some ⟨gx,0,none⟩:=⟨_,rfl⟩
 rw[←hY]at HG2⊢
 have HY:=znd hY
 have slY:Sl Y m:=by rw[hY];exact Sl.some_ _ _ _
 clear hY
 have HG:=znd (show GL w [⟨48,4,.slice Y m m,List.map za0 (zaH m)⟩,⟨48,4,.slice B m cp,List.map za0 os⟩] (fun V=>LuD gf m As cs ss V∧LsR 5 tecells (teD n) A ts V∧Tz V) (fun V=>(∀p∈(zaH m),roN p V)∧(∀p∈os,roN p V)) W6 from HG2.out.imp (fun _ h=>h) (fun V h=>⟨zbS m V,h⟩))
 clear HG2
 have c:=Blk.cb (HLB.out _ HG.out.o.1)
 go_wp2_with fail
 clear c
 go_loopw [40] (fun iv wr=>∃(i:Nat) (F Z:Nat→Rat) (os ys:List (RV×Rat)),iv=.int .i64 (i:Int)∧i≤m∧Hid (zfw ((ss.drop i).map SpV.toP) F Z=(zfw (ss.map SpV.toP) (fun j=>getQ (ts.map plq) (j:Int)) (fun _=>0)))∧Hid (∀j,j<m→Sz (F j) (szG nb nl i))∧Hid (∀j,j<m→Sz (Z j) (szG nb nl i))∧Hid (SetQ m os F)∧Hid (SetQ m ys Z)∧Hid (GL w [⟨48,4,.slice Y m m,List.map za0 ys⟩,⟨48,4,.slice B m cp,List.map za0 os⟩] (fun V=>LuD gf m As cs ss V∧LsR 5 tecells (teD n) A ts V∧Tz V) (fun V=>(∀p∈ys,roN p V)∧(∀p∈os,roN p V)) wr)) (fun iv _=>m-(intOf iv).toNat)
 case atStart=>exact⟨0,_,_,os,zaH m,rfl,Nat.zero_le _,znd rfl,HSB,znd (fun j _=>zaM.up (by rw[szG];exact h1b)),HQ,znd (SetQ.zero m),HG⟩
 case round=>
  clear HG HQ
  obtain⟨i,F,Z,os,ys,rfl,hi,HW,HS,HZ,HI,HYI,HG⟩:=hrel
  by_cases hlt:i<m
  ·have hls:i<ss.length:=by rw[HP.out.len];exact hlt
   have c0:=HG.out.o.1.st.sc i hls
   have HW2:=znd (show zfw ((ss.drop (i+1)).map SpV.toP) (fun k=>F k-getQ ((ss[i]).rest.map plq) (k:Int)*(F (ss[i]).col/(ss[i]).q)) (fun j=>if j=(ss[i]).row then F (ss[i]).col/(ss[i]).q else Z j)=(zfw (ss.map SpV.toP) (fun j=>getQ (ts.map plq) (j:Int)) (fun _=>0))from by have h9:=HW.out;rw[List.drop_eq_getElem_cons hls]at h9;exact h9)
   obtain⟨s,hs⟩:∃s,s=ss[i]:=⟨_,rfl⟩
   have Hm:=znd (show s∈ss by rw[hs];exact List.getElem_mem hls)
   rw[←hs]at c0 HW2
   clear hs hls
   have hrm:s.row<m:=HP.out.row s Hm.out
   have hcm:s.col<m:=HP.out.col s Hm.out
   have HQZ:=znd (show Sz (F s.col/s.q) (szG nb nl i+nl+1)from(HS.out s.col hcm).quo (HP.out.szq s Hm.out))
   have hco:s.col<os.length:=by rw[HI.out.n];exact hcm
   have hyo:s.row<ys.length:=by rw[HYI.out.n];exact hrm
   have hpz:(0:Int)≤(s.row:Int):=by omega
   have hpm2:(s.row:Int)<(m:Int):=by omega
   have hcz:(0:Int)≤(s.col:Int):=by omega
   have hcm2:(s.col:Int)<(m:Int):=by omega
   obtain⟨u,hu⟩:∃u,u=os[s.col]:=⟨_,rfl⟩
   have Huo:=znd (show u∈os from by rw[hu];exact List.getElem_mem hco)
   have Huq:=znd (show u.2=F s.col from by rw[hu];exact HI.out.q s.col hco)
   have HRC:=znd (show∀V {nw:World→Prop},GL w [⟨48,4,.slice Y m m,List.map za0 ys⟩,⟨48,4,.slice B m cp,List.map za0 os⟩] (fun V=>LuD gf m As cs ss V∧LsR 5 tecells (teD n) A ts V∧Tz V) nw V→RC B s.col u V from fun V _ h=>by rw[hu];exact h.rc (k:=1) rfl hco)
   clear hu
   have hz2:szG nb nl i≤100000000:=Nat.le_trans (zep nb nl hi) hz
   have hz1:1≤szG nb nl i:=Nat.le_trans h1b (zep nb nl (Nat.zero_le i))
   have HS2:=znd (show∀j,j<m→Sz (F j-getQ (s.rest.map plq) (j:Int)*(F s.col/s.q)) (szG nb nl (i+1))from fun j hj=>(Sz.sub (HS.out j hj) (Sz.mul (zb4 (HP.out.rest s Hm.out).rise h1l (HP.out.rest s Hm.out).sz (j:Int)) HQZ.out)).up (by rw[szG];omega))
   have HZ2:=znd (show∀j,j<m→Sz (if j=s.row then F s.col/s.q else Z j) (szG nb nl (i+1))from fun j hj=>by
    split
    ·exact HQZ.out.up (by rw[szG];omega)
    ·exact(HZ.out j hj).up (zep nb nl (Nat.le_succ i)))
   go_upto_region 10 with fail
   obtain⟨W5,gt,hW5,hgt,HG2⟩:=HG.out.al 150 #[.int .i64 s.row,.int .i64 s.col,.bool s.r.num.neg,.slice s.r.num.A s.r.num.k s.r.num.c,.bool s.r.den.neg,.slice s.r.den.A s.r.den.k s.r.den.c,.slice s.rA s.rest.length s.rc,.slice s.tA s.taken.length s.tc]
   rw[hW5,hgt]
   clear hW5 hgt c0 HG
   have HG:=HG2
   clear HG2
   refine wp_region_noPanic ?_
   refine zab 12 (fun V=>CB gt #[.int .i64 s.row,.int .i64 s.col,.bool s.r.num.neg,.slice s.r.num.A s.r.num.k s.r.num.c,.bool s.r.den.neg,.slice s.r.den.A s.r.den.k s.r.den.c,.slice s.rA s.rest.length s.rc,.slice s.tA s.taken.length s.tc] V∧RC B s.col u V) (by kernel_rfl) (by with_reducible first|exact⟨Blk.cb HG.out.n.1,HRC.out _ HG.out⟩|exact⟨Blk.cb HG.out.drew.n.1,HRC.out _ HG.out.drew⟩|exact⟨Blk.cb HG.out.n.2.1,HRC.out _ HG.out⟩|exact⟨Blk.cb HG.out.drew.n.2.1,HRC.out _ HG.out.drew⟩) (fun hHeld=>?_)
   replace HG:=znd HG.out.drew
   refine gTa 0 44 hHeld ?_
   refine gTa 1 45 hHeld ?_
   refine gTa 2 46 hHeld ?_
   refine gTa 3 47 hHeld ?_
   refine gTa 4 48 hHeld ?_
   refine gTa 5 49 hHeld ?_
   refine gTa 6 50 hHeld ?_
   refine gTa 7 51 hHeld ?_
   refine gTa 8 52 hHeld ?_
   refine gTa 9 53 hHeld ?_
   refine gC 10 rfl (by kernel_rfl) (by rfl) (fun K hK=>?_)
   clear hHeld
   simp only[q1,q2,q3]
   go_simp
   refine(zeD _ u.1 s.r (F s.col) s.q (szG nb nl i+nl) (by omega) (by omega) ((show RatD u.1 (F s.col) (szG nb nl i) _ from by rw[←Huq.out];exact RatN.rat (HG.out.n.2.2 u Huo.out) (by rw[Huq.out];exact HS.out s.col hcm)).mono9 (by omega)) ((RatN.rat (HG.out.o.1.st.ok s Hm.out).1 (HP.out.szq s Hm.out)).mono9 (by omega)) HG.out.o.2.2).mono ?_
   rintro e wq ⟨k2,rfl,hk9,hb9⟩
   replace HG:=znd (HG.out.call hk9 hb9)
   clear hk9 hb9
   (try(go_wp2_with fail))
   refine hK.out _ _ (by with_reducible first|exact⟨Blk.cb HG.out.n.1,HRC.out _ HG.out⟩|exact⟨Blk.cb HG.out.drew.n.1,HRC.out _ HG.out.drew⟩|exact⟨Blk.cb HG.out.n.2.1,HRC.out _ HG.out⟩|exact⟨Blk.cb HG.out.drew.n.2.1,HRC.out _ HG.out.drew⟩) (fun hHeld=>?_)
   clear hK K
   try simp only[p1,p2,p3,p4]
   refine gTa 11 55 hHeld ?_
   have fr:=HG.out.free HY.out (k:=0) rfl
   have rcx:=HG.out.rc (k:=0) rfl hyo
   have hadd2:∀(n j:Nat),(⟨(adr Y n).block,(adr Y n).off+j,none⟩:Addr)=adr Y (n+j):=fun n j=>by unfold adr;simp[Nat.add_assoc]
   have hs01:=za1 Y (show s.row*4≠s.row*4+1 by omega)
   have hs02:=za1 Y (show s.row*4≠s.row*4+2 by omega)
   have hs03:=za1 Y (show s.row*4≠s.row*4+3 by omega)
   have hs12:=za1 Y (show s.row*4+1≠s.row*4+2 by omega)
   have hs13:=za1 Y (show s.row*4+1≠s.row*4+3 by omega)
   have hs23:=za1 Y (show s.row*4+2≠s.row*4+3 by omega)
   refine gL rfl (by kernel_rfl) (by kernel_rfl) (by rfl) (fun K hK=>?_)
   clear hHeld
   simp only[q1,q2,q3]
   go_simp
   (try(go_wp2_with fail))
   refine hK.out _ _ ?_
   clear hK K
   try simp only[p1,p2,p3,p4]
   refine NoPanic.normal ?_
   clear rcx fr hadd2 hs01 hs02 hs03 hs12 hs13 hs23
   replace HG:=znd (HG.out.putR HY.out (k:=0) rfl hyo k2 (F s.col/s.q))
   have HG3:=znd (show GL w [⟨48,4,.slice B m cp,List.map za0 os⟩,⟨48,4,.slice Y m m,List.map za0 (ys.set s.row (k2,F s.col/s.q))⟩] (fun V=>LuD gf m As cs ss V∧LsR 5 tecells (teD n) A ts V∧Tz V) (fun V=>(∀p∈os,roN p V)∧(∀p∈(ys.set s.row (k2,F s.col/s.q)),roN p V)∧roN (k2,F s.col/s.q) V∧Blk V gt 150 #[.int .i64 s.row,.int .i64 s.col,.bool s.r.num.neg,.slice s.r.num.A s.r.num.k s.r.num.c,.bool s.r.den.neg,.slice s.r.den.A s.r.den.k s.r.den.c,.slice s.rA s.rest.length s.rc,.slice s.tA s.taken.length s.tc]) _ from(HG.out.perm (List.Perm.swap _ _ [])).imp (fun _ h=>h) (fun V h=>⟨h.2.2.2,zb2 (P:=fun p=>roN p V) h.2.2.1 h.1,h.1,h.2.1⟩))
   clear HG
   have HG:=HG3
   clear HG3
   have HYC:=znd (show∀V {nw:World→Prop},GL w [⟨48,4,.slice B m cp,List.map za0 os⟩,⟨48,4,.slice Y m m,List.map za0 (ys.set s.row (k2,F s.col/s.q))⟩] (fun V=>LuD gf m As cs ss V∧LsR 5 tecells (teD n) A ts V∧Tz V) nw V→RC Y s.row (k2,F s.col/s.q) V from fun V _ h=>by have h9:=h.rc (k:=1) (i:=s.row) rfl (by rw[List.length_set];exact hyo);rw[List.getElem_set_self]at h9;exact h9)
   have HYN:=znd (HYI.out.put (p:=s.row) (r:=k2) (q:=F s.col/s.q) (f':=fun j=>if j=s.row then F s.col/s.q else Z j) (by rw[if_pos rfl]) (fun j _ hj=>if_neg hj))
   skip
   have c:=Blk.cb HG.out.n.2.2.2
   have cr:=HYC.out _ HG.out
   go_upto_region 11 with fail
   clear c cr
   have c:=Blk.cb HG.out.n.2.2.2
   have cr:=HYC.out _ HG.out
   go_region_with (first
    |(go_at_call 110;go_must (refine(zec w _ [⟨48,4,.slice Y m m,List.map za0 (ys.set s.row (k2,F s.col/s.q))⟩] (fun V=>LuD gf m As cs ss V∧LsR 5 tecells (teD n) A ts V∧Tz V) (fun V=>(∀p∈(ys.set s.row (k2,F s.col/s.q)),roN p V)∧roN (k2,F s.col/s.q) V∧Blk V gt 150 #[.int .i64 s.row,.int .i64 s.col,.bool s.r.num.neg,.slice s.r.num.A s.r.num.k s.r.num.c,.bool s.r.den.neg,.slice s.r.den.A s.r.den.k s.r.den.c,.slice s.rA s.rest.length s.rc,.slice s.tA s.taken.length s.tc]) B g m cp (HB.out.1 (by omega)) os F HI.out (szG nb nl i) nl (szG nb nl i+nl+1) (by omega) h1l (by omega) HS.out (by with_reducible first|exact HG.out|exact HG.out.drew) s.rA s.rc s.rest (fun V ho hn=>LsR.imp (ho.1.st.ok s Hm.out).2.1 (fun t ht h=>RatN.rat h ((HP.out.rest s Hm.out).sz t ht))) (HP.out.rest s Hm.out).rise (by have:=(HP.out.rest s Hm.out).len;omega) (HP.out.rest s Hm.out).pl k2 (F s.col/s.q) (fun V ho hn=>RatN.rat (show RatN k2 (F s.col/s.q) V from hn.2.1) HQZ.out) (fun V ho=>ho.2.2)).mono ?_;rintro e wq ⟨rfl,os2,hq2,hg2⟩;have HQ3:=znd hq2;have HG3:=znd hg2;clear hq2 hg2)))
   all_goals
    clear c cr
    go_wp2_with fail
    go_roundw
    case rel=>exact⟨i+1,_,_,os2,(ys.set s.row (k2,F s.col/s.q)),by go_num,by omega,HW2,HS2,HZ2,HQ3,HYN,znd (by with_reducible first|exact(HG3.out.perm (List.Perm.swap _ _ [])).imp (fun _ h=>h) (fun _ h=>⟨h.2.1,h.1⟩)|exact(HG3.out.drew.perm (List.Perm.swap _ _ [])).imp (fun _ h=>h) (fun _ h=>⟨h.2.1,h.1⟩))⟩
    case measure=>(simp[intOf]<;>omega)
  ·obtain rfl:m=i:=by omega
   have HWm:=znd (show Z=(zfw (ss.map SpV.toP) (fun j=>getQ (ts.map plq) (j:Int)) (fun _=>0))from by have h9:=HW.out;rw[List.drop_eq_nil_of_le (by rw[HP.out.len];exact Nat.le_refl _)]at h9;exact h9)
   have hnu:¬(m:Int)<(m:Int):=by omega
   have c:=Blk.cb (HLB.out _ HG.out.o.1)
   go_wp2_with fail
   clear c
   go_loopw [70] (fun iv wr=>∃(i:Nat) (ys:List (RV×Rat)),iv=.int .i64 (i:Int)∧i≤m∧Hid (SetQ m ys (ybw m ((ss.drop (m-i)).map SpV.toP) Z))∧Hid (∀j,j<m→Sz ((ybw m ((ss.drop (m-i)).map SpV.toP) Z) j) (szY (szG nb nl m) nt m i))∧Hid (GL w [⟨48,4,.slice Y m m,List.map za0 ys⟩,⟨48,4,.slice B m cp,List.map za0 os⟩] (fun V=>LuD gf m As cs ss V∧LsR 5 tecells (teD n) A ts V∧Tz V) (fun V=>(∀p∈ys,roN p V)∧(∀p∈os,roN p V)) wr)) (fun iv _=>m-(intOf iv).toNat)
   case atStart=>exact⟨0,ys,rfl,Nat.zero_le _,znd (by rw[List.drop_eq_nil_of_le (by rw[HP.out.len];omega)];exact HYI.out),znd (fun j hj=>by rw[List.drop_eq_nil_of_le (by rw[HP.out.len];omega)];exact HZ.out j hj),HG⟩
   case round=>
    clear HG
    obtain⟨i,ys,rfl,hi,HXI,HXS,HG⟩:=hrel
    by_cases hlt:i<m
    ·obtain⟨k,hk⟩:∃k,m=k+1+i:=⟨m-1-i,by omega⟩
     have hks:k<ss.length:=by rw[HP.out.len];omega
     have c0:=HG.out.o.1.st.sc k hks
     have hd1:m-i=k+1:=by omega
     have hd2:m-(i+1)=k:=by omega
     have hw1:IntKind.i64.wrap ((m:Int)-1)=((m:Int)-1):=by rw[IntKind.wrap_i64];omega
     have hw2:IntKind.i64.wrap ((m:Int)-1-(i:Int))=(k:Int):=by rw[IntKind.wrap_i64];omega
     have hk1:(0:Int)≤(k:Int):=by omega
     have hk2:(k:Int)<(m:Int):=by omega
     obtain⟨s,hs⟩:∃s,s=ss[k]:=⟨_,rfl⟩
     have Hm:=znd (show s∈ss by rw[hs];exact List.getElem_mem hks)
     have HBW:=znd (show ybw m ((ss.drop k).map SpV.toP) Z=fun j=>if j=s.row then ybw m ((ss.drop (k+1)).map SpV.toP) Z s.row-sumN (fun j=>getQ (s.taken.map plq) (j:Int)*ybw m ((ss.drop (k+1)).map SpV.toP) Z j) m else ybw m ((ss.drop (k+1)).map SpV.toP) Z j from by rw[List.drop_eq_getElem_cons hks,←hs];rfl)
     have HGb:=HG.out.box 150 #[.int .i64 0,.int .i64 0,.bool false,.slice none 0 0,.bool false,.slice none 0 0,.slice none 0 0,.slice none 0 0]
     have c2:=Blk.cb (HLB.out _ HGb.o.1)
     have c02:=HGb.o.1.st.sc k hks
     have cb2:=Blk.cb HGb.n.1
     rw[←hs]at c0 c02
     rw[hd1]at HXI HXS
     have Hk:=znd hk
     clear hs hks hk hd1
     have c:=Blk.cb (HLB.out _ HG.out.o.1)
     have HE:=znd HG.out.env
     go_upto_region 16 with fail
     go_region
     obtain⟨W8,gs,hW8,hgs,HG2⟩:=HG.out.al 150 #[.int .i64 s.row,.int .i64 s.col,.bool s.r.num.neg,.slice s.r.num.A s.r.num.k s.r.num.c,.bool s.r.den.neg,.slice s.r.den.A s.r.den.k s.r.den.c,.slice s.rA s.rest.length s.rc,.slice s.tA s.taken.length s.tc]
     rw[hW8,hgs]
     clear hW8 hgs HG HE HGb c c2 c02 cb2 c0
     replace HG:=znd HG2.out.drew
     clear HG2
     generalize W8.drew=W9 at HG⊢
     have hrm:s.row<m:=HP.out.row s Hm.out
     have hyo:s.row<ys.length:=by rw[HXI.out.n];exact hrm
     have hpz:(0:Int)≤(s.row:Int):=by omega
     have hpm2:(s.row:Int)<(m:Int):=by omega
     obtain⟨u,hu⟩:∃u,u=ys[s.row]:=⟨_,rfl⟩
     have Huo:=znd (show u∈ys from by rw[hu];exact List.getElem_mem hyo)
     have Huq:=znd (show u.2=ybw m ((ss.drop (k+1)).map SpV.toP) Z s.row from by rw[hu];exact HXI.out.q s.row hyo)
     have HRC:=znd (show∀V {nw:World→Prop},GL w [⟨48,4,.slice Y m m,List.map za0 ys⟩,⟨48,4,.slice B m cp,List.map za0 os⟩] (fun V=>LuD gf m As cs ss V∧LsR 5 tecells (teD n) A ts V∧Tz V) nw V→RC Y s.row u V from fun V _ h=>by rw[hu];exact h.rc (k:=0) rfl hyo)
     clear hu
     go_upto_region 17 with fail
     have hsx:szY (szG nb nl m) nt m (i+1)≤100000000000:=Nat.le_trans (zgU _ _ _ (show i+1≤m by omega)) hzx
     rw[szY]at hsx
     have hs1:1≤szG nb nl m:=Nat.le_trans h1b (zep nb nl (Nat.zero_le m))
     have hs2:1≤(szY (szG nb nl m) nt m i):=Nat.le_trans hs1 (zgU (szG nb nl m) nt m (Nat.zero_le i))
     have HXZ:=znd (show∀p∈ys,Sz p.2 (szY (szG nb nl m) nt m i)from fun p hp=>by
      obtain⟨j,hj,rfl⟩:=List.mem_iff_getElem.1 hp
      rw[HXI.out.q j hj];exact HXS.out j (by rw[←HXI.out.n];exact hj))
     have HXD:=znd (show∀V,roN u V→RatD u.1 ((ybw m ((ss.drop (k+1)).map SpV.toP) Z) s.row) (szY (szG nb nl m) nt m i) V from fun V h=>by rw[←Huq.out];exact RatN.rat (show RatN u.1 u.2 V from h) (HXZ.out u Huo.out))
     have HQZ:=znd (show Sz ((ybw m ((ss.drop (k+1)).map SpV.toP) Z) s.row-subQ (ybw m ((ss.drop (k+1)).map SpV.toP) Z) s.taken) ((szY (szG nb nl m) nt m i)+m*(nt+(szY (szG nb nl m) nt m i)+3))from by have h9:=zew (HXS.out s.row hrm) (HP.out.taken s Hm.out).sz (fun t ht=>HXS.out t.pl.toNat (by have:=(HP.out.taken s Hm.out).pl t ht;omega)) s.taken.length (Nat.le_refl _);rw[List.take_length]at h9;exact h9.up (Nat.add_le_add_left (Nat.mul_le_mul_right _ (HP.out.taken s Hm.out).len) _))
     have HNB:=znd (show ybw m ((ss.drop (m-(i+1))).map SpV.toP) Z=fun j=>if j=s.row then((ybw m ((ss.drop (k+1)).map SpV.toP) Z) s.row-subQ (ybw m ((ss.drop (k+1)).map SpV.toP) Z) s.taken) else(ybw m ((ss.drop (k+1)).map SpV.toP) Z) j from by rw[hd2,HBW.out,zgv (HP.out.taken s Hm.out)])
     refine wp_region_noPanic ?_
     refine zab 13 (fun V=>CB gs #[.int .i64 s.row,.int .i64 s.col,.bool s.r.num.neg,.slice s.r.num.A s.r.num.k s.r.num.c,.bool s.r.den.neg,.slice s.r.den.A s.r.den.k s.r.den.c,.slice s.rA s.rest.length s.rc,.slice s.tA s.taken.length s.tc] V∧RC Y s.row u V) (by kernel_rfl) (by with_reducible first|exact⟨Blk.cb HG.out.n.1,HRC.out _ HG.out⟩|exact⟨Blk.cb HG.out.drew.n.1,HRC.out _ HG.out.drew⟩|exact⟨Blk.cb HG.out.n.2.1,HRC.out _ HG.out⟩|exact⟨Blk.cb HG.out.drew.n.2.1,HRC.out _ HG.out.drew⟩|exact⟨Blk.cb HG.out.n.2.2.1,HRC.out _ HG.out⟩|exact⟨Blk.cb HG.out.drew.n.2.2.1,HRC.out _ HG.out.drew⟩) (fun hHeld=>?_)
     replace HG:=znd HG.out.drew
     refine gTa 0 86 hHeld ?_
     refine gTa 1 87 hHeld ?_
     refine gTa 2 88 hHeld ?_
     refine gTa 3 89 hHeld ?_
     refine gTa 4 90 hHeld ?_
     refine gTa 5 91 hHeld ?_
     refine gTa 6 92 hHeld ?_
     refine gTa 7 93 hHeld ?_
     refine gTa 8 94 hHeld ?_
     refine gTa 9 95 hHeld ?_
     refine gTa 10 96 hHeld ?_
     refine gC 11 rfl (by kernel_rfl) (by rfl) (fun K hK=>?_)
     clear hHeld
     simp only[q1,q2,q3]
     go_simp
     refine(show Calls Tryz.prog 112 #[.agg #[.bool u.1.num.neg,.slice u.1.num.A u.1.num.k u.1.num.c,.bool u.1.den.neg,.slice u.1.den.A u.1.den.k u.1.den.c],.slice s.tA s.taken.length s.tc,.slice Y m m] _ (zeK u.1 ((ybw m ((ss.drop (k+1)).map SpV.toP) Z) s.row) ((ybw m ((ss.drop (k+1)).map SpV.toP) Z) s.row-subQ (ybw m ((ss.drop (k+1)).map SpV.toP) Z) s.taken) _)from by have h9:=zgO _ (szY (szG nb nl m) nt m i) nt (szY (szG nb nl m) nt m i) ((szY (szG nb nl m) nt m i)+m*(nt+(szY (szG nb nl m) nt m i)+3)) (by omega) (by omega) h1t (by omega) u.1 ((ybw m ((ss.drop (k+1)).map SpV.toP) Z) s.row) (HXD.out _ (HG.out.n.2.1 u Huo.out)) s.tA s.tc s.taken (LsR.imp (HG.out.o.1.st.ok s Hm.out).2.2 (fun t ht h=>RatN.rat h ((HP.out.taken s Hm.out).sz t ht))) Y m ys ⟨(show OwnE _ w.heap.size 48 4 (.slice Y m m) (ys.map za0)from HG.out.own _ (List.mem_cons_self ..)).el.1,fun p hp=>RatN.rat (HG.out.n.2.1 p hp) (HXZ.out p hp)⟩ m (ybw m ((ss.drop (k+1)).map SpV.toP) Z) HXI.out (HP.out.taken s Hm.out).pl (Nat.add_le_add_left (Nat.mul_le_mul_right _ (HP.out.taken s Hm.out).len) _) HG.out.o.2.2;rw[HXI.out.n]at h9;exact h9).mono ?_
     rintro e wq ⟨k1,rfl,hk9,hb9⟩
     replace HG:=znd (HG.out.call hk9 hb9)
     clear hk9 hb9
     have HK1:=znd (show RatN k1 ((ybw m ((ss.drop (k+1)).map SpV.toP) Z) s.row-subQ (ybw m ((ss.drop (k+1)).map SpV.toP) Z) s.taken) wq from by
      rcases HG.out.n.1 with⟨h1,h2⟩|h
      ·rw[h1,h2,←Huq.out];exact HG.out.n.2.2.1 u Huo.out
      ·exact h)
     (try(go_wp2_with fail))
     refine hK.out _ _ (by with_reducible first|exact⟨Blk.cb HG.out.n.1,HRC.out _ HG.out⟩|exact⟨Blk.cb HG.out.drew.n.1,HRC.out _ HG.out.drew⟩|exact⟨Blk.cb HG.out.n.2.1,HRC.out _ HG.out⟩|exact⟨Blk.cb HG.out.drew.n.2.1,HRC.out _ HG.out.drew⟩|exact⟨Blk.cb HG.out.n.2.2.1,HRC.out _ HG.out⟩|exact⟨Blk.cb HG.out.drew.n.2.2.1,HRC.out _ HG.out.drew⟩) (fun hHeld=>?_)
     clear hK K
     try simp only[p1,p2,p3,p4]
     refine gTa 12 98 hHeld ?_
     have fr:=HG.out.free HY.out (k:=0) rfl
     have rcx:=HG.out.rc (k:=0) rfl hyo
     have hadd2:∀(n j:Nat),(⟨(adr Y n).block,(adr Y n).off+j,none⟩:Addr)=adr Y (n+j):=fun n j=>by unfold adr;simp[Nat.add_assoc]
     have hs01:=za1 Y (show s.row*4≠s.row*4+1 by omega)
     have hs02:=za1 Y (show s.row*4≠s.row*4+2 by omega)
     have hs03:=za1 Y (show s.row*4≠s.row*4+3 by omega)
     have hs12:=za1 Y (show s.row*4+1≠s.row*4+2 by omega)
     have hs13:=za1 Y (show s.row*4+1≠s.row*4+3 by omega)
     have hs23:=za1 Y (show s.row*4+2≠s.row*4+3 by omega)
     refine gL rfl (by kernel_rfl) (by kernel_rfl) (by rfl) (fun K hK=>?_)
     clear hHeld
     simp only[q1,q2,q3]
     go_simp
     (try(go_wp2_with fail))
     refine hK.out _ _ ?_
     clear hK K
     try simp only[p1,p2,p3,p4]
     refine NoPanic.normal ?_
     clear rcx fr hadd2 hs01 hs02 hs03 hs12 hs13 hs23
     replace HG:=znd (HG.out.putR HY.out (k:=0) rfl hyo k1 ((ybw m ((ss.drop (k+1)).map SpV.toP) Z) s.row-subQ (ybw m ((ss.drop (k+1)).map SpV.toP) Z) s.taken))
     go_wp2_with fail
     go_roundw
     case rel=>exact⟨i+1,ys.set s.row (k1,((ybw m ((ss.drop (k+1)).map SpV.toP) Z) s.row-subQ (ybw m ((ss.drop (k+1)).map SpV.toP) Z) s.taken)),by go_num,by omega,znd (by rw[HNB.out];exact HXI.out.put (by show _=if s.row=s.row then _ else _;rw[if_pos rfl]) (fun j _ hj=>by show(if j=s.row then _ else _)=_;rw[if_neg hj])),znd (fun j hj=>by
      rw[HNB.out]
      show Sz (if j=s.row then _ else _) _
      split
      ·exact HQZ.out
      ·exact(HXS.out j hj).up (zgU _ _ _ (Nat.le_succ i))),znd (HG.out.imp (fun _ h=>h) (fun V h=>⟨zb2 (P:=fun p=>roN p V) h.2.2.1 (h.1.elim (fun e=>by rw[e.1,e.2,←Huq.out];exact h.2.2.1 u Huo.out) id),h.2.2.2⟩))⟩
     case measure=>(simp[intOf]<;>omega)
    ·obtain rfl:m=i:=by omega
     have hnu2:¬(m:Int)<(m:Int):=by omega
     have HXF:=znd (show SetQ m ys (ybw m (ss.map SpV.toP) Z)from by have h9:=HXI.out;rw[Nat.sub_self]at h9;exact h9)
     have HZ9:=znd (show∀p∈ys,Sz p.2 (szY (szG nb nl m) nt m m)from fun p hp=>by
      obtain⟨j,hj,e9⟩:=List.mem_iff_getElem.1 hp
      rw[←e9,HXI.out.q j hj];exact HXS.out j (by rw[←HXI.out.n];exact hj))
     have HXL:=znd (show LsR 4 za0 (roD 100000000000) Y ys wr from⟨(show OwnE wr w.heap.size 48 4 (.slice Y m m) (ys.map za0)from HG.out.own _ (List.mem_cons_self ..)).el.1,fun p hp=>by
      exact RatN.rat (HG.out.n.1 p hp) ((HZ9.out p hp).up hzx)⟩)
     go_wp2_with fail
     refine(show Calls Tryz.prog 35 #[.slice Y m m] _ (RetVec (((ofT ys).map plq).filter nzP) _)from by have h9:=zdY _ 100000000000 (Nat.le_refl _) (by omega) Y m ys HXL.out (by rw[HXI.out.n];exact hm) HG.out.o.2.2;rw[HXI.out.n]at h9;exact h9).mono ?_
     intro e w9 hret
     have HR:=znd (hret.up HG.out.bel)
     obtain⟨A9,c9,us,rfl,-⟩:=hret
     go_wp2_with fail
     exact bodyPost_ret (v:=.tuple #[.slice A9 us.length c9,.int .i64 0]) (by simp[results,Tryz.results76,go_sem]) rfl ⟨ys,.slice A9 us.length c9,rfl,by rw[←HWm.out];exact HXF.out,HZ9.out,HR.out⟩
end Go.Proofs.YtfdmajmhmligpaaGreatDoor
