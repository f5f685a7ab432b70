/-
 The steps of an LU. (*lu.LU).Ftran.
-/
import Derived.Test.YtfdmajmhmligpaaGreatDoorIJ
import Derived.Test.YtfdmajmhmligpaaGreatDoorIB
namespace Go.Proofs.YtfdmajmhmligpaaGreatDoor
set_option maxHeartbeats 4000000
open Go.RowKit

section
variable {P:Program}
@[go_sem] theorem run_indexAt_el8 (w:World) (t:TypeId) (A:Option Addr) (len cap:Nat) (k:IntKind) (i:Int) (hs:Sl A len)
 (h:P.underlying t=some (.slice (P.elem t))) (h1:(sizeOf (P.elem t)).run P w=.ok 8 w):
 (Instr.indexAt t (.slice A len cap) (.int k i)).run P w=
  if 0≤i∧i<len then .ok (.pointer (some (adr A (i.toNat*8)))) w else(boundsPanic k i len .index).run P w:=by
 rcases A with _|a
 ·have h0:len=0:=by
   rcases Nat.eq_zero_or_pos len with h|h
   ·exact h
   ·obtain⟨_,_,h⟩:=hs h;cases h
  subst h0
  rw[if_neg (by omega)]
  simp[Instr.indexAt,run_underlying h,asIntOf]
 ·rw[run_indexAt_slice w t a len cap k i h]
  split
  ·rename_i hi
   obtain⟨b,o,e⟩:=hs (by omega)
   cases e
   rw[h1]
   simp only[Result.andThen_ok,zaf,za6]
  ·rfl
end
theorem zej (w:World):(sizeOf (Tryz.prog.elem 144)).run Tryz.prog w=.ok 8 w:=by kernel_rfl
theorem zfX:Tryz.prog.underlying 144=some (.slice 150):=by kernel_rfl
structure SpV where
 row:Nat
 col:Nat
 r:RV
 q:Rat
 rA:Option Addr
 rc:Nat
 rest:List TeV
 tA:Option Addr
 tc:Nat
 taken:List TeV
def zaL (s:SpV):Array Value:=#[.int .i64 s.row,.int .i64 s.col,.bool s.r.num.neg,.slice s.r.num.A s.r.num.k s.r.num.c,.bool s.r.den.neg,.slice s.r.den.A s.r.den.k s.r.den.c,.slice s.rA s.rest.length s.rc,.slice s.tA s.taken.length s.tc]
def spN (s:SpV) (V:World):Prop:=RatN s.r s.q V∧LsR 5 tecells teN s.rA s.rest V∧LsR 5 tecells teN s.tA s.taken V
theorem zlP (s:SpV) (V:World) (h:spN s V):Rests V (·<V.heap.size) (spN s):=(RatN.old h.1).and ((h.2.1.old zda).and (h.2.2.old zda))
@[reducible] def SC (A:Option Addr) (i:Nat) (s:SpV) (W:World):Prop:=
 W.cell? (adr A (i*8))=some (.int .i64 s.row)∧W.cell? (adr A (i*8+1))=some (.int .i64 s.col)∧W.cell? (adr A (i*8+2))=some (.bool s.r.num.neg)∧W.cell? (adr A (i*8+3))=some (.slice s.r.num.A s.r.num.k s.r.num.c)∧W.cell? (adr A (i*8+4))=some (.bool s.r.den.neg)∧W.cell? (adr A (i*8+5))=some (.slice s.r.den.A s.r.den.k s.r.den.c)∧W.cell? (adr A (i*8+6))=some (.slice s.rA s.rest.length s.rc)∧W.cell? (adr A (i*8+7))=some (.slice s.tA s.taken.length s.tc)
theorem LsR.sc {ok:SpV→World→Prop} {A:Option Addr} {l:List SpV} {w:World} (h:LsR 8 zaL ok A l w) (i:Nat) (hi:i<l.length):SC A i l[i] w:=by
 have hc:=h.cell i hi
 exact⟨hc 0 (by decide),hc 1 (by decide),hc 2 (by decide),hc 3 (by decide),hc 4 (by decide),hc 5 (by decide),hc 6 (by decide),hc 7 (by decide)⟩
structure LuD (gf m:Nat) (As:Option Addr) (cs:Nat) (ss:List SpV) (V:World):Prop where
 blk:Blk V gf 146 #[.bool true,.int .i64 (m:Int),.slice As ss.length cs]
 st:LsR 8 zaL spN As ss V
theorem LuD.old {gf m:Nat} {As:Option Addr} {cs:Nat} {ss:List SpV} {w:World} (h:LuD gf m As cs ss w):Rests w (·<w.heap.size) (LuD gf m As cs ss):=
 (h.blk.rests.and (h.st.old zlP)).imp fun _ h=>⟨h.1,h.2⟩
structure VecP (m nl:Nat) (ts:List TeV):Prop where
 rise:Rise ts
 pl:∀t∈ts,0≤t.pl∧t.pl<(m:Int)
 sz:∀t∈ts,Sz t.q nl
structure LuP (m nl nt:Nat) (ss:List SpV):Prop where
 len:ss.length=m
 row:∀s∈ss,s.row<m
 col:∀s∈ss,s.col<m
 nz:∀s∈ss,s.q≠0
 szq:∀s∈ss,Sz s.q nl
 rest:∀s∈ss,VecP m nl s.rest
 taken:∀s∈ss,VecP m nt s.taken
def SpV.toP (s:SpV):PStep:=⟨s.row,s.col,s.q,fun k=>getQ (s.rest.map plq) (k:Int),fun i=>getQ (s.taken.map plq) (i:Int)⟩
theorem VecP.len {m nl:Nat} {ts:List TeV} (h:VecP m nl ts):ts.length≤m:=by
 have key:∀(l:List TeV) (a:Int),Rise l→(∀t∈l,a≤t.pl∧t.pl<(m:Int))→a≤(m:Int)→(l.length:Int)≤(m:Int)-a:=by
  intro l
  induction l with
  |nil=>intro a _ _ ha;simp;omega
  |cons t l ih=>
   intro a hr hp ha
   have h1:=hp t (List.mem_cons_self ..)
   have hr':=List.pairwise_cons.1 hr
   have h2:=ih (t.pl+1) hr'.2 (fun x hx=>⟨by have:=hr'.1 x hx;omega,(hp x (List.mem_cons_of_mem _ hx)).2⟩) (by omega)
   rw[List.length_cons];omega
 have:=key ts 0 h.rise h.pl (by omega)
 omega
theorem zgv {m nl:Nat} {ts:List TeV} (h:VecP m nl ts) (F:Nat→Rat):subQ F ts=sumN (fun k=>getQ (ts.map plq) (k:Int)*F k) m:=by
 have hp:=h.pl
 clear h
 induction ts with
 |nil=>
  rw[zbk (fun i _=>by show(0:Rat)*_=0;rw[Rat.zero_mul])];rfl
 |cons t ts ih=>
  have h1:=ih (fun x hx=>hp x (List.mem_cons_of_mem _ hx))
  have h2:=hp t (List.mem_cons_self ..)
  show t.q*F t.pl.toNat+subQ F ts=_
  rw[h1,show(fun k:Nat=>getQ ((t::ts).map plq) (k:Int)*F k)=fun k:Nat=>(if t.pl=(k:Int) then t.q else 0)*F k+getQ (ts.map plq) (k:Int)*F k from funext fun k:Nat=>by
   show((if t.pl=(k:Int) then t.q else 0)+getQ (ts.map plq) (k:Int))*F k=_
   rw[Rat.add_mul],zby]
  congr 1
  rw[zcD (c:=t.pl.toNat) (by omega) (fun i _ hne=>by rw[if_neg (by omega),Rat.zero_mul]),if_pos (by omega)]

def szF (nb nl:Nat):Nat→Nat
 |0=>nb
 |i+1=>2*szF nb nl i+nl+3
theorem zib (nb nl:Nat):∀{i j:Nat},i≤j→szF nb nl i≤szF nb nl j:=fun{i j} h=>by
 induction h with
 |refl=>exact Nat.le_refl _
 |step _ ih=>rw[szF];omega
def szX (S nl m:Nat):Nat→Nat
 |0=>1
 |i+1=>S+m*(nl+szX S nl m i+3)+nl+1
theorem zdM (S nl m:Nat):∀{i j:Nat},i≤j→szX S nl m i≤szX S nl m j:=fun{i j} h=>by
 have h1:∀i,szX S nl m i≤szX S nl m (i+1):=fun i=>by
  induction i with
  |zero=>rw[szX,szX];omega
  |succ i ih=>
   have:=Nat.mul_le_mul_left m (show nl+szX S nl m i+3≤nl+szX S nl m (i+1)+3 by omega)
   rw[szX,szX.eq_2 S nl m (i+1)];omega
 induction h with
 |refl=>exact Nat.le_refl _
 |step _ ih=>exact Nat.le_trans ih (h1 _)
set_option maxRecDepth 100000 in
theorem zjn (w:World) (n nb nl nt:Nat) (hn:n≤100000000000) (h1n:1≤n) (h1l:1≤nl) (h1t:1≤nt) (h1b:1≤nb) (hnl:nl≤100000000) (hnt:nt≤100000000) (gf m:Nat) (As:Option Addr) (cs:Nat) (ss:List SpV) (h:LuD gf m As cs ss w) (hp:LuP m nl nt ss) (hm:m≤20) (hz:szF nb nt m≤100000000) (hzx:szX (szF nb nt m) nl m m≤100000000000) (A:Option Addr) (c0:Nat) (ts:List TeV) (h':LsR 5 tecells (teD n) A ts w) (ht:Rise ts) (hl:ts.length≤20) (hpl:∀t∈ts,0≤t.pl∧t.pl<(m:Int)) (HSB:Hid (∀j,j<m→Sz (getQ (ts.map plq) (j:Int)) (szF nb nt 0))) (hT:Tz w):Calls Tryz.prog 75 #[.pointer (some ⟨gf,0,none⟩),.slice A ts.length c0] w fun e w'=>∃(xs:List (RV×Rat)) (v:Value),e=.returned (.tuple #[v,.int .i64 0])∧SetQ m xs (bwd m (fwd (ss.map SpV.toP) (fun j=>getQ (ts.map plq) (j:Int))) (ss.map SpV.toP))∧(∀p∈xs,Sz p.2 (szX (szF nb nt m) nl m m))∧RetVec (((ofT xs).map plq).filter nzP) w (.returned v) w':=by
 have sl1:=h'.sl
 have slA:=h.st.sl
 have szr:=zal
 have szv:=zai
 have szs:=zej
 have hadd:=zaa
 have HP:=znd hp
 have Hrt:=znd ht
 have Hpl:=znd hpl
 rw[hp.len]at slA
 have HG0:=znd (GL.start (Env.start (h.old.and ((h'.old zah).and hT.old))))
 have HG:=znd (show GL w [] (fun V=>LuD gf m As cs ss V∧LsR 5 tecells (teD n) A ts V∧Tz V) (fun _=>True) w from HG0.out.imp (fun _ h=>h.2) (fun _ h=>h))
 have HLB:=znd (show∀V,LuD gf m As cs ss V→Blk V gf 146 #[.bool true,.int .i64 (m:Int),.slice As m cs]from fun V h=>by have h9:=h.blk;rw[hp.len]at h9;exact h9)
 clear h h' hT hp ht hpl HG0
 have c:=Blk.cb (HLB.out _ HG.out.o.1)
 go_enter Tryz.func75,Tryz.ntmps75
 go_wp2_with fail
 refine(zdB _ n hn h1n A c0 ts HG.out.o.2.1 Hrt.out hl m (by omega) Hpl.out gf true As m cs (HLB.out _ HG.out.o.1) HG.out.o.2.2).mono ?_
 rintro e w1 ⟨v,rfl,B,cp,g,os,hB,rfl,hq,hg⟩
 have HG1:=znd (show GL w [⟨48,4,.slice B m cp,List.map za0 os⟩] (fun V=>LuD gf m As cs ss V∧LsR 5 tecells (teD n) A ts V∧Tz V) (fun V=>∀p∈os,roN p V) w1 from(HG.out.join hg).imp (fun _ h=>h) (fun V h=>h.1))
 have HB:=znd hB
 have slB:=hB.2
 have HQ:=znd hq
 clear hB hq hg HG c
 have HG:=HG1
 clear HG1
 have c:=Blk.cb (HLB.out _ HG.out.o.1)
 go_wp2_with fail
 clear c
 go_loopw [35] (fun iv wr=>∃(i:Nat) (F:Nat→Rat) (os:List (RV×Rat)),iv=.int .i64 (i:Int)∧i≤m∧Hid (fwd ((ss.drop i).map SpV.toP) F=fwd (ss.map SpV.toP) (fun j=>getQ (ts.map plq) (j:Int)))∧Hid (∀j,j<m→Sz (F j) (szF nb nt i))∧Hid (SetQ m os F)∧Hid (GL w [⟨48,4,.slice B m cp,List.map za0 os⟩] (fun V=>LuD gf m As cs ss V∧LsR 5 tecells (teD n) A ts V∧Tz V) (fun V=>∀p∈os,roN p V) wr)) (fun iv _=>m-(intOf iv).toNat)
 case atStart=>exact⟨0,_,os,rfl,Nat.zero_le _,znd rfl,HSB,HQ,HG⟩
 case round=>
  clear HG HQ
  obtain⟨i,F,os,rfl,hi,HW,HS,HI,HG⟩:=hrel
  by_cases hlt:i<m
  ·have hls:i<ss.length:=by rw[HP.out.len];exact hlt
   have c0:=HG.out.o.1.st.sc i hls
   have HW2:=znd (show fwd ((ss.drop (i+1)).map SpV.toP) (fun j=>F j-getQ ((ss[i]).taken.map plq) (j:Int)*F (ss[i]).row)=fwd (ss.map SpV.toP) (fun j=>getQ (ts.map plq) (j:Int))from by have h9:=HW.out;rw[List.drop_eq_getElem_cons hls]at h9;exact h9)
   obtain⟨s,hs⟩:∃s,s=ss[i]:=⟨_,rfl⟩
   have Hm:=znd (show s∈ss by rw[hs];exact List.getElem_mem hls)
   rw[←hs]at c0 HW2
   clear hs hls
   have hrm:s.row<m:=HP.out.row s Hm.out
   have HS2:=znd (show∀j,j<m→Sz (F j-getQ (s.taken.map plq) (j:Int)*F s.row) (szF nb nt (i+1))from fun j hj=>(Sz.sub (HS.out j hj) (Sz.mul (zb4 (HP.out.taken s Hm.out).rise h1t (HP.out.taken s Hm.out).sz (j:Int)) (HS.out s.row hrm))).up (by rw[szF];omega))
   have hro:s.row<os.length:=by rw[HI.out.n];exact hrm
   have hpz:(0:Int)≤(s.row:Int):=by omega
   have hpm2:(s.row:Int)<(m:Int):=by omega
   obtain⟨u,hu⟩:∃u,u=os[s.row]:=⟨_,rfl⟩
   have Huo:=znd (show u∈os from by rw[hu];exact List.getElem_mem hro)
   have Huq:=znd (show u.2=F s.row from by rw[hu];exact HI.out.q s.row hro)
   have HRC:=znd (show∀V {nw:World→Prop},GL w [⟨48,4,.slice B m cp,List.map za0 os⟩] (fun V=>LuD gf m As cs ss V∧LsR 5 tecells (teD n) A ts V∧Tz V) nw V→RC B s.row u V from fun V _ h=>by rw[hu];exact h.rc (k:=0) rfl hro)
   clear hu
   go_upto_region 9 with fail
   obtain⟨W5,gt,hW5,hgt,HG2⟩:=HG.out.al 150 #[.int .i64 s.row,.int .i64 s.col,.bool s.r.num.neg,.slice s.r.num.A s.r.num.k s.r.num.c,.bool s.r.den.neg,.slice s.r.den.A s.r.den.k s.r.den.c,.slice s.rA s.rest.length s.rc,.slice s.tA s.taken.length s.tc]
   rw[hW5,hgt]
   clear hW5 hgt c0 HG
   have HG:=HG2
   clear HG2
   have c:=Blk.cb HG.out.n.1
   have cr:=HRC.out _ HG.out
   have hz2:szF nb nt i≤100000000:=Nat.le_trans (zib nb nt hi) hz
   have hz1:1≤szF nb nt i:=Nat.le_trans h1b (zib nb nt (Nat.zero_le i))
   go_region_with (first
    |(go_at_call 110;go_must (refine(zec w _ [] (fun V=>LuD gf m As cs ss V∧LsR 5 tecells (teD n) A ts V∧Tz V) (fun V=>roN u V∧Blk V gt 150 #[.int .i64 s.row,.int .i64 s.col,.bool s.r.num.neg,.slice s.r.num.A s.r.num.k s.r.num.c,.bool s.r.den.neg,.slice s.r.den.A s.r.den.k s.r.den.c,.slice s.rA s.rest.length s.rc,.slice s.tA s.taken.length s.tc]) B g m cp (HB.out.1 (by omega)) os F HI.out (szF nb nt i) nt (szF nb nt i) (by omega) h1t (by omega) HS.out (by with_reducible first|exact HG.out.imp (fun _ h=>h) (fun V h=>⟨h.2,h.2 u Huo.out,h.1⟩)|exact HG.out.drew.imp (fun _ h=>h) (fun V h=>⟨h.2,h.2 u Huo.out,h.1⟩)) s.tA s.tc s.taken (fun V ho hn=>LsR.imp (ho.1.st.ok s Hm.out).2.2 (fun t ht h=>RatN.rat h ((HP.out.taken s Hm.out).sz t ht))) (HP.out.taken s Hm.out).rise (by have:=(HP.out.taken s Hm.out).len;omega) (HP.out.taken s Hm.out).pl u.1 (F s.row) (fun V ho hn=>by rw[←Huq.out];exact RatN.rat (show RatN u.1 u.2 V from hn.1) (by rw[Huq.out];exact HS.out s.row hrm)) (fun V ho=>ho.2.2)).mono ?_;rintro e wq ⟨rfl,os2,hq2,hg2⟩;have HQ3:=znd hq2;have HG3:=znd hg2;clear hq2 hg2)))
   all_goals
    clear c cr
    go_wp2_with fail
    go_roundw
    case rel=>exact⟨i+1,_,os2,by go_num,by omega,HW2,HS2,HQ3,znd (by with_reducible first|exact HG3.out.imp (fun _ h=>h) (fun _ h=>h.1)|exact HG3.out.drew.imp (fun _ h=>h) (fun _ h=>h.1))⟩
    case measure=>(simp[intOf]<;>omega)
  ·obtain rfl:m=i:=by omega
   have HWm:=znd (show F=fwd (ss.map SpV.toP) (fun j=>getQ (ts.map plq) (j:Int))from by have h9:=HW.out;rw[List.drop_eq_nil_of_le (by rw[HP.out.len];exact Nat.le_refl _)]at h9;exact h9)
   have hnu:¬(m:Int)<(m:Int):=by omega
   have c:=Blk.cb (HLB.out _ HG.out.o.1)
   go_wp2_with fail
   clear c
   rw[zbo _ m (by omega)]
   obtain⟨W6,gx,hW6,hgx,HG2⟩:=HG.out.al4 m (by omega)
   rw[hW6,hgx]
   clear hW6 hgx HG
   obtain⟨X,hX⟩:∃X:Option Addr,X=some ⟨gx,0,none⟩:=⟨_,rfl⟩
   rw[←hX]at HG2⊢
   have HX:=znd hX
   have slX:Sl X m:=by rw[hX];exact Sl.some_ _ _ _
   clear hX
   have HG:=znd (show GL w [⟨48,4,.slice X m m,List.map za0 (zaH m)⟩,⟨48,4,.slice B m cp,List.map za0 os⟩] (fun V=>LuD gf m As cs ss V∧LsR 5 tecells (teD n) A ts V∧Tz V) (fun V=>(∀p∈(zaH m),roN p V)∧(∀p∈os,roN p V)) W6 from HG2.out.imp (fun _ h=>h) (fun V h=>⟨zbS m V,h⟩))
   clear HG2
   have c:=Blk.cb (HLB.out _ HG.out.o.1)
   go_upto_region 13 with fail
   clear c
   go_loopw [58] (fun iv wr=>∃(i:Nat) (xs:List (RV×Rat)),iv=.int .i64 (i:Int)∧i≤m∧Hid (SetQ m xs (bwd m F ((ss.drop (m-i)).map SpV.toP)))∧Hid (∀j,j<m→Sz ((bwd m F ((ss.drop (m-i)).map SpV.toP)) j) (szX (szF nb nt m) nl m i))∧Hid (GL w [⟨48,4,.slice X m m,List.map za0 xs⟩,⟨48,4,.slice B m cp,List.map za0 os⟩] (fun V=>LuD gf m As cs ss V∧LsR 5 tecells (teD n) A ts V∧Tz V) (fun V=>(∀p∈xs,roN p V)∧(∀p∈os,roN p V)) wr)) (fun iv _=>m-(intOf iv).toNat)
   case atStart=>exact⟨0,zaH m,rfl,Nat.zero_le _,znd (by rw[List.drop_eq_nil_of_le (by rw[HP.out.len];omega)];exact SetQ.zero m),znd (fun j hj=>by rw[List.drop_eq_nil_of_le (by rw[HP.out.len];omega)];exact zaM),HG⟩
   case round=>
    clear HG
    obtain⟨i,xs,rfl,hi,HXI,HXS,HG⟩:=hrel
    by_cases hlt:i<m
    ·obtain⟨k,hk⟩:∃k,m=k+1+i:=⟨m-1-i,by omega⟩
     have hks:k<ss.length:=by rw[HP.out.len];omega
     have c0:=HG.out.o.1.st.sc k hks
     have hd1:m-i=k+1:=by omega
     have hd2:m-(i+1)=k:=by omega
     have hw1:IntKind.i64.wrap ((m:Int)-1)=((m:Int)-1):=by rw[IntKind.wrap_i64];omega
     have hw2:IntKind.i64.wrap ((m:Int)-1-(i:Int))=(k:Int):=by rw[IntKind.wrap_i64];omega
     have hk1:(0:Int)≤(k:Int):=by omega
     have hk2:(k:Int)<(m:Int):=by omega
     obtain⟨s,hs⟩:∃s,s=ss[k]:=⟨_,rfl⟩
     have Hm:=znd (show s∈ss by rw[hs];exact List.getElem_mem hks)
     have HBW:=znd (show bwd m F ((ss.drop k).map SpV.toP)=fun j=>if j=s.col then(F s.row-sumN (fun j=>getQ (s.rest.map plq) (j:Int)*bwd m F ((ss.drop (k+1)).map SpV.toP) j) m)/s.q else bwd m F ((ss.drop (k+1)).map SpV.toP) j from by rw[List.drop_eq_getElem_cons hks,←hs];rfl)
     have HGb:=HG.out.box 150 #[.int .i64 0,.int .i64 0,.bool false,.slice none 0 0,.bool false,.slice none 0 0,.slice none 0 0,.slice none 0 0]
     have c2:=Blk.cb (HLB.out _ HGb.o.1)
     have c02:=HGb.o.1.st.sc k hks
     have cb2:=Blk.cb HGb.n.1
     rw[←hs]at c0 c02
     rw[hd1]at HXI HXS
     have Hk:=znd hk
     clear hs hks hk hd1
     have c:=Blk.cb (HLB.out _ HG.out.o.1)
     have HE:=znd HG.out.env
     go_upto_region 15 with fail
     go_region
     obtain⟨W8,gs,hW8,hgs,HG2⟩:=HG.out.al 150 #[.int .i64 s.row,.int .i64 s.col,.bool s.r.num.neg,.slice s.r.num.A s.r.num.k s.r.num.c,.bool s.r.den.neg,.slice s.r.den.A s.r.den.k s.r.den.c,.slice s.rA s.rest.length s.rc,.slice s.tA s.taken.length s.tc]
     rw[hW8,hgs]
     clear hW8 hgs HG HE HGb c c2 c02 cb2 c0
     replace HG:=znd HG2.out.drew
     clear HG2
     generalize W8.drew=W9 at HG⊢
     have hrm:s.row<m:=HP.out.row s Hm.out
     have hcm:s.col<m:=HP.out.col s Hm.out
     have hro:s.row<os.length:=by rw[HI.out.n];exact hrm
     have hco:s.col<xs.length:=by rw[HXI.out.n];exact hcm
     have hpz:(0:Int)≤(s.row:Int):=by omega
     have hpm2:(s.row:Int)<(m:Int):=by omega
     have hcz:(0:Int)≤(s.col:Int):=by omega
     have hcm2:(s.col:Int)<(m:Int):=by omega
     obtain⟨u,hu⟩:∃u,u=os[s.row]:=⟨_,rfl⟩
     have Huo:=znd (show u∈os from by rw[hu];exact List.getElem_mem hro)
     have Huq:=znd (show u.2=F s.row from by rw[hu];exact HI.out.q s.row hro)
     have HRC:=znd (show∀V {nw:World→Prop},GL w [⟨48,4,.slice X m m,List.map za0 xs⟩,⟨48,4,.slice B m cp,List.map za0 os⟩] (fun V=>LuD gf m As cs ss V∧LsR 5 tecells (teD n) A ts V∧Tz V) nw V→RC B s.row u V from fun V _ h=>by rw[hu];exact h.rc (k:=1) rfl hro)
     clear hu
     go_upto_region 16 with fail
     have hsx:szX (szF nb nt m) nl m (i+1)≤100000000000:=Nat.le_trans (zdM _ _ _ (show i+1≤m by omega)) hzx
     rw[szX]at hsx
     have hs1:1≤szF nb nt m:=Nat.le_trans h1b (zib nb nt (Nat.zero_le m))
     have hs2:1≤szX (szF nb nt m) nl m i:=zdM (szF nb nt m) nl m (Nat.zero_le i)
     have HXZ:=znd (show∀p∈xs,Sz p.2 (szX (szF nb nt m) nl m i)from fun p hp=>by
      obtain⟨j,hj,rfl⟩:=List.mem_iff_getElem.1 hp
      rw[HXI.out.q j hj];exact HXS.out j (by rw[←HXI.out.n];exact hj))
     have HXD:=znd (show∀V,roN u V→RatD u.1 (F s.row) (szF nb nt m) V from fun V h=>by rw[←Huq.out];exact RatN.rat (show RatN u.1 u.2 V from h) (by rw[Huq.out];exact HS.out s.row hrm))
     have HQZ:=znd (show Sz (F s.row-subQ (bwd m F ((ss.drop (k+1)).map SpV.toP)) s.rest) (szF nb nt m+m*(nl+szX (szF nb nt m) nl m i+3))from by have h9:=zew (HS.out s.row hrm) (HP.out.rest s Hm.out).sz (fun t ht=>HXS.out t.pl.toNat (by have:=(HP.out.rest s Hm.out).pl t ht;omega)) s.rest.length (Nat.le_refl _);rw[List.take_length]at h9;exact h9.up (Nat.add_le_add_left (Nat.mul_le_mul_right _ (HP.out.rest s Hm.out).len) _))
     have HNB:=znd (show bwd m F ((ss.drop (m-(i+1))).map SpV.toP)=fun j=>if j=s.col then(F s.row-subQ (bwd m F ((ss.drop (k+1)).map SpV.toP)) s.rest)/s.q else(bwd m F ((ss.drop (k+1)).map SpV.toP)) j from by rw[hd2,HBW.out,zgv (HP.out.rest s Hm.out)])
     refine wp_region_noPanic ?_
     refine zab 16 (fun V=>CB gs #[.int .i64 s.row,.int .i64 s.col,.bool s.r.num.neg,.slice s.r.num.A s.r.num.k s.r.num.c,.bool s.r.den.neg,.slice s.r.den.A s.r.den.k s.r.den.c,.slice s.rA s.rest.length s.rc,.slice s.tA s.taken.length s.tc] V∧RC B s.row u V) (by kernel_rfl) (by with_reducible first|exact⟨Blk.cb HG.out.n.1,HRC.out _ HG.out⟩|exact⟨Blk.cb HG.out.drew.n.1,HRC.out _ HG.out.drew⟩|exact⟨Blk.cb HG.out.n.2.1,HRC.out _ HG.out⟩|exact⟨Blk.cb HG.out.drew.n.2.1,HRC.out _ HG.out.drew⟩|exact⟨Blk.cb HG.out.n.2.2.1,HRC.out _ HG.out⟩|exact⟨Blk.cb HG.out.drew.n.2.2.1,HRC.out _ HG.out.drew⟩) (fun hHeld=>?_)
     replace HG:=znd HG.out.drew
     refine gTa 0 74 hHeld ?_
     refine gTa 1 75 hHeld ?_
     refine gTa 2 76 hHeld ?_
     refine gTa 3 77 hHeld ?_
     refine gTa 4 78 hHeld ?_
     refine gTa 5 79 hHeld ?_
     refine gTa 6 80 hHeld ?_
     refine gTa 7 81 hHeld ?_
     refine gTa 8 82 hHeld ?_
     refine gTa 9 83 hHeld ?_
     refine gTa 10 84 hHeld ?_
     refine gTa 12 86 hHeld ?_
     refine gTa 13 87 hHeld ?_
     refine gC 11 rfl (by kernel_rfl) (by rfl) (fun K hK=>?_)
     clear hHeld
     simp only[q1,q2,q3]
     go_simp
     refine(show Calls Tryz.prog 112 #[.agg #[.bool u.1.num.neg,.slice u.1.num.A u.1.num.k u.1.num.c,.bool u.1.den.neg,.slice u.1.den.A u.1.den.k u.1.den.c],.slice s.rA s.rest.length s.rc,.slice X m m] _ (zeK u.1 (F s.row) (F s.row-subQ (bwd m F ((ss.drop (k+1)).map SpV.toP)) s.rest) _)from by have h9:=zgO _ (szF nb nt m) nl (szX (szF nb nt m) nl m i) (szF nb nt m+m*(nl+szX (szF nb nt m) nl m i+3)) (by omega) (by omega) h1l (by omega) u.1 (F s.row) (HXD.out _ (HG.out.n.2.2 u Huo.out)) s.rA s.rc s.rest (LsR.imp (HG.out.o.1.st.ok s Hm.out).2.1 (fun t ht h=>RatN.rat h ((HP.out.rest s Hm.out).sz t ht))) X m xs ⟨(show OwnE _ w.heap.size 48 4 (.slice X m m) (xs.map za0)from HG.out.own _ (List.mem_cons_self ..)).el.1,fun p hp=>RatN.rat (HG.out.n.2.1 p hp) (HXZ.out p hp)⟩ m (bwd m F ((ss.drop (k+1)).map SpV.toP)) HXI.out (HP.out.rest s Hm.out).pl (Nat.add_le_add_left (Nat.mul_le_mul_right _ (HP.out.rest s Hm.out).len) _) HG.out.o.2.2;rw[HXI.out.n]at h9;exact h9).mono ?_
     rintro e wq ⟨k1,rfl,hk9,hb9⟩
     replace HG:=znd (HG.out.call hk9 hb9)
     clear hk9 hb9
     have HK1:=znd (show RatD k1 (F s.row-subQ (bwd m F ((ss.drop (k+1)).map SpV.toP)) s.rest) (szF nb nt m+m*(nl+szX (szF nb nt m) nl m i+3)) wq from by
      rcases HG.out.n.1 with⟨h1,h2⟩|h
      ·rw[h1,h2];exact(HXD.out _ (HG.out.n.2.2.2 u Huo.out)).mono9 (by omega)
      ·exact RatN.rat h HQZ.out)
     (try(go_wp2_with fail))
     refine hK.out _ _ (by with_reducible first|exact⟨Blk.cb HG.out.n.1,HRC.out _ HG.out⟩|exact⟨Blk.cb HG.out.drew.n.1,HRC.out _ HG.out.drew⟩|exact⟨Blk.cb HG.out.n.2.1,HRC.out _ HG.out⟩|exact⟨Blk.cb HG.out.drew.n.2.1,HRC.out _ HG.out.drew⟩|exact⟨Blk.cb HG.out.n.2.2.1,HRC.out _ HG.out⟩|exact⟨Blk.cb HG.out.drew.n.2.2.1,HRC.out _ HG.out.drew⟩) (fun hHeld=>?_)
     clear hK K
     try simp only[p1,p2,p3,p4]
     refine gC 14 rfl (by kernel_rfl) (by rfl) (fun K hK=>?_)
     clear hHeld
     simp only[q1,q2,q3]
     go_simp
     refine(zeD _ k1 s.r (F s.row-subQ (bwd m F ((ss.drop (k+1)).map SpV.toP)) s.rest) s.q (szF nb nt m+m*(nl+szX (szF nb nt m) nl m i+3)+nl) (by omega) (by omega) (HK1.out.mono9 (by omega)) ((RatN.rat (HG.out.o.1.st.ok s Hm.out).1 (HP.out.szq s Hm.out)).mono9 (by omega)) HG.out.o.2.2).mono ?_
     rintro e wq ⟨k2,rfl,hk9,hb9⟩
     replace HG:=znd (HG.out.call hk9 hb9)
     clear hk9 hb9
     (try(go_wp2_with fail))
     refine hK.out _ _ (by with_reducible first|exact⟨Blk.cb HG.out.n.1,HRC.out _ HG.out⟩|exact⟨Blk.cb HG.out.drew.n.1,HRC.out _ HG.out.drew⟩|exact⟨Blk.cb HG.out.n.2.1,HRC.out _ HG.out⟩|exact⟨Blk.cb HG.out.drew.n.2.1,HRC.out _ HG.out.drew⟩|exact⟨Blk.cb HG.out.n.2.2.1,HRC.out _ HG.out⟩|exact⟨Blk.cb HG.out.drew.n.2.2.1,HRC.out _ HG.out.drew⟩) (fun hHeld=>?_)
     clear hK K
     try simp only[p1,p2,p3,p4]
     refine gTa 15 89 hHeld ?_
     have fr:=HG.out.free HX.out (k:=0) rfl
     have rcx:=HG.out.rc (k:=0) rfl hco
     have hadd2:∀(n j:Nat),(⟨(adr X n).block,(adr X n).off+j,none⟩:Addr)=adr X (n+j):=fun n j=>by unfold adr;simp[Nat.add_assoc]
     have hs01:=za1 X (show s.col*4≠s.col*4+1 by omega)
     have hs02:=za1 X (show s.col*4≠s.col*4+2 by omega)
     have hs03:=za1 X (show s.col*4≠s.col*4+3 by omega)
     have hs12:=za1 X (show s.col*4+1≠s.col*4+2 by omega)
     have hs13:=za1 X (show s.col*4+1≠s.col*4+3 by omega)
     have hs23:=za1 X (show s.col*4+2≠s.col*4+3 by omega)
     refine gL rfl (by kernel_rfl) (by kernel_rfl) (by rfl) (fun K hK=>?_)
     clear hHeld
     simp only[q1,q2,q3]
     go_simp
     (try(go_wp2_with fail))
     refine hK.out _ _ ?_
     clear hK K
     try simp only[p1,p2,p3,p4]
     refine NoPanic.normal ?_
     clear rcx fr hadd2 hs01 hs02 hs03 hs12 hs13 hs23
     replace HG:=znd (HG.out.putR HX.out (k:=0) rfl hco k2 ((F s.row-subQ (bwd m F ((ss.drop (k+1)).map SpV.toP)) s.rest)/s.q))
     go_wp2_with fail
     go_roundw
     case rel=>exact⟨i+1,xs.set s.col (k2,(F s.row-subQ (bwd m F ((ss.drop (k+1)).map SpV.toP)) s.rest)/s.q),by go_num,by omega,znd (by rw[HNB.out];exact HXI.out.put (by show _=if s.col=s.col then _ else _;rw[if_pos rfl]) (fun j _ hj=>by show(if j=s.col then _ else _)=_;rw[if_neg hj])),znd (fun j hj=>by
      rw[HNB.out]
      show Sz (if j=s.col then _ else _) _
      split
      ·exact(HQZ.out.quo (HP.out.szq s Hm.out)).up (by rw[szX];omega)
      ·exact(HXS.out j hj).up (zdM _ _ _ (Nat.le_succ i))),znd (HG.out.imp (fun _ h=>h) (fun V h=>⟨zb2 (P:=fun p=>roN p V) h.2.2.2.1 h.1,h.2.2.2.2⟩))⟩
     case measure=>(simp[intOf]<;>omega)
    ·obtain rfl:m=i:=by omega
     have hnu2:¬(m:Int)<(m:Int):=by omega
     have HXF:=znd (show SetQ m xs (bwd m F (ss.map SpV.toP))from by have h9:=HXI.out;rw[Nat.sub_self]at h9;exact h9)
     have HZ9:=znd (show∀p∈xs,Sz p.2 (szX (szF nb nt m) nl m m)from fun p hp=>by
      obtain⟨j,hj,e9⟩:=List.mem_iff_getElem.1 hp
      rw[←e9,HXI.out.q j hj];exact HXS.out j (by rw[←HXI.out.n];exact hj))
     have HXL:=znd (show LsR 4 za0 (roD 100000000000) X xs wr from⟨(show OwnE wr w.heap.size 48 4 (.slice X m m) (xs.map za0)from HG.out.own _ (List.mem_cons_self ..)).el.1,fun p hp=>by
      exact RatN.rat (HG.out.n.1 p hp) ((HZ9.out p hp).up hzx)⟩)
     go_wp2_with fail
     refine(show Calls Tryz.prog 35 #[.slice X m m] _ (RetVec (((ofT xs).map plq).filter nzP) _)from by have h9:=zdY _ 100000000000 (Nat.le_refl _) (by omega) X m xs HXL.out (by rw[HXI.out.n];exact hm) HG.out.o.2.2;rw[HXI.out.n]at h9;exact h9).mono ?_
     intro e w9 hret
     have HR:=znd (hret.up HG.out.bel)
     obtain⟨A9,c9,us,rfl,-⟩:=hret
     go_wp2_with fail
     exact bodyPost_ret (v:=.tuple #[.slice A9 us.length c9,.int .i64 0]) (by simp[results,Tryz.results75,go_sem]) rfl ⟨xs,.slice A9 us.length c9,rfl,by rw[←HWm.out];exact HXF.out,HZ9.out,HR.out⟩
end Go.Proofs.YtfdmajmhmligpaaGreatDoor
