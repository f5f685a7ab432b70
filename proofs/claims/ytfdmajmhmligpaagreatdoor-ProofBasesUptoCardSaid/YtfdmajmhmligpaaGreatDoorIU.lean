/-
 basis: copied, none, New. (*basis.Basis).Ftran, Btran, with no exchange done.
-/
import Derived.Test.YtfdmajmhmligpaaGreatDoorIS
import Derived.Test.YtfdmajmhmligpaaGreatDoorIM
namespace Go.Proofs.YtfdmajmhmligpaaGreatDoor
set_option maxHeartbeats 4000000
open Go.RowKit

structure BaV where
 gb:Nat
 gf:Nat
 Ab:Option Addr
 lb:Nat
 cb:Nat
 As:Option Addr
 cs:Nat
 ss:List SpV
structure BaD (n:Nat) (b:BaV) (V:World):Prop where
 blk:Blk V b.gb 116 #[.slice b.Ab b.lb b.cb,.int .i64 (n:Int),.int .i64 1,.pointer (some ⟨b.gf,0,none⟩),.slice none 0 0]
 lu:LuD b.gf n b.As b.cs b.ss V
theorem BaD.old {n:Nat} {b:BaV} {w:World} (h:BaD n b w):Rests w (·<w.heap.size) (BaD n b):=(h.blk.rests.and h.lu.old).imp fun _ h=>⟨h.1,h.2⟩
def zmV (w:World) (n:Nat) (e:Ending) (w':World):Prop:=∃A c,e=.returned (.slice A n c)∧Below w.heap.size w w'
def zmN (n n0:Nat) (cols:List VeV) (w:World) (e:Ending) (w':World):Prop:=
 ∃(ok:Bool) (b:BaV),e=.returned (.tuple #[if ok then .pointer (some ⟨b.gb,0,none⟩) else .pointer none,.int .i64 (if ok then 0 else 12)])∧Below w.heap.size w w'∧
  (ok=true→Fac n (colM cols) (·<n) (b.ss.map SpV.toP)∧LuP n (nlF n0 (n-1)) (2*nlF n0 (n-1)+1) b.ss∧Rests w' (w.heap.size≤·) (BaD n b))∧(ok=false→Sing n (colM cols))
set_option maxRecDepth 100000 in
theorem zh3 (w:World) (n n0:Nat) (hn:n≤17) (h1n:1≤n0) (hn0:n0≤100000000) (Cp:Option Addr) (cc:Nat) (cols:List VeV) (h:LsR 1 za3 (veD n0) Cp cols w) (hcl:cols.length=n) (hR:∀v∈cols,Rise v.ts∧v.ts.length≤20) (hT:Tz w):Calls Tryz.prog 108 #[.slice Cp n cc] w (zmV w n):=by
 have slC:=h.sl
 have szc:=zaw
 have szv:=zai
 have hadd:=zaa
 have HR0:=znd hR
 have Hcl:=znd hcl
 rw[hcl]at slC
 have HG:=znd (show GL w [] (fun V=>LsR 1 za3 (veD n0) Cp cols V∧Tz V) (fun _=>True) w from(GL.start (Env.start ((h.old zeE).and hT.old))).imp (fun _ h=>h.2) (fun _ h=>h))
 clear h hcl hT hR
 go_enter Tryz.func108,Tryz.ntmps108
 go_wp2_with fail
 rw[ze3 _ n (by omega)]
 obtain⟨W1,gR,hW1,hgR,HG1⟩:=HG.out.adz 25 (Value.slice none 0 0).cells 1 n rfl (by decide) (by omega)
 rw[hW1,hgR]
 clear hW1 hgR HG
 obtain⟨R,hR⟩:∃R:Option Addr,R=some ⟨gR,0,none⟩:=⟨_,rfl⟩
 rw[←hR]at HG1⊢
 have HR:=znd hR
 have slR:Sl R n:=by rw[hR];exact Sl.some_ _ _ _
 clear hR
 have HG:=znd (show GL w [⟨25,1,.slice R n n,List.map za3 (List.replicate n ⟨none,0,[]⟩)⟩] (fun V=>LsR 1 za3 (veD n0) Cp cols V∧Tz V) (fun _=>True) W1 from by rw[List.map_replicate];exact HG1.out)
 clear HG1
 go_wp2_with fail
 go_loopw [11] (fun iv wr=>∃(i:Nat) (vs:List VeV),iv=.int .i64 (i:Int)∧i≤n∧Hid (vs.length=n)∧Hid (GL w [⟨25,1,.slice R n n,List.map za3 vs⟩] (fun V=>LsR 1 za3 (veD n0) Cp cols V∧Tz V) (fun _=>True) wr)) (fun iv _=>n-(intOf iv).toNat)
 case atStart=>exact⟨0,_,rfl,Nat.zero_le _,znd (by simp),HG⟩
 case round=>
  clear HG
  obtain⟨i,vs,rfl,hi,HL,HG⟩:=hrel
  by_cases hlt:i<n
  ·have hic:i<cols.length:=by rw[Hcl.out];exact hlt
   have hiv:i<vs.length:=by rw[HL.out];exact hlt
   have cv:=HG.out.o.1.vc i hic
   obtain⟨v,hv⟩:∃v,v=cols[i]:=⟨_,rfl⟩
   have Hm:=znd (show v∈cols by rw[hv];exact List.getElem_mem hic)
   rw[←hv]at cv
   clear hv
   go_wp2_with fail
   refine(zbe _ n0 (by omega) h1n v.A v.c v.ts (HG.out.o.1.ok v Hm.out) (HR0.out v Hm.out).2 (HR0.out v Hm.out).1 HG.out.o.2).mono ?_
   rintro e w1 ⟨A2,c2,us,rfl,-,-,hk9,hb9⟩
   replace HG:=znd (HG.out.skip hb9)
   clear hk9 hb9 cv
   have cc:=HG.out.vc (k:=0) rfl hiv
   have fc:=HG.out.free HR.out (k:=0) rfl i
   have HS:=znd (HG.out.putV HR.out (k:=0) rfl hiv ⟨A2,c2,us⟩)
   go_wp2_with fail
   go_roundw
   case rel=>exact⟨i+1,vs.set i ⟨A2,c2,us⟩,by go_num,by omega,znd (by rw[List.length_set];exact HL.out),HS⟩
   case measure=>(simp[intOf]<;>omega)
  ·obtain rfl:n=i:=by omega
   have hnu:¬(n:Int)<(n:Int):=by omega
   go_wp2_with fail
   go_ret
   exact⟨_,_,rfl,HG.out.bel⟩
set_option maxRecDepth 100000 in
theorem zfb (w:World) (n:Nat) (b:BaV) (h:Blk w b.gb 116 #[.slice b.Ab b.lb b.cb,.int .i64 (n:Int),.int .i64 1,.pointer (some ⟨b.gf,0,none⟩),.slice none 0 0]):Calls Tryz.prog 74 #[.pointer (some ⟨b.gb,0,none⟩)] w fun e w'=>e=.returned (.bool false)∧Below w.heap.size w w':=by
 have c:=Blk.cb h
 have hb:=znd (Below.refl w.heap.size w)
 go_enter Tryz.func74,Tryz.ntmps74
 go_wp2_with fail
 go_ret
 exact⟨rfl,Below.refl _ _⟩
set_option maxRecDepth 100000 in
theorem zlj (w:World) (n n0:Nat) (hn:n≤17) (h1n:1≤n0) (hnl:nlF n0 n≤100000000) (Cp:Option Addr) (cc:Nat) (cols:List VeV) (h:LsR 1 za3 (veD n0) Cp cols w) (hcl:cols.length=n) (hR:∀v∈cols,RightP v.ts (n:Int) w) (hT:Tz w):Calls Tryz.prog 72 #[.slice Cp n cc,.int .i64 (n:Int),.int .i64 1] w (zmN n n0 cols w):=by
 have HR0:=znd hR
 have Hcl:=znd hcl
 have HE:=znd (Env.start ((h.old zeE).and hT.old))
 have HVW:=znd (show∀v∈cols,LsR 5 tecells (teD n0) v.A v.ts w from h.ok)
 have HLN:=znd (show∀v∈cols,Rise v.ts∧v.ts.length≤20 from fun v hv=>⟨(hR v hv).rise,by have h9:=VecP.len (m:=n) (nl:=n0) (ts:=v.ts) ⟨(hR v hv).rise,(hR v hv).rng,fun t ht=>RatD.sz ((h.ok v hv).ok t ht) h1n⟩;omega⟩)
 clear h hcl hT hR
 have hn00:n0≤100000000:=Nat.le_trans (zcF n0 (Nat.zero_le n)) hnl
 go_enter Tryz.func72,Tryz.ntmps72
 go_wp2_with fail
 refine(zhr _ n n0 hn h1n hnl Cp cc cols HE.out.o.1 Hcl.out HR0.out HE.out.o.2).mono ?_
 rintro e w1 ⟨ok,gf,As,cs,ss,rfl,hb,h1,h2⟩
 cases ok
 ·have HS:=znd (h2 rfl)
  replace HE:=znd (Env.call HE.out hb)
  clear h1 h2 hb
  go_wp2_with fail
  exact bodyPost_ret (v:=.tuple #[.pointer none,.int .i64 12]) (by simp[results,Tryz.results72,go_sem]) rfl ⟨false,⟨0,0,none,0,0,none,0,[]⟩,rfl,HE.out.bel,fun h=>absurd h (by decide),fun _=>HS.out⟩
 ·have HF:=znd (h1 rfl)
  replace HE:=znd (Env.ret HE.out HF.out.2.2 hb)
  clear h1 h2 hb
  go_wp2_with fail
  refine(zh3 _ n n0 hn h1n hn00 Cp cc cols HE.out.o.1 Hcl.out HLN.out HE.out.o.2).mono ?_
  rintro e w2 ⟨A2,c2,rfl,hb⟩
  replace HE:=znd (Env.call HE.out hb)
  clear hb
  obtain⟨W3,gb,hW3,hgb,HE3⟩:=Env.al HE.out 116 #[.slice A2 n c2,.int .i64 (n:Int),.int .i64 1,.pointer (some ⟨gf,0,none⟩),.slice none 0 0]
  go_wp2_with fail
  clear hW3 hgb
  exact bodyPost_ret (v:=.tuple #[.pointer (some ⟨gb,0,none⟩),.int .i64 0]) (by simp[results,Tryz.results72,go_sem]) rfl ⟨true,⟨gb,gf,A2,n,c2,As,cs,ss⟩,rfl,HE3.out.bel,fun _=>⟨HF.out.1,HF.out.2.1,HE3.out.made.imp fun V h=>⟨h.1 _ (List.mem_cons_self ..),h.2.1⟩⟩,fun h=>absurd h (by decide)⟩

structure SolP (n N:Nat) (F:Nat→Rat) (us:List TeV):Prop where
 rise:Rise us
 len:us.length≤n
 pl:∀t∈us,0≤t.pl∧t.pl<(n:Int)
 q:∀j:Nat,getQ (us.map plq) (j:Int)=if j<n then F j else 0
 sz:∀t∈us,Sz t.q N
def SolR (n N:Nat) (P:(Nat→Rat)→Prop) (w:World) (e:Ending) (w':World):Prop:=∃(A:Option Addr) (c:Nat) (us:List TeV) (F:Nat→Rat),e=.returned (.tuple #[.slice A us.length c,.int .i64 0])∧SolP n N F us∧P F∧Rests w' (w.heap.size≤·) (LsR 5 tecells teN A us)∧Below w.heap.size w w'
theorem SolP.of {n N:Nat} {F:Nat→Rat} {xs:List (RV×Rat)} {us:List TeV} (h:SetQ n xs F) (hs:∀p∈xs,Sz p.2 N) (hu:us.map plq=vecL xs):SolP n N F us:=by
 refine⟨zfT hu,by rw[←h.n];exact zgG hu,fun t ht=>?_,fun j=>?_,zfQ hu hs⟩
 ·have h1:=List.mem_map_of_mem (f:=plq) ht
  rw[hu]at h1
  obtain⟨x,hx,e⟩:=List.mem_map.1 (List.mem_filter.1 h1).1
  obtain⟨i,hi,rfl⟩:=List.mem_iff_getElem.1 hx
  have hi':i<xs.length:=by rwa [zbw]at hi
  rw[zem xs i hi']at e
  have e1:(i:Int)=t.pl:=congrArg Prod.fst e
  rw[←e1,←h.n];omega
 ·rw[hu,zbY]
  by_cases hj:j<n
  ·rw[if_pos hj,zbK xs j (by rw[h.n];exact hj)];exact h.q j (by rw[h.n];exact hj)
  ·rw[if_neg hj];exact zce xs j (.inr (by rw[h.n];omega))
theorem SolP.told {n N:Nat} {F:Nat→Rat} {xs:List (RV×Rat)} {v:Value} {w w':World} (h:SetQ n xs F) (hs:∀p∈xs,Sz p.2 N) (hv:RetVec (vecL xs) w (.returned v) w'):∃A c us,v=.slice A (List.length us) c∧SolP n N F us∧Rests w' (w.heap.size≤·) (LsR 5 tecells teN A us)∧Below w.heap.size w w':=by
 obtain⟨A,c,us,e,-,hm,h1,h2⟩:=hv
 injection e with e
 exact⟨A,c,us,e,.of h hs hm,h1,h2⟩
theorem SolP.d {n N:Nat} {F:Nat→Rat} {us:List TeV} {A:Option Addr} {V:World} (h:SolP n N F us) (hr:LsR 5 tecells teN A us V):LsR 5 tecells (teD N) A us V:=LsR.imp hr fun t ht h'=>RatN.rat h' (h.sz t ht)
set_option maxRecDepth 100000 in
theorem zh4 (w:World) (n n1 nb nl nt:Nat) (hn1:n1≤100000000000) (h1n:1≤n1) (h1l:1≤nl) (h1t:1≤nt) (h1b:1≤nb) (hnl:nl≤100000000) (hnt:nt≤100000000) (b:BaV) (h:BaD n b w) (cols:List VeV) (hF:Fac n (colM cols) (·<n) (b.ss.map SpV.toP)) (hp:LuP n nl nt b.ss) (hm:n≤17) (hz:szF nb nt n≤100000000) (hzx:szX (szF nb nt n) nl n n≤100000000000) (A:Option Addr) (c0:Nat) (ts:List TeV) (h':LsR 5 tecells (teD n1) A ts w) (ht:Rise ts) (hl:ts.length≤20) (hpl:∀t∈ts,0≤t.pl∧t.pl<(n:Int)) (HSB:Hid (∀j,j<n→Sz (getQ (ts.map plq) (j:Int)) nb)) (hT:Tz w):Calls Tryz.prog 38 #[.pointer (some ⟨b.gb,0,none⟩),.slice A ts.length c0] w (SolR n (szX (szF nb nt n) nl n n) (fun F=>∀i,i<n→sumN (fun k=>colM cols i k*F k) n=getQ (ts.map plq) (i:Int)) w):=by
 have sl1:=h'.sl
 have szr:=zal
 have szv:=zai
 have hadd:=zaa
 have HP:=znd hp
 have HFa:=znd hF
 have Hrt:=znd ht
 have Hpl:=znd hpl
 have HE:=znd (Env.start (h.old.and ((h'.old zah).and hT.old)))
 clear h h' hT hp ht hpl hF
 go_enter Tryz.func38,Tryz.ntmps38
 go_wp2_with fail
 refine(zfb _ n b HE.out.o.1.blk).mono ?_
 rintro e w1 ⟨rfl,hb⟩
 replace HE:=znd (Env.call HE.out hb)
 clear hb
 have c:=Blk.cb HE.out.o.1.blk
 go_wp2_with fail
 refine(zjn _ n1 nb nl nt hn1 h1n h1l h1t h1b hnl hnt b.gf n b.As b.cs b.ss HE.out.o.1.lu HP.out (by omega) hz hzx A c0 ts HE.out.o.2.1 Hrt.out hl Hpl.out HSB HE.out.o.2.2).mono ?_
 rintro e w2 ⟨xs,v,rfl,hq,hs,hret⟩
 obtain⟨A2,c2,us,rfl,hsol,hk9,hb9⟩:=SolP.told hq hs hret
 have HSO:=znd hsol
 replace HE:=znd (Env.ret HE.out hk9 hb9)
 clear hq hs hret hsol hk9 hb9 c
 have c:=Blk.cb HE.out.o.1.blk
 go_wp2_with fail
 refine(zcp _ (szX (szF nb nt n) nl n n) hzx (show 1≤(szX (szF nb nt n) nl n n)from zdM (szF nb nt n) nl n (Nat.zero_le n)) A2 c2 us (HSO.out.d HE.out.n.1) HSO.out.rise (by have:=HSO.out.len;omega) n (by omega) HSO.out.pl HE.out.o.2.2).mono ?_
 rintro e w3 ⟨v3,rfl,B,cp,g,os,hB,rfl,hq3,hg3⟩
 have HG:=znd (show GL w [⟨48,4,.slice B n cp,List.map za0 os⟩] (fun V=>BaD n b V∧LsR 5 tecells (teD n1) A ts V∧Tz V) (fun V=>∀p∈os,roN p V) w3 from((GL.start HE.out).join hg3).imp (fun _ h=>h.2) (fun V h=>h.1))
 have HQ:=znd hq3
 have slB:Sl B n:=hB.2
 clear hB hq3 hg3 HE c
 have c:=Blk.cb HG.out.o.1.blk
 go_wp2_with fail
 clear c
 go_loopw [36] (fun iv wr=>iv=.int .i64 0∧Hid (GL w [⟨48,4,.slice B n cp,List.map za0 os⟩] (fun V=>BaD n b V∧LsR 5 tecells (teD n1) A ts V∧Tz V) (fun V=>∀p∈os,roN p V) wr)) (fun _ _=>0)
 case atStart=>exact⟨rfl,HG⟩
 case round=>
  clear HG
  obtain⟨rfl,HG⟩:=hrel
  go_wp2_with fail
  have HZ9:=znd (show∀p∈os,Sz p.2 (szX (szF nb nt n) nl n n)from fun p hp=>by
   obtain⟨j,hj,rfl⟩:=List.mem_iff_getElem.1 hp
   rw[HQ.out.q j hj]
   exact zb4 HSO.out.rise (zdM (szF nb nt n) nl n (Nat.zero_le n)) HSO.out.sz _)
  have HXL:=znd (show LsR 4 za0 (roD (szX (szF nb nt n) nl n n)) B os wr from⟨(show OwnE wr w.heap.size 48 4 (.slice B n cp) (os.map za0)from HG.out.own _ (List.mem_cons_self ..)).el.1,fun p hp=>RatN.rat (HG.out.n p hp) (HZ9.out p hp)⟩)
  refine(show Calls Tryz.prog 35 #[.slice B n cp] _ (RetVec (vecL os) _)from by have h9:=zdY _ (szX (szF nb nt n) nl n n) hzx (zdM (szF nb nt n) nl n (Nat.zero_le n)) B cp os HXL.out (by rw[HQ.out.n];omega) HG.out.o.2.2;rw[HQ.out.n]at h9;exact h9).mono ?_
  intro e w9 hret
  have HR:=znd (hret.up HG.out.bel)
  obtain⟨A9,c9,us9,rfl,-⟩:=hret
  obtain⟨A8,c8,us8,e8,hs8,hk8,hb8⟩:=SolP.told HQ.out HZ9.out HR.out
  obtain⟨rfl,hl8,rfl⟩:A9=A8∧us9.length=us8.length∧c9=c8:=by simpa using e8
  have HS8:=znd hs8
  have HK8:=znd hk8
  have HB8:=znd hb8
  clear e8 hs8 hk8 hb8
  rw[hl8]
  clear hl8
  go_wp2_with fail
  exact bodyPost_ret (v:=.tuple #[.slice A9 us8.length c9,.int .i64 0]) (by simp[results,Tryz.results38,go_sem]) rfl ⟨A9,c9,us8,_,rfl,HS8.out,fun i hi=>by
   rw[←zfj HFa.out (fun j=>getQ (ts.map plq) (j:Int)) i hi]
   refine zae fun k hk=>?_
   show colM cols i k*getQ (us.map plq) (k:Int)=_
   rw[HSO.out.q k,if_pos hk],HK8.out,HB8.out⟩
set_option maxRecDepth 100000 in
theorem zhB (w:World) (n n1 nb nl nt:Nat) (hn1:n1≤100000000000) (h1n:1≤n1) (h1l:1≤nl) (h1t:1≤nt) (h1b:1≤nb) (hnl:nl≤100000000) (hnt:nt≤100000000) (b:BaV) (h:BaD n b w) (cols:List VeV) (hF:Fac n (colM cols) (·<n) (b.ss.map SpV.toP)) (hp:LuP n nl nt b.ss) (hm:n≤17) (hz:szG nb nl n≤100000000) (hzx:szY (szG nb nl n) nt n n≤100000000000) (A:Option Addr) (c0:Nat) (ts:List TeV) (h':LsR 5 tecells (teD n1) A ts w) (ht:Rise ts) (hl:ts.length≤20) (hpl:∀t∈ts,0≤t.pl∧t.pl<(n:Int)) (HSB:Hid (∀j,j<n→Sz (getQ (ts.map plq) (j:Int)) nb)) (hT:Tz w):Calls Tryz.prog 40 #[.pointer (some ⟨b.gb,0,none⟩),.slice A ts.length c0] w (SolR n (szY (szG nb nl n) nt n n) (fun F=>∀k,k<n→sumN (fun i=>F i*colM cols i k) n=getQ (ts.map plq) (k:Int)) w):=by
 have sl1:=h'.sl
 have szr:=zal
 have szv:=zai
 have hadd:=zaa
 have HP:=znd hp
 have HFa:=znd hF
 have Hrt:=znd ht
 have Hpl:=znd hpl
 have HE:=znd (Env.start (h.old.and ((h'.old zah).and hT.old)))
 clear h h' hT hp ht hpl hF
 go_enter Tryz.func40,Tryz.ntmps40
 go_wp2_with fail
 refine(zfb _ n b HE.out.o.1.blk).mono ?_
 rintro e w1 ⟨rfl,hb⟩
 replace HE:=znd (Env.call HE.out hb)
 clear hb
 have c:=Blk.cb HE.out.o.1.blk
 go_wp2_with fail
 clear c
 refine(zbe _ n1 hn1 h1n A c0 ts HE.out.o.2.1 hl Hrt.out HE.out.o.2.2).mono ?_
 rintro e w2 ⟨A2,c2,us,rfl,-,hm2,hk9,hb9⟩
 have HU:=znd hm2
 replace HE:=znd ((Env.ret HE.out hk9 hb9).imp (φ:=fun V=>BaD n b V∧LsR 5 tecells (teD n1) A ts V∧Tz V) (ψ:=fun V=>LsR 5 tecells teN A2 us V) (fun _ h=>h) (fun _ h=>h.1))
 clear hm2 hk9 hb9
 have HUp:=znd (show∀u∈us,0≤u.pl∧u.pl<(n:Int)from fun u hu=>by
  have h1:=List.mem_map_of_mem (f:=plq) hu
  rw[HU.out]at h1
  obtain⟨t,ht,e9⟩:=List.mem_map.1 (List.mem_filter.1 h1).1
  have e2:t.pl=u.pl:=congrArg Prod.fst e9
  rw[←e2];exact Hpl.out t ht)
 have sl2:Sl A2 us.length:=HE.out.n.sl
 obtain⟨L,hL⟩:∃L,L=us.length:=⟨_,rfl⟩
 have HL:=znd hL
 rw[←hL]at sl2⊢
 have hL9:L≤20:=by have h9:=congrArg List.length HU.out;rw[List.length_map]at h9;have h8:=List.length_filter_le nzP (ts.map plq);rw[List.length_map]at h8;omega
 clear hL
 go_wp2_with fail
 go_loopw [15] (fun iv wr=>∃(i:Nat),iv=.int .i64 (i:Int)∧i≤L∧Hid (Env w [] (fun V=>BaD n b V∧LsR 5 tecells (teD n1) A ts V∧Tz V) (fun V=>LsR 5 tecells teN A2 us V) wr)) (fun iv _=>L-(intOf iv).toNat)
 case atStart=>exact⟨0,rfl,Nat.zero_le _,HE⟩
 case round=>
  clear HE
  obtain⟨i,rfl,hi,HE⟩:=hrel
  by_cases hlt:i<L
  ·have hlu:i<us.length:=by rw[←HL.out];exact hlt
   have c1:=HE.out.n.tc i hlu
   have HPq:=znd (HUp.out _ (List.getElem_mem hlu))
   obtain⟨t,ht⟩:∃t,t=us[i]:=⟨_,rfl⟩
   rw[←ht]at c1 HPq
   clear ht hlu
   obtain⟨tp,tr,tq⟩:=t
   obtain⟨p,rfl⟩:∃p:Nat,tp=(p:Int):=⟨tp.toNat,by have h9:=HPq.out.1;simp only at h9;omega⟩
   have hpm:p<n:=by have h9:=HPq.out.2;simp only at h9;omega
   have hpz:¬(p:Int)<0:=by omega
   have hpm2:¬(n:Int)≤(p:Int):=by omega
   go_upto_region 6 with fail
   obtain⟨W5,gt,hW5,hgt,HE⟩:=Env.al HE.out 65 #[.int .i64 (p:Int),.bool tr.num.neg,.slice tr.num.A tr.num.k tr.num.c,.bool tr.den.neg,.slice tr.den.A tr.den.k tr.den.c]
   rw[hW5,hgt]
   clear hW5 hgt c1
   have c:=Env.c1 HE.out
   have cf:=Blk.cb HE.out.o.1.blk
   go_quiet (fail)
   go_wp2_with fail
   go_roundw
   case rel=>exact⟨i+1,by go_num,by omega,znd (HE.out.drewN _).drop⟩
   case measure=>(simp[intOf]<;>omega)
  ·obtain rfl:i=L:=by omega
   have hnu:¬(i:Int)<(i:Int):=by omega
   have c:=Blk.cb HE.out.o.1.blk
   go_wp2_with fail
   refine(zcp _ n1 hn1 h1n A c0 ts HE.out.o.2.1 Hrt.out hl n (by omega) Hpl.out HE.out.o.2.2).mono ?_
   rintro e w3 ⟨v3,rfl,B,cp,g,os,hB,rfl,hq3,hg3⟩
   have HG:=znd (show GL w [⟨48,4,.slice B n cp,List.map za0 os⟩] (fun V=>BaD n b V∧LsR 5 tecells (teD n1) A ts V∧Tz V) (fun V=>∀p∈os,roN p V) w3 from((GL.start HE.out).join hg3).imp (fun _ h=>h.2) (fun V h=>h.1))
   have HQ:=znd hq3
   have slB:Sl B n:=hB.2
   clear hB hq3 hg3 HE c
   have c:=Blk.cb HG.out.o.1.blk
   go_wp2_with fail
   clear c
   go_loopw [43] (fun iv wr=>iv=.int .i64 0∧Hid (GL w [⟨48,4,.slice B n cp,List.map za0 os⟩] (fun V=>BaD n b V∧LsR 5 tecells (teD n1) A ts V∧Tz V) (fun V=>∀p∈os,roN p V) wr)) (fun _ _=>0)
   case atStart=>exact⟨rfl,HG⟩
   case round=>
    clear HG
    obtain⟨rfl,HG⟩:=hrel
    have HZ9:=znd (show∀p∈os,Sz p.2 nb from fun p hp=>by
     obtain⟨j,hj,rfl⟩:=List.mem_iff_getElem.1 hp
     rw[HQ.out.q j hj]
     exact HSB.out j (by rw[←HQ.out.n];exact hj))
    have hnb:nb≤100000000:=Nat.le_trans (zep nb nl (Nat.zero_le n)) hz
    have HOF:=znd (fun(V:World) (h:GL w [⟨48,4,.slice B n cp,List.map za0 os⟩] (fun V=>BaD n b V∧LsR 5 tecells (teD n1) A ts V∧Tz V) (fun V=>∀p∈os,roN p V) V)=>show Calls Tryz.prog 35 #[.slice B n cp] V (RetVec (vecL os) V)from by have h9:=zdY V nb (by omega) h1b B cp os ⟨(show OwnE V w.heap.size 48 4 (.slice B n cp) (os.map za0)from h.own _ (List.mem_cons_self ..)).el.1,fun p hp=>RatN.rat (h.n p hp) (HZ9.out p hp)⟩ (by rw[HQ.out.n];omega) h.o.2.2;rw[HQ.out.n]at h9;exact h9)
    have c:=Blk.cb HG.out.o.1.blk
    go_upto_region 15 with fail
    clear c
    refine wp_region_noPanic ?_
    refine zab 10 (fun V=>CB b.gb #[.slice b.Ab b.lb b.cb,.int .i64 (n:Int),.int .i64 1,.pointer (some ⟨b.gf,0,none⟩),.slice none 0 0] V) (by kernel_rfl) (by with_reducible first|exact Blk.cb HG.out.o.1.blk|exact Blk.cb HG.out.drew.o.1.blk) (fun hHeld=>?_)
    replace HG:=znd HG.out.drew
    refine gTa 0 64 hHeld ?_
    refine gTa 1 65 hHeld ?_
    refine gTa 2 66 hHeld ?_
    refine gTa 3 67 hHeld ?_
    refine gTa 4 68 hHeld ?_
    refine gC 5 rfl (by kernel_rfl) (by rfl) (fun K hK=>?_)
    clear hHeld
    simp only[q1,q2,q3]
    go_simp
    refine(HOF.out _ (by first|exact HG.out|exact HG.out.imp (fun _ h=>h) (fun _ h=>h.2))).mono ?_
    rintro e wq ⟨A2,c2,u2,rfl,-,hm2,hk9,hb9⟩
    have HSO:=znd (SolP.of HQ.out HZ9.out hm2)
    replace HG:=znd (HG.out.call hk9 hb9)
    clear hm2 hk9 hb9
    (try(go_wp2_with fail))
    refine hK.out _ _ (by with_reducible first|exact Blk.cb HG.out.o.1.blk|exact Blk.cb HG.out.drew.o.1.blk) (fun hHeld=>?_)
    clear hK K
    try simp only[p1,p2,p3,p4]
    refine gC 6 rfl (by kernel_rfl) (by rfl) (fun K hK=>?_)
    clear hHeld
    simp only[q1,q2,q3]
    go_simp
    refine(zio _ nb nb nl nt (by omega) h1b h1l h1t h1b hnl hnt b.gf n b.As b.cs b.ss HG.out.o.1.lu HP.out (by omega) hz hzx A2 c2 u2 (HSO.out.d HG.out.n.1) HSO.out.rise (by have:=HSO.out.len;omega) HSO.out.pl (znd fun j hj=>by rw[HSO.out.q j,if_pos hj];exact HSB.out j hj) HG.out.o.2.2).mono ?_
    rintro e wq ⟨ys,v9,rfl,hq,hs,hret⟩
    obtain⟨A9,c9,us9,rfl,hsol,hk9,hb9⟩:=SolP.told hq hs hret
    have HS9:=znd hsol
    replace HG:=znd (HG.out.call hk9 hb9)
    clear hq hs hret hsol hk9 hb9
    (try(go_wp2_with fail))
    refine hK.out _ _ (by with_reducible first|exact Blk.cb HG.out.o.1.blk|exact Blk.cb HG.out.drew.o.1.blk) (fun hHeld=>?_)
    clear hK K
    try simp only[p1,p2,p3,p4]
    refine gTa 7 71 hHeld ?_
    refine gTa 8 72 hHeld ?_
    refine gTa 9 4 hHeld ?_
    refine gL rfl (by kernel_rfl) (by kernel_rfl) (by rfl) (fun K hK=>?_)
    clear hHeld
    simp only[q1,q2,q3]
    go_simp
    (try(go_wp2_with fail))
    refine hK.out _ _ ?_
    clear hK K
    try simp only[p1,p2,p3,p4]
    refine NoPanic.normal ?_
    go_wp2_with fail
    exact bodyPost_ret (v:=.tuple #[.slice A9 us9.length c9,.int .i64 0]) (by simp[results,Tryz.results40,go_sem]) rfl ⟨A9,c9,us9,_,rfl,HS9.out,fun k hk=>by
     rw[zlR HFa.out (by rw[List.length_map];exact HP.out.len) _ _ k hk]
     show getQ (u2.map plq) (k:Int)=_
     rw[HSO.out.q k,if_pos hk],(HG.out.rsn.mono fun _ h=>h.1).imp fun V h=>h.1,HG.out.bel⟩
end Go.Proofs.YtfdmajmhmligpaaGreatDoor
