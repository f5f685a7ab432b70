/-
 point.Values: the point of a basis. point.Duals: the prices and the reduced costs of a basis.
-/
import Derived.Test.YtfdmajmhmligpaaGreatDoorIX
import Derived.Test.YtfdmajmhmligpaaGreatDoorIB
namespace Go.Proofs.YtfdmajmhmligpaaGreatDoor
set_option maxHeartbeats 4000000
open Go.RowKit

def numL (l:List (RV×Rat)) (j:Nat):Rat:=((l[j]?).map Prod.snd).getD 0
theorem zao {l:List (RV×Rat)} {j:Nat} (h:j<l.length):numL l j=l[j].2:=by unfold numL;rw[List.getElem?_eq_getElem h];rfl
def stdQ (f:FoV) (st:List Int) (j:Nat):Rat:=if st[j]?=some 1 then numL f.lo j else if st[j]?=some 2 then numL f.hi j else 0
def zcM (st:List Int) (j:Nat):Bool:=st[j]?==some 0
structure ValP (f:FoV) (st:List Int) (xs:List (RV×Rat)):Prop where
 len:xs.length=f.cols.length
 std:∀j,j<f.cols.length→st[j]?≠some 0→numL xs j=stdQ f st j
 eq:∀i,i<f.b.length→sumN (fun j=>numL xs j*rowQ f.cols j (i:Int)) f.cols.length=numL f.b i
def nuV (n j:Nat):Nat:=n+j*(2*n+2)
def nxV (n m N:Nat):Nat:=szX (szF (nuV n N) (2*nlF n (m-1)+1) m) (nlF n (m-1)) m m
def zmP (n:Nat) (f:FoV) (st:List Int) (w:World) (e:Ending) (w':World):Prop:=
 (IsB f st∧∃(A:Option Addr) (c:Nat) (xs:List (RV×Rat)),e=.returned (.tuple #[.slice A f.cols.length c,.int .i64 0])∧ValP f st xs∧(∀p∈xs,Sz p.2 (n+nxV n f.b.length f.cols.length))∧Rests w' (w.heap.size≤·) (LsR 4 za0 roN A xs)∧Below w.heap.size w w')∨
 (¬IsB f st∧e=.returned (.tuple #[.slice none 0 0,.int .i64 102])∧Below w.heap.size w w')
structure StI (n:Nat) (f:FoV) (st:List Int) (i:Nat) (xs:List (RV×Rat)) (us:List TeV):Prop where
 x:SetQ f.cols.length xs (fun j=>if j<i then stdQ f st j else 0)
 rise:(us.map plq).Pairwise fun p q=>p.1<q.1
 nz:∀p∈us.map plq,nzP p=true
 sz:∀t∈us,Sz t.q (nuV n i)
 q:∀a:Int,getQ (us.map plq) a=getQ (vecL f.b) a-sumN (fun j=>if zcM st j=true then 0 else stdQ f st j*rowQ f.cols j a) i
section
variable {n i:Nat} {f:FoV} {st:List Int} {xs:List (RV×Rat)} {us:List TeV}
theorem zck {j:Nat}:zcM st j=true↔st[j]?=some 0:=by unfold zcM;exact beq_iff_eq
theorem StI.skip (h:StI n f st i xs us) (hb:st[i]?=some 0):StI n f st (i+1) xs us:=by
 have e0:stdQ f st i=0:=by unfold stdQ;rw[hb];rfl
 refine⟨h.x.congr fun j _=>?_,h.rise,h.nz,fun t ht=>(h.sz t ht).up (by unfold nuV;rw[Nat.add_mul];omega),fun a=>?_⟩
 ·by_cases e:j=i
  ·subst e;rw[if_neg (Nat.lt_irrefl _),if_pos (Nat.lt_succ_self _),e0]
  ·by_cases h1:j<i
   ·rw[if_pos h1,if_pos (by omega)]
   ·rw[if_neg h1,if_neg (by omega)]
 ·rw[h.q,sumN,if_pos (zck.2 hb),Rat.add_zero]
theorem StI.step (h:StI n f st i xs us) (hb:st[i]?≠some 0) (_hi:i<f.cols.length) {k:RV} {q:Rat} (hq:q=stdQ f st i) {v:VeV} {L:Nat} (hv:VF (fun p=>getQ (us.map plq) p+ -q*rowQ f.cols i p) (nuV n i+(2*n+1)+1) L v):StI n f st (i+1) (xs.set i (k,q)) v.ts:=by
 refine⟨h.x.put (by rw[if_pos (Nat.lt_succ_self _)];exact hq) (fun j _ hj=>?_),hv.1,fun p hp=>(hv.2.1 p hp).1,fun t ht=>(hv.sz t ht).up (by unfold nuV;rw[Nat.add_mul];omega),fun a=>?_⟩
 ·by_cases h1:j<i
  ·rw[if_pos h1,if_pos (by omega)]
  ·rw[if_neg h1,if_neg (by omega)]
 ·rw[hv.2.2.2 a]
  show getQ _ a+ -q*_=_
  rw[h.q,sumN,if_neg (fun e=>hb (zck.1 e)),hq];grind
theorem StI.vec (h:StI n f st i xs us) (hi:i≤f.cols.length) (hc:∀v∈f.cols,∀t∈v.ts,0≤t.pl∧t.pl<(f.b.length:Int)) (h1n:1≤n):VecP f.b.length (nuV n i) us∧∀t∈us,nzT t=true:=by
 refine VecP.of h.rise h.nz (fun a=>zb4 (zc9 h.rise) (by unfold nuV;omega) h.sz a) (fun a ha=>?_)
 rw[h.q,zbY,zce _ _ (by omega),zbk (fun j hj=>?_)]
 ·grind
 ·split
  ·rfl
  ·rw[zat (show j<f.cols.length by omega),zan (fun p hp e=>?_),Rat.mul_zero]
   obtain⟨t,ht,rfl⟩:=List.mem_map.1 hp
   exact ha (e▸hc _ (List.getElem_mem _) t ht)
structure AtI (f:FoV) (st:List Int) (F:Nat→Rat) (Z:Nat) (r:Nat) (xs:List (RV×Rat)):Prop where
 len:xs.length=f.cols.length
 at_:∀k,k<r→numL xs (((basI st f.cols.length)[k]?).getD 0)=F k
 std:∀j,j<f.cols.length→st[j]?≠some 0→numL xs j=stdQ f st j
 sz:∀p∈xs,Sz p.2 Z
theorem zjI {l:List Nat} (h:l.Nodup) {i j:Nat} (hi:i<l.length) (hj:j<l.length) (hne:i≠j):l[i]≠l[j]:=by
 rcases Nat.lt_or_gt_of_ne hne with hlt|hlt
 ·exact List.pairwise_iff_getElem.1 h i j hi hj hlt
 ·exact fun e=>List.pairwise_iff_getElem.1 h j i hj hi hlt e.symm
theorem zh8 (st:List Int) (m:Nat):(basI st m).Nodup:=List.nodup_range.sublist List.filter_sublist
theorem AtI.step {F:Nat→Rat} {Z r:Nat} (h:AtI f st F Z r xs) (hr:r<(basI st f.cols.length).length) {j:Nat} (hj:j=(basI st f.cols.length)[r]) {k:RV} {q:Rat} (hq:q=F r) (hs:Sz q Z):AtI f st F Z (r+1) (xs.set j (k,q)):=by
 have hm:=zcK (List.getElem_mem hr)
 rw[←hj]at hm
 have hjx:j<xs.length:=by rw[h.len];exact hm.1
 refine⟨by rw[List.length_set];exact h.len,fun k' hk'=>?_,fun j' hj' hn=>?_,fun p hp=>?_⟩
 ·by_cases e:k'=r
  ·subst e
   rw[List.getElem?_eq_getElem hr,Option.getD_some,←hj,zao (by rw[List.length_set];exact hjx),List.getElem_set_self]
   exact hq
  ·have hk2:k'<(basI st f.cols.length).length:=by omega
   rw[←h.at_ k' (by omega),List.getElem?_eq_getElem hk2,Option.getD_some]
   have hne:j≠(basI st f.cols.length)[k']:=fun e2=>zjI (zh8 st f.cols.length) hk2 hr e (e2.symm.trans hj)
   unfold numL
   rw[List.getElem?_set_ne hne]
 ·rw[←h.std j' hj' hn]
  have hne:j≠j':=fun e=>hn (e▸hm.2)
  unfold numL
  rw[List.getElem?_set_ne hne]
 ·rcases List.mem_or_eq_of_mem_set hp with hp|rfl
  ·exact h.sz p hp
  ·exact hs
theorem AtI.done {F:Nat→Rat} {Z:Nat} (hb:IsB f st) (h:AtI f st F Z f.b.length xs) {us:List TeV} {xs0:List (RV×Rat)} (hq:StI n f st f.cols.length xs0 us) (hF:∀i,i<f.b.length→sumN (fun k=>colM (zbm f st) i k*F k) f.b.length=getQ (us.map plq) (i:Int)):ValP f st xs:=by
 refine⟨h.len,h.std,fun i hi=>?_⟩
 have e9:=zg7 (M:=f.b.length) (N:=f.cols.length) (bas:=zcM st) (g:=fun j i=>rowQ f.cols j (i:Int)) (b:=fun i=>numL f.b i) (x:=numL xs) (at':=basI st f.cols.length) rfl hb.m (v:=F) (fun i hi=>?_) (fun k hk=>h.at_ k hk) i hi
 ·exact e9
 ·have h1:=hF i hi
  rw[hq.q,zbY,zbK _ _ hi]at h1
  rw[show numL f.b i=f.b[i].2 from zao hi]
  have e2:sumN (fun j=>if zcM st j=true then 0 else numL xs j*rowQ f.cols j (i:Int)) f.cols.length=sumN (fun j=>if zcM st j=true then 0 else stdQ f st j*rowQ f.cols j (i:Int)) f.cols.length:=zae fun j hj=>by
   split
   ·rfl
   ·rename_i hn
    rw[h.std j hj (fun e=>hn (zck.2 e))]
  rw[e2,←h1]
  refine zae fun k hk=>?_
  have hk2:k<(basI st f.cols.length).length:=by rw[hb.m];exact hk
  have hj:=zcK (List.getElem_mem hk2)
  show rowQ f.cols _ _*F k=rowQ (zbm f st) k _*F k
  rw[List.getElem?_eq_getElem hk2,Option.getD_some,zat hj.1,zat (vs:=zbm f st) (show k<(zbm f st).length by unfold zbm;rw[List.length_map];exact hk2)]
  unfold zbm
  rw[List.getElem_map,zbM hj.1]
end
theorem El.na {V:World} {A:Option Addr} {l:List Nat} (h:El V 1 A (l.map nac)) (i:Nat) (hi:i<l.length):V.cell? (adr A i)=some (.int .i64 (l[i]:Int)):=by
 have hc:=h.cell i (by simpa using hi) 0 (by decide)
 rw[List.getElem_map,Nat.mul_one,Nat.add_zero]at hc
 exact hc
theorem zn3 (x:Rat):x=x-0:=by grind
theorem GL.dup {w W:World} {ls:List Ow} {old new:World→Prop} (h:GL w ls old new W):GL w ls (fun V=>new V∧old V) new W:=⟨h.own,h.nd,(h.rsn.mono fun _ h=>h.2).and h.rso,h.rsn,h.bel⟩
theorem zdA (w W:World) (n:Nat) (hn:n≤1000000000) (h1n:1≤n) (f:FoV) (h0:FoD n f w) (hb:Below w.heap.size w W) (hR:FRight f w) (h:FoD n f W) (hs:FSmall f) (hT:Tz W):Calls Tryz.prog 32 #[fA f] W fun e w'=>e=.returned (.int .i64 0)∧Below W.heap.size W w':=by
 refine(zcA W n hn h1n f h hs hT).mono ?_
 rintro e w' ⟨⟨z,rfl,hz⟩,hb'⟩
 rcases hz with⟨rfl,-⟩|⟨rfl,hn⟩
 ·exact⟨rfl,hb'⟩
 ·exact absurd ((FRight.same h0 hb).2 hR) hn
set_option maxRecDepth 100000 in
theorem zdf (w:World) (n:Nat) (hn:n≤100000) (h1n:1≤n) (f:FoV) (h:FoD n f w) (hS:FSmall f) (hR:FRight f w) (hnl:nlF n 5≤100000000) (hnf:szF (nuV n f.cols.length) (2*nlF n (f.b.length-1)+1) f.b.length≤100000000) (hnx:nxV n f.b.length f.cols.length≤100000000000) (SA:Option Addr) (sc:Nat) (st:List Int) (hs:LsR 1 stc (fun _ _=>True) SA st w) (hT:Tz w):Calls Tryz.prog 10 #[fA f,.slice SA st.length sc] w (zmP n f st w):=by
 have slC:=h.cols.sl
 have slB:=h.b.sl
 have slL:=h.lo.sl
 have slH:=h.hi.sl
 have slS:=hs.sl
 have szc:=zaw
 have szi:=zcX
 have szs:=zcf
 have szr:=zal
 have hadd:=zaa
 have HR0:=znd hR
 have HM:=znd (show f.M=((f.b.length:Nat):Int)from hR.b.symm)
 have HSm:=znd hS
 have hN12:f.cols.length≤12:=hS.cols
 have HNL:=znd hnl
 have HNX:=znd hnx
 have HNF:=znd hnf
 have HSLO:=znd (show∀p∈f.lo,Sz p.2 n from fun p hp=>RatD.sz (h.lo.ok p hp) h1n)
 have HSHI:=znd (show∀p∈f.hi,Sz p.2 n from fun p hp=>RatD.sz (h.hi.ok p hp) h1n)
 have HSB0:=znd (show∀p∈f.b,Sz p.2 n from fun p hp=>RatD.sz (h.b.ok p hp) h1n)
 have HVW:=znd (show∀v∈f.cols,Rise v.ts∧v.ts.length≤20 from fun v hv=>⟨by obtain⟨j,hj,rfl⟩:=List.mem_iff_getElem.1 hv;exact(hR.col j hj).rise,hS.col v hv⟩)
 have HPL:=znd (show∀v∈f.cols,∀t∈v.ts,0≤t.pl∧t.pl<(f.b.length:Int)from fun v hv t ht=>by obtain⟨j,hj,rfl⟩:=List.mem_iff_getElem.1 hv;have h9:=(hR.col j hj).rng t ht;rw[←hR.b]at h9;exact h9)
 have hlo:=hR.lo
 have hhi:=hR.hi
 have hm5:f.b.length≤5:=by have h9:=hS.M;rw[←hR.b]at h9;omega
 have HF0:=znd h
 have HE:=znd (Env.start (h.old.and ((hs.old zdk).and hT.old)))
 obtain⟨W0,hW0⟩:∃W0,W0=w.alloc (.cells #[.int .i64 f.M,.slice f.Ac f.cols.length f.cc,.slice f.Al f.lo.length f.cl,.slice f.Ah f.hi.length f.ch,.slice f.Ak f.cost.length f.ck,.slice f.Ab f.b.length f.cb] 32):=⟨_,rfl⟩
 have HE0:=znd (Env.lay1 HE.out hW0)
 subst hW0
 have HG:=znd (show GL w [] (fun V=>Blk V w.heap.size 32 #[.int .i64 f.M,.slice f.Ac f.cols.length f.cc,.slice f.Al f.lo.length f.cl,.slice f.Ah f.hi.length f.ch,.slice f.Ak f.cost.length f.ck,.slice f.Ab f.b.length f.cb]∧FoD n f V∧LsR 1 stc (fun _ _=>True) SA st V∧Tz V) (fun _=>True) _ from(GL.start HE0.out).imp (fun _ h=>⟨h.1 _ (List.mem_cons_self ..),h.2⟩) (fun _ h=>h))
 clear h hs hT hR hS HE HE0 hnl hnx hnf
 have HLO:=znd hlo
 have HHI:=znd hhi
 have c:=Blk.cb HG.out.o.1
 clear hlo hhi
 unfold fA
 go_enter Tryz.func10,Tryz.ntmps10
 go_wp2_with fail
 clear c
 refine(zdA w _ n (by omega) h1n f HF0.out HG.out.bel HR0.out HG.out.o.2.1 HSm.out HG.out.o.2.2.2).mono ?_
 rintro e w1 ⟨rfl,hb⟩
 replace HG:=znd (HG.out.skip hb)
 clear hb
 have c:=Blk.cb HG.out.o.1
 go_wp2_with fail
 clear c
 refine(zfB _ n h1n f HG.out.o.2.1 HSm.out ((FRight.same HF0.out HG.out.bel).2 HR0.out) HNL.out SA sc st HG.out.o.2.2.1 HG.out.o.2.2.2).mono ?_
 rintro e w1 ⟨ok,Aa,ca,b,rfl,hb,h1,h2⟩
 cases ok
 ·have HS:=znd (h1 rfl)
  replace HG:=znd (HG.out.skip hb)
  clear hb h1 h2
  go_wp2_with fail
  exact bodyPost_ret (v:=.tuple #[.slice none 0 0,.int .i64 102]) (by simp[results,Tryz.results10,go_sem]) rfl (.inr ⟨HS.out,rfl,HG.out.bel⟩)
 ·have HF:=znd (h2 rfl)
  have HG2:=znd ((HG.out.call HF.out.2.2.2 hb).imp (φ:=fun V=>Blk V w.heap.size 32 #[.int .i64 f.M,.slice f.Ac f.cols.length f.cc,.slice f.Al f.lo.length f.cl,.slice f.Ah f.hi.length f.ch,.slice f.Ak f.cost.length f.ck,.slice f.Ab f.b.length f.cb]∧FoD n f V∧LsR 1 stc (fun _ _=>True) SA st V∧Tz V) (ψ:=fun V=>BaD f.b.length b V∧El V 1 Aa ((basI st f.cols.length).map nac)) (fun _ h=>h) (fun _ h=>h.1))
  clear hb h1 h2 HG
  have HG:=HG2
  clear HG2
  have c:=Blk.cb HG.out.o.1
  go_wp2_with fail
  clear c
  rw[zbo _ f.cols.length (by omega)]
  obtain⟨W6,gX,hW6,hgX,HG2⟩:=HG.out.al4 f.cols.length (by omega)
  rw[hW6,hgX]
  clear hW6 hgX HG
  obtain⟨X,hX⟩:∃X:Option Addr,X=some ⟨gX,0,none⟩:=⟨_,rfl⟩
  rw[←hX]at HG2⊢
  have HX:=znd hX
  have slX:Sl X f.cols.length:=by rw[hX];exact Sl.some_ _ _ _
  clear hX
  go_upto_region 8 with fail
  obtain⟨W7,gx,hW7,hgx,HG⟩:=HG2.out.al 30 #[.slice X f.cols.length f.cols.length]
  rw[hW7,hgx]
  clear hW7 hgx HG2
  have c:=Blk.cb HG.out.o.1
  go_wp2_with fail
  clear c
  refine(zdY _ n (by omega) h1n f.Ab f.cb f.b HG.out.o.2.1.b (by omega) HG.out.o.2.2.2).mono ?_
  rintro e w2 ⟨A2,c2,us,rfl,-,hm2,hk9,hb9⟩
  have HU:=znd hm2
  replace HG:=znd (HG.out.call hk9 hb9)
  clear hm2 hk9 hb9
  go_upto_region 9 with fail
  obtain⟨W8,gr,hW8,hgr,HG2⟩:=HG.out.alb 25 #[.slice A2 us.length c2]
  rw[hW8,hgr]
  clear hW8 hgr HG
  have HG:=znd (show GL w [⟨48,4,.slice X f.cols.length f.cols.length,List.map za0 (zaH f.cols.length)⟩,bow gr 25 1 #[.slice A2 (List.length us) c2]] (fun V=>StO f gx w.heap.size n X st SA V∧BaD f.b.length b V∧El V 1 Aa ((basI st f.cols.length).map nac)) (fun V=>(∀p∈(zaH f.cols.length),roN p V)∧LsR 5 tecells teN A2 us V) W8 from(HG2.out.dup.perm (List.Perm.swap _ _ [])).imp (fun V h=>⟨⟨h.1.2.1,h.2.1,h.2.2.1,h.2.2.2.1,h.2.2.2.2⟩,h.1.2.2.1,h.1.2.2.2⟩) (fun V h=>⟨zbS _ V,h.1⟩))
  clear HG2
  have HVL:=znd (zfT (ps:=us) HU.out)
  have HI:=znd (show StI n f st 0 (zaH f.cols.length) us from⟨SetQ.zero _,by rw[HU.out];exact((List.pairwise_map (f:=plq) (R:=fun p q:Int×Rat=>p.1<q.1)).2 (zcZ f.b)).filter _,fun p hp=>by rw[HU.out]at hp;exact(List.mem_filter.1 hp).2,fun t ht=>(zfQ HU.out HSB0.out t ht).up (by unfold nuV;omega),fun a=>by rw[HU.out];exact zn3 _⟩)
  clear HVL HU
  go_wp2_with fail
  have hsl:=HF.out.1.len
  rw[hsl]at slS⊢
  have HSL:=znd hsl
  clear hsl
  go_loopw [44] (fun iv wr=>∃(i:Nat) (xs:List (RV×Rat)) (A:Option Addr) (c:Nat) (us:List TeV),iv=.int .i64 (i:Int)∧i≤f.cols.length∧Hid (StI n f st i xs us)∧Hid (GL w [⟨48,4,.slice X f.cols.length f.cols.length,List.map za0 xs⟩,bow gr 25 1 #[.slice A (List.length us) c]] (fun V=>StO f gx w.heap.size n X st SA V∧BaD f.b.length b V∧El V 1 Aa ((basI st f.cols.length).map nac)) (fun V=>(∀p∈xs,roN p V)∧LsR 5 tecells teN A us V) wr)) (fun iv _=>f.cols.length-(intOf iv).toNat)
  case atStart=>exact⟨0,zaH f.cols.length,A2,c2,us,rfl,Nat.zero_le _,HI,HG⟩
  case round=>
   clear HG HI
   obtain⟨i,xs,A,c,us,rfl,hi,HI,HG⟩:=hrel
   by_cases hlt:i<f.cols.length
   ·have his:i<st.length:=by rw[HSL.out];exact hlt
    have cs:=HG.out.o.1.st.c1 i his
    have HSI:=znd (List.getElem?_eq_getElem his)
    have HOK:=HF.out.1.ok _ (List.getElem_mem his)
    obtain⟨z,hz⟩:∃z,z=st[i]:=⟨_,rfl⟩
    rw[←hz]at cs HSI HOK
    clear hz
    rcases HOK with h0|h0
    ·subst h0
     go_wp2_with fail
     go_roundw
     case rel=>exact⟨i+1,xs,A,c,us,by go_num,by omega,znd (HI.out.skip HSI.out),HG⟩
     case measure=>(simp[intOf]<;>omega)
    have HVC:=znd (HI.out.vec hi HPL.out h1n)
    have HNU:=znd (show nuV n i≤10000000000 from by unfold nuV;have:=Nat.mul_le_mul (show i≤12 by omega) (show 2*n+2≤200002 by omega);omega)
    rcases h0 with h0|h0
    focus
     subst h0
     have hll:i<f.lo.length:=by rw[HLO.out];exact hlt
     have cr:=HG.out.o.1.fo.lo.rc i hll
     have cf:=Blk.cb HG.out.o.1.fb
     have HRD:=znd (show∀V,FoD n f V→RatD (f.lo[i]).1 (f.lo[i]).2 n V from fun V h=>h.lo.ok _ (List.getElem_mem hll))
     have HQ:=znd (show(f.lo[i]).2=stdQ f st i from by unfold stdQ;rw[HSI.out];rw[if_pos rfl];exact(zao hll).symm)
     obtain⟨rq,hrq⟩:∃rq,rq=f.lo[i]:=⟨_,rfl⟩
    rotate_left
    focus
     subst h0
     have hll:i<f.hi.length:=by rw[HHI.out];exact hlt
     have cr:=HG.out.o.1.fo.hi.rc i hll
     have cf:=Blk.cb HG.out.o.1.fb
     have HRD:=znd (show∀V,FoD n f V→RatD (f.hi[i]).1 (f.hi[i]).2 n V from fun V h=>h.hi.ok _ (List.getElem_mem hll))
     have HQ:=znd (show(f.hi[i]).2=stdQ f st i from by unfold stdQ;rw[HSI.out];rw[if_neg (by decide),if_pos rfl];exact(zao hll).symm)
     obtain⟨rq,hrq⟩:∃rq,rq=f.hi[i]:=⟨_,rfl⟩
    rotate_left
    all_goals
     rw[←hrq]at cr HRD HQ
     clear hrq
     go_wp2_with fail
     clear cr cf cs hll
     refine(zjo w _ (fun V=>BaD f.b.length b V∧El V 1 Aa ((basI st f.cols.length).map nac)) f gx w.heap.size gr n (nuV n i) (by omega) h1n HNU.out (by unfold nuV;omega) X gX HX.out st SA xs HI.out.x.n A c us HI.out.sz HVC.out.1.rise (by have:=HVC.out.1.len;omega) HG.out i hlt (HVW.out _ (List.getElem_mem hlt)) rq.1 rq.2 (fun V h=>HRD.out V h.fo)).mono ?_
     rintro e w3 ⟨k,v,rfl,hvf,hg⟩
     have HI2:=znd (HI.out.step (by rw[HSI.out];simp) hlt HQ.out (k:=k) hvf)
     have HG2:=znd hg
     clear hvf hg HG
     go_wp2_with fail
     go_roundw
     case rel=>exact⟨i+1,_,v.A,v.c,v.ts,by go_num,by omega,HI2,HG2⟩
     case measure=>(simp[intOf]<;>omega)
   ·obtain rfl:i=f.cols.length:=by omega
    have hnu:¬((f.cols.length:Nat):Int)<((f.cols.length:Nat):Int):=by omega
    have HVC:=znd (HI.out.vec (Nat.le_refl _) HPL.out h1n)
    have HNU:=znd (show nuV n f.cols.length≤10000000000 from by unfold nuV;have:=Nat.mul_le_mul hN12 (show 2*n+2≤200002 by omega);omega)
    have HL4:=znd (show nlF n (f.b.length-1)≤25000000∧1≤nlF n (f.b.length-1)from by have h9:=zcF n (show f.b.length-1≤4 by omega);have h8:=HNL.out;have h7:nlF n 5=4*nlF n 4+4:=rfl;have h6:=zcF n (Nat.zero_le (f.b.length-1));have h5:nlF n 0=n:=rfl;omega)
    have cr:=HG.out.cb (k:=1) rfl
    have cf:=Blk.cb HG.out.o.1.fb
    go_wp2_with fail
    clear cr cf
    refine(zh4 _ f.b.length (nuV n f.cols.length) (nuV n f.cols.length) (nlF n (f.b.length-1)) (2*nlF n (f.b.length-1)+1) (by have:=HNU.out;omega) (by unfold nuV;omega) HL4.out.2 (by omega) (by unfold nuV;omega) (by have:=HL4.out;omega) (by have:=HL4.out;omega) b HG.out.o.2.1 (zbm f st) HF.out.2.1 HF.out.2.2.1 (by omega) HNF.out HNX.out A c us (LsR.imp HG.out.n.2 (fun t ht h=>RatN.rat h (HI.out.sz t ht))) HVC.out.1.rise (by have:=HVC.out.1.len;omega) HVC.out.1.pl (znd fun j _=>zb4 HVC.out.1.rise (by unfold nuV;omega) HI.out.sz _) HG.out.o.1.tz).mono ?_
    rintro e w9 ⟨A9,c9,us9,F,rfl,hsol,hpf,hk9,hb9⟩
    have HSO:=znd hsol
    have HPF:=znd hpf
    replace HG:=znd (HG.out.call hk9 hb9)
    clear hsol hpf hk9 hb9
    have cf:=Blk.cb HG.out.o.1.fb
    go_wp2_with fail
    clear cf
    have hx1:1≤(nxV n f.b.length f.cols.length):=zdM _ _ _ (Nat.zero_le _)
    have HX1:=znd hx1
    clear hx1
    refine(show Calls Tryz.prog 39 #[.slice A9 us9.length c9,.int .i64 f.M] _ (fun e w'=>∃v,e=.returned v∧DenRes (fun j=>getQ (us9.map plq) (j:Int)) f.b.length _ v w')from by rw[HM.out];exact zcp _ (nxV n f.b.length f.cols.length) HNX.out HX1.out A9 c9 us9 (HSO.out.d HG.out.n.1) HSO.out.rise (by have:=HSO.out.len;omega) f.b.length (by omega) HSO.out.pl HG.out.o.1.tz).mono ?_
    rintro e w8 ⟨v8,rfl,B,cp,g,os,hB,rfl,hq,hg⟩
    have HQ:=znd hq
    have slB2:Sl B f.b.length:=hB.2
    have HG2:=znd (show GL w [⟨48,4,.slice B f.b.length cp,List.map za0 os⟩,⟨48,4,.slice X f.cols.length f.cols.length,List.map za0 xs⟩,bow gr 25 1 #[.slice A (List.length us) c]] (fun V=>StO f gx w.heap.size n X st SA V∧BaD f.b.length b V∧El V 1 Aa ((basI st f.cols.length).map nac)) (fun V=>(∀p∈os,roN p V)∧(∀p∈xs,roN p V)) w8 from(HG.out.join hg).imp (fun _ h=>h) (fun V h=>⟨h.1,h.2.2.1⟩))
    clear hB hq hg HG
    have HZS:=znd (show∀l:List (RV×Rat),(∀p∈l,Sz p.2 n)→∀j,Sz (numL l j) n from fun l h j=>by
     unfold numL
     rcases h9:l[j]?with _|p
     ·exact zaM.up h1n
     ·exact h p (List.mem_of_getElem? h9))
    have HA0:=znd (show AtI f st F (n+(nxV n f.b.length f.cols.length)) 0 xs from by
     have hxq:∀j,j<f.cols.length→numL xs j=stdQ f st j:=fun j hj=>by
      rw[zao (by rw[HI.out.x.n];exact hj),HI.out.x.q j (by rw[HI.out.x.n];exact hj)]
      exact if_pos hj
     refine⟨HI.out.x.n,fun k hk=>absurd hk (Nat.not_lt_zero _),fun j hj _=>hxq j hj,fun p hp=>?_⟩
     obtain⟨j,hj,rfl⟩:=List.mem_iff_getElem.1 hp
     have h1:=hxq j (by rw[←HI.out.x.n];exact hj)
     rw[zao hj]at h1
     rw[h1]
     refine Sz.up (n:=n) ?_ (Nat.le_add_right _ _)
     unfold stdQ
     split
     ·exact HZS.out _ HSLO.out _
     ·split
      ·exact HZS.out _ HSHI.out _
      ·exact zaM.up h1n)
    have HAE:=znd HF.out.1.m
    have slAa:Sl Aa f.b.length:=by have h9:=HG2.out.o.2.2.sl;rw[List.length_map,HAE.out]at h9;exact h9
    go_wp2_with fail
    go_loopw [85] (fun iv wr=>∃(r:Nat) (xs:List (RV×Rat)),iv=.int .i64 (r:Int)∧r≤f.b.length∧Hid (AtI f st F (n+(nxV n f.b.length f.cols.length)) r xs)∧Hid (GL w [⟨48,4,.slice B f.b.length cp,List.map za0 os⟩,⟨48,4,.slice X f.cols.length f.cols.length,List.map za0 xs⟩,bow gr 25 1 #[.slice A (List.length us) c]] (fun V=>StO f gx w.heap.size n X st SA V∧BaD f.b.length b V∧El V 1 Aa ((basI st f.cols.length).map nac)) (fun V=>(∀p∈os,roN p V)∧(∀p∈xs,roN p V)) wr)) (fun iv _=>f.b.length-(intOf iv).toNat)
    case atStart=>exact⟨0,xs,rfl,Nat.zero_le _,HA0,HG2⟩
    case round=>
     clear HG2 HA0
     obtain⟨r,xs,rfl,hr,HA,HG⟩:=hrel
     by_cases hlr:r<f.b.length
     ·have hra:r<(basI st f.cols.length).length:=by rw[HAE.out];exact hlr
      have hro:r<os.length:=by rw[HQ.out.n];exact hlr
      have ca1:=HG.out.o.2.2.na r hra
      have HAJ:=zcK (List.getElem_mem hra)
      obtain⟨j,hj⟩:∃j,j=(basI st f.cols.length)[r]:=⟨_,rfl⟩
      rw[←hj]at ca1 HAJ
      have hjN:j<f.cols.length:=HAJ.1
      have hjx:j<xs.length:=by rw[HA.out.len];exact hjN
      have hj0:(0:Int)≤(j:Int):=by omega
      have hj1:(j:Int)<(f.cols.length:Int):=by omega
      have cu:=HG.out.rc (k:=0) rfl hro
      obtain⟨u,hu⟩:∃u,u=os[r]:=⟨_,rfl⟩
      have Huo:=znd (show u∈os from by rw[hu];exact List.getElem_mem hro)
      have Huq:=znd (show u.2=F r from by rw[hu,HQ.out.q r hro,HSO.out.q r,if_pos hlr])
      rw[←hu]at cu
      have HA2:=znd (fun k=>HA.out.step hra hj (k:=k) Huq.out (by rw[Huq.out,←if_pos (c:=r<f.b.length) (t:=F r) (e:=0) hlr,←HSO.out.q r];exact(zb4 HSO.out.rise HX1.out HSO.out.sz _).up (Nat.le_add_left _ _)))
      clear hu hj HAJ hra
      have cx:=Blk.cb HG.out.o.1.x
      go_upto_region 26 with fail
      clear ca1
      have fr:=HG.out.free HX.out (k:=1) rfl
      have rcx:=HG.out.rc (k:=1) rfl hjx
      have hadd2:∀(n j:Nat),(⟨(adr X n).block,(adr X n).off+j,none⟩:Addr)=adr X (n+j):=fun n j=>by unfold adr;simp[Nat.add_assoc]
      have hs01:=za1 X (show j*4≠j*4+1 by omega)
      have hs02:=za1 X (show j*4≠j*4+2 by omega)
      have hs03:=za1 X (show j*4≠j*4+3 by omega)
      have hs12:=za1 X (show j*4+1≠j*4+2 by omega)
      have hs13:=za1 X (show j*4+1≠j*4+3 by omega)
      have hs23:=za1 X (show j*4+2≠j*4+3 by omega)
      go_region
      clear rcx fr hadd2 hs01 hs02 hs03 hs12 hs13 hs23 cx cu
      have HG2:=znd (show GL w [⟨48,4,.slice B f.b.length cp,List.map za0 os⟩,⟨48,4,.slice X f.cols.length f.cols.length,List.map za0 (xs.set j (u.1,u.2))⟩,bow gr 25 1 #[.slice A (List.length us) c]] (fun V=>StO f gx w.heap.size n X st SA V∧BaD f.b.length b V∧El V 1 Aa ((basI st f.cols.length).map nac)) (fun V=>(∀p∈os,roN p V)∧(∀p∈(xs.set j (u.1,u.2)),roN p V)) _ from(HG.out.putR HX.out (k:=1) rfl hjx u.1 u.2).drew.imp (fun _ h=>h) (fun V h=>⟨h.1,zb2 (P:=fun p=>roN p V) h.2 (h.1 u Huo.out)⟩))
      clear HG
      generalize World.drew _=Wz at HG2⊢
      go_wp2_with fail
      go_roundw
      case rel=>exact⟨r+1,xs.set j (u.1,u.2),by go_num,by omega,znd (HA2.out u.1),HG2⟩
      case measure=>(simp[intOf]<;>omega)
     ·obtain rfl:r=f.b.length:=by omega
      have hnr:¬((f.b.length:Nat):Int)<((f.b.length:Nat):Int):=by omega
      have cx:=Blk.cb HG.out.o.1.x
      go_wp2_with fail
      have HGR:=znd (GL.read (HG.out.perm (List.Perm.swap _ _ _)))
      exact bodyPost_ret (v:=.tuple #[.slice X f.cols.length f.cols.length,.int .i64 0]) (by simp[results,Tryz.results10,go_sem]) rfl (.inl ⟨HF.out.1,X,f.cols.length,xs,rfl,HA.out.done HF.out.1 HI.out HPF.out,HA.out.sz,(HGR.out.rsn.mono fun _ h=>h.1).imp fun V h=>⟨h.1,h.2.2⟩,HG.out.bel⟩)

structure DualP (f:FoV) (st:List Int) (ys ds:List (RV×Rat)):Prop where
 ly:ys.length=f.b.length
 ld:ds.length=f.cols.length
 eq:∀k,k<f.b.length→sumN (fun i=>numL ys i*rowQ f.cols (((basI st f.cols.length)[k]?).getD 0) (i:Int)) f.b.length=numL f.cost (((basI st f.cols.length)[k]?).getD 0)
 d:∀j,j<f.cols.length→numL ds j=if zcM st j=true then 0 else numL f.cost j-sumN (fun i=>numL ys i*rowQ f.cols j (i:Int)) f.b.length
def nyV (n m:Nat):Nat:=szY (szG n (nlF n (m-1)) m) (2*nlF n (m-1)+1) m m
def ndV (n m:Nat):Nat:=n+(1+m*(2*nyV n m+2))+1
def zle (n:Nat) (f:FoV) (st:List Int) (w:World) (e:Ending) (w':World):Prop:=
 (IsB f st∧∃(A:Option Addr) (c:Nat) (ys:List (RV×Rat)) (D:Option Addr) (ds:List (RV×Rat)),e=.returned (.tuple #[.slice A f.b.length c,.slice D f.cols.length f.cols.length,.int .i64 0])∧f.b.length≤c∧DualP f st ys ds∧(∀p∈ys,Sz p.2 (nyV n f.b.length))∧(∀p∈ds,Sz p.2 (ndV n f.b.length))∧Rests w' (w.heap.size≤·) (fun V=>LsR 4 za0 roN A ys V∧LsR 4 za0 roN D ds V)∧Below w.heap.size w w')∨
 (¬IsB f st∧e=.returned (.tuple #[.slice none 0 0,.slice none 0 0,.int .i64 102])∧Below w.heap.size w w')
theorem zf4 (Y:List (Int×Rat)) (m:Nat):∀{ts:List TeV},(∀t∈ts,0≤t.pl∧t.pl<(m:Int))→dotQ (ts.map plq) Y=sumN (fun i=>getQ (ts.map plq) (i:Int)*getQ Y (i:Int)) m
 |[],_=>by rw[zbk (fun i _=>by show(0:Rat)*_=0;rw[Rat.zero_mul])];rfl
 |t::ts,h=>by
  have h1:=zf4 Y m (fun x hx=>h x (List.mem_cons_of_mem _ hx))
  have h2:=h t (List.mem_cons_self ..)
  show t.q*getQ Y t.pl+dotQ (ts.map plq) Y=_
  rw[h1,show(fun i:Nat=>getQ ((t::ts).map plq) (i:Int)*getQ Y (i:Int))=fun i:Nat=>(if t.pl=(i:Int) then t.q else 0)*getQ Y (i:Int)+getQ (ts.map plq) (i:Int)*getQ Y (i:Int)from funext fun i:Nat=>by
   show((if t.pl=(i:Int) then t.q else 0)+getQ (ts.map plq) (i:Int))*_=_
   rw[Rat.add_mul],zby]
  congr 1
  rw[zcD (c:=t.pl.toNat) (by omega) (fun i _ hne=>by rw[if_neg (by omega),Rat.zero_mul]),if_pos (by omega),Int.toNat_of_nonneg h2.1]
theorem ziW {g:Nat→Rat} {j:Nat} (h:g j=0) (i:Nat):(if i<j then g i else 0)=if i<j+1 then g i else 0:=by
 by_cases h1:i<j
 ·rw[if_pos h1,if_pos (by omega)]
 ·rw[if_neg h1]
  by_cases e:i=j
  ·rw[if_pos (by omega),e,h]
  ·rw[if_neg (by omega)]
theorem zj0 {g:Nat→Rat} {i j:Nat} (hi:i≠j):(if i<j+1 then g i else 0)=if i<j then g i else 0:=by
 by_cases h1:i<j
 ·rw[if_pos h1,if_pos (by omega)]
 ·rw[if_neg h1,if_neg (by omega)]
theorem zhx {f:FoV} {st:List Int} {k:Nat} (hk:k<(basI st f.cols.length).length) (a:Int):rowQ (zbm f st) k a=rowQ f.cols (((basI st f.cols.length)[k]?).getD 0) a:=by
 have hj:=zcK (List.getElem_mem hk)
 rw[List.getElem?_eq_getElem hk,Option.getD_some,zat hj.1,zat (vs:=zbm f st) (show k<(zbm f st).length by unfold zbm;rw[List.length_map];exact hk)]
 unfold zbm
 rw[List.getElem_map,zbM hj.1]
set_option maxRecDepth 100000 in
theorem zcR (w:World) (n:Nat) (hn:n≤100000) (h1n:1≤n) (f:FoV) (h:FoD n f w) (hS:FSmall f) (hR:FRight f w) (hnl:nlF n 5≤100000000) (hng:szG n (nlF n (f.b.length-1)) f.b.length≤100000000) (hny:nyV n f.b.length≤1000000000) (SA:Option Addr) (sc:Nat) (st:List Int) (hs:LsR 1 stc (fun _ _=>True) SA st w) (hT:Tz w):Calls Tryz.prog 11 #[fA f,.slice SA st.length sc] w (zle n f st w):=by
 have slC:=h.cols.sl
 have slK:=h.cost.sl
 have slS:=hs.sl
 have szc:=zaw
 have szi:=zcX
 have szs:=zcf
 have szr:=zal
 have hadd:=zaa
 have HR0:=znd hR
 have HM:=znd (show f.M=((f.b.length:Nat):Int)from hR.b.symm)
 have HSm:=znd hS
 have hN12:f.cols.length≤12:=hS.cols
 have HNL:=znd hnl
 have HNG:=znd hng
 have HNY:=znd hny
 have HCOL:=znd (show∀v∈f.cols,VecP f.b.length n v.ts from fun v hv=>by obtain⟨j,hj,rfl⟩:=List.mem_iff_getElem.1 hv;exact⟨(hR.col j hj).rise,fun t ht=>by have h9:=(hR.col j hj).rng t ht;rw[←hR.b]at h9;exact h9,fun t ht=>RatD.sz ((h.cols.ok _ (List.getElem_mem hj)).ok t ht) h1n⟩)
 have HCK:=znd hR.cost
 have hm5:f.b.length≤5:=by have h9:=hS.M;rw[←hR.b]at h9;omega
 have HSCO:=znd (show∀p∈f.cost,Sz p.2 n from fun p hp=>RatD.sz (h.cost.ok p hp) h1n)
 have HF0:=znd h
 have HE:=znd (Env.start (h.old.and ((hs.old zdk).and hT.old)))
 obtain⟨W0,hW0⟩:∃W0,W0=w.alloc (.cells #[.int .i64 f.M,.slice f.Ac f.cols.length f.cc,.slice f.Al f.lo.length f.cl,.slice f.Ah f.hi.length f.ch,.slice f.Ak f.cost.length f.ck,.slice f.Ab f.b.length f.cb] 32):=⟨_,rfl⟩
 have HE0:=znd (Env.lay1 HE.out hW0)
 subst hW0
 have HG:=znd (show GL w [] (fun V=>Blk V w.heap.size 32 #[.int .i64 f.M,.slice f.Ac f.cols.length f.cc,.slice f.Al f.lo.length f.cl,.slice f.Ah f.hi.length f.ch,.slice f.Ak f.cost.length f.ck,.slice f.Ab f.b.length f.cb]∧FoD n f V∧LsR 1 stc (fun _ _=>True) SA st V∧Tz V) (fun _=>True) _ from(GL.start HE0.out).imp (fun _ h=>⟨h.1 _ (List.mem_cons_self ..),h.2⟩) (fun _ h=>h))
 clear h hs hT hR hS HE HE0 hnl hng hny
 have c:=Blk.cb HG.out.o.1
 unfold fA
 go_enter Tryz.func11,Tryz.ntmps11
 go_wp2_with fail
 clear c
 refine(zdA w _ n (by omega) h1n f HF0.out HG.out.bel HR0.out HG.out.o.2.1 HSm.out HG.out.o.2.2.2).mono ?_
 rintro e w1 ⟨rfl,hb⟩
 replace HG:=znd (HG.out.skip hb)
 clear hb
 have c:=Blk.cb HG.out.o.1
 go_wp2_with fail
 clear c
 refine(zfB _ n h1n f HG.out.o.2.1 HSm.out ((FRight.same HF0.out HG.out.bel).2 HR0.out) HNL.out SA sc st HG.out.o.2.2.1 HG.out.o.2.2.2).mono ?_
 rintro e w1 ⟨ok,Aa,ca,b,rfl,hb,h1,h2⟩
 cases ok
 ·have HS:=znd (h1 rfl)
  replace HG:=znd (HG.out.skip hb)
  clear hb h1 h2
  go_wp2_with fail
  exact bodyPost_ret (v:=.tuple #[.slice none 0 0,.slice none 0 0,.int .i64 102]) (by simp[results,Tryz.results11,go_sem]) rfl (.inr ⟨HS.out,rfl,HG.out.bel⟩)
 ·have HF:=znd (h2 rfl)
  have HG2:=znd ((HG.out.call HF.out.2.2.2 hb).imp (φ:=fun V=>Blk V w.heap.size 32 #[.int .i64 f.M,.slice f.Ac f.cols.length f.cc,.slice f.Al f.lo.length f.cl,.slice f.Ah f.hi.length f.ch,.slice f.Ak f.cost.length f.ck,.slice f.Ab f.b.length f.cb]∧FoD n f V∧LsR 1 stc (fun _ _=>True) SA st V∧Tz V) (ψ:=fun V=>BaD f.b.length b V∧El V 1 Aa ((basI st f.cols.length).map nac)) (fun _ h=>h) (fun _ h=>h.1))
  clear hb h1 h2 HG
  have HG:=HG2
  clear HG2
  have HAE:=znd HF.out.1.m
  have slAa:Sl Aa f.b.length:=by have h9:=HG.out.n.2.sl;rw[List.length_map,HAE.out]at h9;exact h9
  go_wp2_with fail
  rw[zbo _ f.b.length (by omega)]
  obtain⟨W6,gK,hW6,hgK,HG2⟩:=HG.out.al4 f.b.length (by omega)
  rw[hW6,hgK]
  clear hW6 hgK HG
  obtain⟨C,hC⟩:∃C:Option Addr,C=some ⟨gK,0,none⟩:=⟨_,rfl⟩
  rw[←hC]at HG2⊢
  have HC:=znd hC
  have slCC:Sl C f.b.length:=by rw[hC];exact Sl.some_ _ _ _
  clear hC
  have HG:=HG2
  clear HG2
  go_wp2_with fail
  go_loopw [38] (fun iv wr=>∃(r:Nat) (cs:List (RV×Rat)),iv=.int .i64 (r:Int)∧r≤f.b.length∧Hid (SetQ f.b.length cs (fun k=>if k<r then numL f.cost (((basI st f.cols.length)[k]?).getD 0) else 0))∧Hid (∀V,FoD n f V→∀p∈cs,roD n p V)∧Hid (GL w [⟨48,4,.slice C f.b.length f.b.length,List.map za0 cs⟩] (fun V=>Blk V w.heap.size 32 #[.int .i64 f.M,.slice f.Ac f.cols.length f.cc,.slice f.Al f.lo.length f.cl,.slice f.Ah f.hi.length f.ch,.slice f.Ak f.cost.length f.ck,.slice f.Ab f.b.length f.cb]∧FoD n f V∧LsR 1 stc (fun _ _=>True) SA st V∧Tz V) (fun V=>BaD f.b.length b V∧El V 1 Aa ((basI st f.cols.length).map nac)) wr)) (fun iv _=>f.b.length-(intOf iv).toNat)
  case atStart=>exact⟨0,zaH f.b.length,rfl,Nat.zero_le _,znd ((SetQ.zero _).congr fun j _=>(if_neg (Nat.not_lt_zero _)).symm),znd (fun V _ p hp=>RatN.rat (zbS _ V p hp) (by rw[show p=(zeroR,0)from by unfold zaH at hp;exact List.eq_of_mem_replicate hp];exact zaM.up h1n)),HG⟩
  case round=>
   clear HG
   obtain⟨r,cs,rfl,hr,HQ,HKD,HG⟩:=hrel
   by_cases hlr:r<f.b.length
   ·have hra:r<(basI st f.cols.length).length:=by rw[HAE.out];exact hlr
    have ca1:=HG.out.n.2.na r hra
    have HAJ:=zcK (List.getElem_mem hra)
    have HAK:=znd (List.getElem?_eq_getElem hra)
    obtain⟨j,hj⟩:∃j,j=(basI st f.cols.length)[r]:=⟨_,rfl⟩
    rw[←hj]at ca1 HAJ HAK
    have hjN:j<f.cost.length:=by rw[HCK.out];exact HAJ.1
    have hrc:r<cs.length:=by rw[HQ.out.n];exact hlr
    have hj0:(0:Int)≤(j:Int):=by omega
    have hj1:(j:Int)<(f.cost.length:Int):=by omega
    have hr0:(0:Int)≤(r:Int):=by omega
    have hr1:(r:Int)<(f.b.length:Int):=by omega
    have cu:=HG.out.o.2.1.cost.rc j hjN
    have HKJ:=znd (zao hjN)
    obtain⟨u,hu⟩:∃u,u=f.cost[j]:=⟨_,rfl⟩
    have HUD:=znd (show∀V,FoD n f V→roD n u V from fun V h=>by rw[hu];exact h.cost.ok _ (List.getElem_mem hjN))
    rw[←hu]at cu HKJ
    clear hu hj HAJ hra
    have cf:=Blk.cb HG.out.o.1
    have fr:=HG.out.free HC.out (k:=0) rfl
    have rcx:=HG.out.rc (k:=0) rfl hrc
    have hadd2:∀(n j:Nat),(⟨(adr C n).block,(adr C n).off+j,none⟩:Addr)=adr C (n+j):=fun n j=>by unfold adr;simp[Nat.add_assoc]
    have hs01:=za1 C (show r*4≠r*4+1 by omega)
    have hs02:=za1 C (show r*4≠r*4+2 by omega)
    have hs03:=za1 C (show r*4≠r*4+3 by omega)
    have hs12:=za1 C (show r*4+1≠r*4+2 by omega)
    have hs13:=za1 C (show r*4+1≠r*4+3 by omega)
    have hs23:=za1 C (show r*4+2≠r*4+3 by omega)
    go_upto_region 12 with fail
    clear rcx fr hadd2 hs01 hs02 hs03 hs12 hs13 hs23 cf cu ca1
    have HG2:=znd (HG.out.putR HC.out (k:=0) rfl hrc u.1 u.2)
    clear HG
    generalize World.setCell _ _ _=Wz at HG2⊢
    go_wp2_with fail
    go_roundw
    case rel=>exact⟨r+1,cs.set r (u.1,u.2),by go_num,by omega,znd (HQ.out.put (by rw[if_pos (Nat.lt_succ_self _),HAK.out];exact HKJ.out.symm) (fun j _ hj=>by
     by_cases h1:j<r
     ·rw[if_pos h1,if_pos (by omega)]
     ·rw[if_neg h1,if_neg (by omega)])),znd (fun V hf=>zb2 (P:=fun p=>roD n p V) (HKD.out V hf) (HUD.out V hf)),HG2⟩
    case measure=>(simp[intOf]<;>omega)
   ·obtain rfl:r=f.b.length:=by omega
    have hnr:¬((f.b.length:Nat):Int)<((f.b.length:Nat):Int):=by omega
    go_wp2_with fail
    have HL4:=znd (show nlF n (f.b.length-1)≤25000000∧1≤nlF n (f.b.length-1)from by have h9:=zcF n (show f.b.length-1≤4 by omega);have h8:=HNL.out;have h7:nlF n 5=4*nlF n 4+4:=rfl;have h6:=zcF n (Nat.zero_le (f.b.length-1));have h5:nlF n 0=n:=rfl;omega)
    refine(show Calls Tryz.prog 35 #[.slice C f.b.length f.b.length] _ (RetVec (vecL cs) _)from by have h9:=zdY _ n (by omega) h1n C f.b.length cs ⟨(show OwnE _ w.heap.size 48 4 (.slice C f.b.length f.b.length) (cs.map za0)from HG.out.own _ (List.mem_cons_self ..)).el.1,HKD.out _ HG.out.o.2.1⟩ (by rw[HQ.out.n];omega) HG.out.o.2.2.2;rw[HQ.out.n]at h9;exact h9).mono ?_
    rintro e w2 ⟨A2,c2,us,rfl,-,hm2,hk9,hb9⟩
    have HSC:=znd (show∀p∈cs,Sz p.2 n from fun p hp=>RatD.sz (HKD.out _ HG.out.o.2.1 p hp) h1n)
    have HUS:=znd (SolP.of HQ.out HSC.out hm2)
    replace HG:=znd (HG.out.call hk9 hb9)
    clear hm2 hk9 hb9
    go_wp2_with fail
    refine(zhB _ f.b.length n n (nlF n (f.b.length-1)) (2*nlF n (f.b.length-1)+1) (by omega) h1n HL4.out.2 (by omega) h1n (by have:=HL4.out;omega) (by have:=HL4.out;omega) b HG.out.n.2.1 (zbm f st) HF.out.2.1 HF.out.2.2.1 (by omega) HNG.out (by have h9:=HNY.out;unfold nyV at h9;omega) A2 c2 us (HUS.out.d HG.out.n.1) HUS.out.rise (by have:=HUS.out.len;omega) HUS.out.pl (znd fun j _=>zb4 HUS.out.rise h1n HUS.out.sz _) HG.out.o.2.2.2).mono ?_
    rintro e w9 ⟨A9,c9,us9,F,rfl,hsol,hpf,hk9,hb9⟩
    have HSO:=znd (show SolP f.b.length (nyV n f.b.length) F us9 from hsol)
    have HPF:=znd hpf
    replace HG:=znd (HG.out.call hk9 hb9)
    clear hsol hpf hk9 hb9
    have cf:=Blk.cb HG.out.o.1
    go_wp2_with fail
    clear cf
    rw[zbo _ f.cols.length (by omega)]
    obtain⟨W7,gD,hW7,hgD,HG2⟩:=HG.out.al4 f.cols.length (by omega)
    rw[hW7,hgD]
    clear hW7 hgD HG
    obtain⟨D,hD⟩:∃D:Option Addr,D=some ⟨gD,0,none⟩:=⟨_,rfl⟩
    rw[←hD]at HG2⊢
    have HD:=znd hD
    have slD:Sl D f.cols.length:=by rw[hD];exact Sl.some_ _ _ _
    clear hD
    have hsl:=HF.out.1.len
    have HSL:=znd hsl
    have HG:=znd (show GL w [⟨48,4,.slice D f.cols.length f.cols.length,List.map za0 (zaH f.cols.length)⟩,⟨48,4,.slice C f.b.length f.b.length,List.map za0 cs⟩] (fun V=>Blk V w.heap.size 32 #[.int .i64 f.M,.slice f.Ac f.cols.length f.cc,.slice f.Al f.lo.length f.cl,.slice f.Ah f.hi.length f.ch,.slice f.Ak f.cost.length f.ck,.slice f.Ab f.b.length f.cb]∧FoD n f V∧LsR 1 stc (fun _ _=>True) SA st V∧Tz V) (fun V=>(∀p∈zaH f.cols.length,roN p V)∧LsR 5 tecells teN A9 us9 V) W7 from HG2.out.imp (fun _ h=>h) (fun V h=>⟨zbS _ V,h.1⟩))
    clear HG2
    rw[hsl]at slS⊢
    clear hsl
    go_wp2_with fail
    have HY1:=znd (show 1≤(nyV n f.b.length)∧n≤(nyV n f.b.length)from by have h9:=zep n (nlF n (f.b.length-1)) (Nat.zero_le f.b.length);have h8:=zgU (szG n (nlF n (f.b.length-1)) f.b.length) (2*nlF n (f.b.length-1)+1) f.b.length (Nat.zero_le f.b.length);have h7:szG n (nlF n (f.b.length-1)) 0=n:=rfl;have h6:szY (szG n (nlF n (f.b.length-1)) f.b.length) (2*nlF n (f.b.length-1)+1) f.b.length 0=szG n (nlF n (f.b.length-1)) f.b.length:=rfl;unfold nyV;omega)
    go_loopw [67] (fun iv wr=>∃(j:Nat) (ds:List (RV×Rat)),iv=.int .i64 (j:Int)∧j≤f.cols.length∧Hid (SetQ f.cols.length ds (fun i=>if i<j then(if zcM st i=true then 0 else numL f.cost i-dotQ (us9.map plq) ((zci f i).ts.map plq)) else 0))∧Hid (∀p∈ds,Sz p.2 (ndV n f.b.length))∧Hid (GL w [⟨48,4,.slice D f.cols.length f.cols.length,List.map za0 ds⟩,⟨48,4,.slice C f.b.length f.b.length,List.map za0 cs⟩] (fun V=>Blk V w.heap.size 32 #[.int .i64 f.M,.slice f.Ac f.cols.length f.cc,.slice f.Al f.lo.length f.cl,.slice f.Ah f.hi.length f.ch,.slice f.Ak f.cost.length f.ck,.slice f.Ab f.b.length f.cb]∧FoD n f V∧LsR 1 stc (fun _ _=>True) SA st V∧Tz V) (fun V=>(∀p∈ds,roN p V)∧LsR 5 tecells teN A9 us9 V) wr)) (fun iv _=>f.cols.length-(intOf iv).toNat)
    case atStart=>exact⟨0,zaH f.cols.length,rfl,Nat.zero_le _,znd ((SetQ.zero _).congr fun j _=>(if_neg (Nat.not_lt_zero _)).symm),znd (fun p hp=>by rw[show p=(zeroR,0)from by unfold zaH at hp;exact List.eq_of_mem_replicate hp];exact zaM.up (by unfold ndV;omega)),HG⟩
    case round=>
     clear HG
     obtain⟨j,ds,rfl,hj,HQD,HZD,HG⟩:=hrel
     by_cases hlj:j<f.cols.length
     ·have his:j<st.length:=by rw[HSL.out];exact hlj
      have cs1:=HG.out.o.2.2.1.c1 j his
      have HSI:=znd (List.getElem?_eq_getElem his)
      obtain⟨z,hz⟩:∃z,z=st[j]:=⟨_,rfl⟩
      rw[←hz]at cs1 HSI
      clear hz
      by_cases h0:z=0
      ·subst h0
       go_wp2_with fail
       go_roundw
       case rel=>exact⟨j+1,ds,by go_num,by omega,znd (HQD.out.congr fun i _=>ziW (g:=fun i=>if zcM st i=true then 0 else numL f.cost i-dotQ (us9.map plq) ((zci f i).ts.map plq)) (if_pos (zck.2 HSI.out)) i),HZD,HG⟩
       case measure=>(simp[intOf]<;>omega)
      ·have b0:(z != 0)=true:=by simp[h0]
       have HNB:=znd (show¬zcM st j=true from fun e=>h0 (by have h9:=zck.1 e;rw[HSI.out]at h9;injection h9))
       have hjk:j<f.cost.length:=by rw[HCK.out];exact hlj
       have hjd:j<ds.length:=by rw[HQD.out.n];exact hlj
       have hj0:(0:Int)≤(j:Int):=by omega
       have hj1:(j:Int)<(f.cost.length:Int):=by omega
       have hj2:(j:Int)<(f.cols.length:Int):=by omega
       have HKJ:=znd (zao hjk)
       have HCA:=znd (zbM hlj)
       have HRC:=znd (show∀V,FoD n f V→RC f.Ak j f.cost[j] V∧V.cell? (adr f.Ac j)=some (.slice (f.cols[j]).A (f.cols[j]).ts.length (f.cols[j]).c)from fun V h=>⟨h.cost.rc j hjk,h.cols.vc j hlj⟩)
       have HUD:=znd (show∀V,FoD n f V→roD n f.cost[j] V∧LsR 5 tecells (teD n) (f.cols[j]).A (f.cols[j]).ts V from fun V h=>⟨h.cost.ok _ (List.getElem_mem hjk),h.cols.ok _ (List.getElem_mem hlj)⟩)
       have HVC:=znd (HCOL.out _ (List.getElem_mem hlj))
       obtain⟨u,hu⟩:∃u,u=f.cost[j]:=⟨_,rfl⟩
       obtain⟨v,hv⟩:∃v,v=f.cols[j]:=⟨_,rfl⟩
       rw[←hu]at HRC HUD HKJ
       rw[←hv]at HRC HUD HCA HVC
       clear hu hv
       go_upto_region 21 with fail
       clear cs1 b0
       have HDZ:=znd (show Sz (dotQ (us9.map plq) (v.ts.map plq)) (1+f.b.length*(2*(nyV n f.b.length)+2))from(ziD HVC.out.rise HY1.out.1 (fun t ht=>(HVC.out.sz t ht).up HY1.out.2) us9 HSO.out.sz).up (Nat.add_le_add_left (Nat.mul_le_mul_right _ HSO.out.len) _))
       have HND:=znd (show(ndV n f.b.length)≤400000000000 from by unfold ndV;have h8:=HNY.out;have:=Nat.mul_le_mul hm5 (show 2*(nyV n f.b.length)+2≤2000000002 by omega);omega)
       have HQZ:=znd (show Sz (u.2-dotQ (us9.map plq) (v.ts.map plq)) (ndV n f.b.length)from Sz.sub (RatD.sz (HUD.out _ HG.out.o.2.1).1 h1n) HDZ.out)
       refine wp_region_noPanic ?_
       refine zab 16 (fun V=>CB w.heap.size #[.int .i64 f.M,.slice f.Ac f.cols.length f.cc,.slice f.Al f.lo.length f.cl,.slice f.Ah f.hi.length f.ch,.slice f.Ak f.cost.length f.ck,.slice f.Ab f.b.length f.cb] V∧RC f.Ak j u V∧V.cell? (adr f.Ac j)=some (.slice v.A v.ts.length v.c)) (by kernel_rfl) (by with_reducible first|exact⟨Blk.cb HG.out.o.1,HRC.out _ HG.out.o.2.1⟩|exact⟨Blk.cb HG.out.drew.o.1,HRC.out _ HG.out.drew.o.2.1⟩) (fun hHeld=>?_)
       replace HG:=znd HG.out.drew
       refine gTa 0 74 hHeld ?_
       refine gTa 1 75 hHeld ?_
       refine gTa 2 76 hHeld ?_
       refine gTa 3 77 hHeld ?_
       refine gTa 4 78 hHeld ?_
       refine gTa 5 79 hHeld ?_
       refine gTa 6 80 hHeld ?_
       refine gTa 7 81 hHeld ?_
       refine gTa 8 82 hHeld ?_
       refine gTa 9 83 hHeld ?_
       refine gTa 10 84 hHeld ?_
       refine gTa 11 85 hHeld ?_
       refine gTa 12 86 hHeld ?_
       refine gC 13 rfl (by kernel_rfl) (by rfl) (fun K hK=>?_)
       clear hHeld
       simp only[q1,q2,q3]
       go_simp
       refine(zjO _ (nyV n f.b.length) HNY.out HY1.out.1 A9 v.A c9 v.c us9 v.ts (HSO.out.d HG.out.n.2) (LsR.imp (HUD.out _ HG.out.o.2.1).2 (fun _ _ h=>RatD.mono9 h HY1.out.2)) HSO.out.rise HVC.out.rise (by have:=HSO.out.len;omega) (by have:=HVC.out.len;omega) HG.out.o.2.2.2).mono ?_
       rintro e wq ⟨kd,rfl,hk9,hb9⟩
       replace HG:=znd (HG.out.call hk9 hb9)
       clear hk9 hb9
       (try(go_wp2_with fail))
       refine hK.out _ _ (by with_reducible first|exact⟨Blk.cb HG.out.o.1,HRC.out _ HG.out.o.2.1⟩|exact⟨Blk.cb HG.out.drew.o.1,HRC.out _ HG.out.drew.o.2.1⟩) (fun hHeld=>?_)
       clear hK K
       try simp only[p1,p2,p3,p4]
       refine gC 14 rfl (by kernel_rfl) (by rfl) (fun K hK=>?_)
       clear hHeld
       simp only[q1,q2,q3]
       go_simp
       refine(zd0 _ u.1 kd u.2 (dotQ (us9.map plq) (v.ts.map plq)) (ndV n f.b.length) HND.out (by unfold ndV;omega) (RatD.mono9 (HUD.out _ HG.out.o.2.1).1 (by unfold ndV;omega)) (RatN.rat HG.out.n.1 (HDZ.out.up (by unfold ndV;omega))) HG.out.o.2.2.2).mono ?_
       rintro e wq ⟨k2,rfl,hk9,hb9⟩
       replace HG:=znd (HG.out.call hk9 hb9)
       clear hk9 hb9
       (try(go_wp2_with fail))
       refine hK.out _ _ (by with_reducible first|exact⟨Blk.cb HG.out.o.1,HRC.out _ HG.out.o.2.1⟩|exact⟨Blk.cb HG.out.drew.o.1,HRC.out _ HG.out.drew.o.2.1⟩) (fun hHeld=>?_)
       clear hK K
       try simp only[p1,p2,p3,p4]
       refine gTa 15 89 hHeld ?_
       have fr:=HG.out.free HD.out (k:=0) rfl
       have rcx:=HG.out.rc (k:=0) rfl hjd
       have hadd2:∀(n j:Nat),(⟨(adr D n).block,(adr D n).off+j,none⟩:Addr)=adr D (n+j):=fun n j=>by unfold adr;simp[Nat.add_assoc]
       have hs01:=za1 D (show j*4≠j*4+1 by omega)
       have hs02:=za1 D (show j*4≠j*4+2 by omega)
       have hs03:=za1 D (show j*4≠j*4+3 by omega)
       have hs12:=za1 D (show j*4+1≠j*4+2 by omega)
       have hs13:=za1 D (show j*4+1≠j*4+3 by omega)
       have hs23:=za1 D (show j*4+2≠j*4+3 by omega)
       refine gL rfl (by kernel_rfl) (by kernel_rfl) (by rfl) (fun K hK=>?_)
       clear hHeld
       simp only[q1,q2,q3]
       go_simp
       (try(go_wp2_with fail))
       refine hK.out _ _ ?_
       clear hK K
       try simp only[p1,p2,p3,p4]
       refine NoPanic.normal ?_
       clear rcx fr hadd2 hs01 hs02 hs03 hs12 hs13 hs23
       have HG2:=znd (show GL w [⟨48,4,.slice D f.cols.length f.cols.length,List.map za0 (ds.set j (k2,(u.2-dotQ (us9.map plq) (v.ts.map plq))))⟩,⟨48,4,.slice C f.b.length f.b.length,List.map za0 cs⟩] (fun V=>Blk V w.heap.size 32 #[.int .i64 f.M,.slice f.Ac f.cols.length f.cc,.slice f.Al f.lo.length f.cl,.slice f.Ah f.hi.length f.ch,.slice f.Ak f.cost.length f.ck,.slice f.Ab f.b.length f.cb]∧FoD n f V∧LsR 1 stc (fun _ _=>True) SA st V∧Tz V) (fun V=>(∀p∈ds.set j (k2,(u.2-dotQ (us9.map plq) (v.ts.map plq))),roN p V)∧LsR 5 tecells teN A9 us9 V) _ from(HG.out.putR HD.out (k:=0) rfl hjd k2 (u.2-dotQ (us9.map plq) (v.ts.map plq))).imp (fun _ h=>h) (fun V h=>⟨zb2 (P:=fun p=>roN p V) h.2.2.1 h.1,h.2.2.2⟩))
       clear HG
       generalize World.setCell _ _ _=Wz at HG2⊢
       go_wp2_with fail
       go_roundw
       case rel=>exact⟨j+1,ds.set j (k2,(u.2-dotQ (us9.map plq) (v.ts.map plq))),by go_num,by omega,znd (HQD.out.put (by rw[if_pos (Nat.lt_succ_self _),if_neg HNB.out,HCA.out,HKJ.out]) (fun i _ hi=>zj0 (g:=fun i=>if zcM st i=true then 0 else numL f.cost i-dotQ (us9.map plq) ((zci f i).ts.map plq)) hi)),znd (zb2 (P:=fun(p:RV×Rat)=>Sz p.2 (ndV n f.b.length)) HZD.out HQZ.out),HG2⟩
       case measure=>(simp[intOf]<;>omega)
     ·obtain rfl:j=f.cols.length:=by omega
      have hnj:¬((f.cols.length:Nat):Int)<((f.cols.length:Nat):Int):=by omega
      have cf:=Blk.cb HG.out.o.1
      go_wp2_with fail
      clear cf
      refine(show Calls Tryz.prog 39 #[.slice A9 us9.length c9,.int .i64 f.M] _ (fun e w'=>∃v,e=.returned v∧DenRes (fun j=>getQ (us9.map plq) (j:Int)) f.b.length _ v w')from by rw[HM.out];exact zcp _ (nyV n f.b.length) (by have:=HNY.out;omega) HY1.out.1 A9 c9 us9 (HSO.out.d HG.out.n.2) HSO.out.rise (by have:=HSO.out.len;omega) f.b.length (by omega) HSO.out.pl HG.out.o.2.2.2).mono ?_
      rintro e w8 ⟨v8,rfl,B,cp,g,os,hB,rfl,hq,hg⟩
      have HQ9:=znd hq
      have HG2:=znd (HG.out.join hg)
      have HCP:=znd (show f.b.length≤cp from by
       obtain⟨A',c',hv,hc,-⟩:=(hg.own _ (List.mem_singleton_self _)).form
       rw[List.length_map,hq.n]at hv hc
       injection hv with h1 h2 h3
       omega)
      clear hB hq hg HG
      have HGY:=znd (GL.read HG2.out)
      have HGD:=znd (GL.read (HG2.out.perm (List.Perm.swap _ _ _)))
      go_wp2_with fail
      have HYN:=znd (show∀i,i<f.b.length→numL os i=getQ (us9.map plq) (i:Int)from fun i hi=>by rw[zao (by rw[HQ9.out.n];exact hi),HQ9.out.q i (by rw[HQ9.out.n];exact hi)])
      exact bodyPost_ret (v:=.tuple #[.slice B f.b.length cp,.slice D f.cols.length f.cols.length,.int .i64 0]) (by simp[results,Tryz.results11,go_sem]) rfl (.inl ⟨HF.out.1,B,cp,os,D,ds,rfl,HCP.out,⟨HQ9.out.n,HQD.out.n,fun k hk=>by
       have hk2:k<(basI st f.cols.length).length:=by rw[HAE.out];exact hk
       have h9:=HPF.out k hk
       rw[HUS.out.q k,if_pos hk,if_pos hk]at h9
       rw[←h9]
       refine zae fun i hi=>?_
       rw[HYN.out i hi,HSO.out.q i,if_pos hi]
       show _=F i*rowQ (zbm f st) k (i:Int)
       rw[zhx hk2],fun j hj=>by
       rw[zao (by rw[HQD.out.n];exact hj),HQD.out.q j (by rw[HQD.out.n];exact hj)]
       show(if j<f.cols.length then _ else _)=_
       rw[if_pos hj]
       by_cases e:zcM st j=true
       ·rw[if_pos e,if_pos e]
       ·rw[if_neg e,if_neg e,zbM hj,zf4 _ f.b.length HSO.out.pl]
        congr 1
        refine zae fun i hi=>?_
        rw[HYN.out i hi,zat hj]⟩,fun p hp=>by
       obtain⟨i,hi,rfl⟩:=List.mem_iff_getElem.1 hp
       rw[HQ9.out.q i hi]
       exact zb4 HSO.out.rise HY1.out.1 HSO.out.sz _,HZD.out,((HGY.out.rsn.mono fun _ h=>h.1).and (HGD.out.rsn.mono fun _ h=>h.1)).imp fun V h=>⟨⟨h.1.1,h.1.2.1⟩,⟨h.2.1,h.2.2.2.1⟩⟩,HG2.out.bel⟩)
end Go.Proofs.YtfdmajmhmligpaaGreatDoor
