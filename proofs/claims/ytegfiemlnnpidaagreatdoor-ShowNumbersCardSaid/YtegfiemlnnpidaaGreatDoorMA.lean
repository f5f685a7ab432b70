/-
 tripwireref10: sameWords, Formed, side. tripwireref10.Pictures. tripwireref10.Behind. tripwireref10.Behind: Relu, Pool, the rest. tripwireref10.Behind: Pool; the whole. tripwireref10.Check.
-/
import Derived.Test.YtegfiemlnnpidaaGreatDoorNH
import Derived.Test.YtegfiemlnnpidaaGreatDoorPG
namespace Go.Proofs.YtegfiemlnnpidaaGreatDoor
set_option maxHeartbeats 16000000
open Go.RowKit

set_option maxRecDepth 100000 in
theorem zvl (w:World) (A B:Option Addr) (c d:Nat) (l:List Nat) (hl:l.length<=17592186044416) (ha:Rd w .u64 A l) (hb:Rd w .u64 B l):
 Calls Tryz.prog 57 #[.slice A l.length c,.slice B l.length d] w fun e w'=>e=.returned (.bool true)/\∃n,w'=w.drewN n:=by
 have Ha:=znd ha;have Hb:=znd hb;have hsa:=ha.sl;have hsb:=hb.sl;have h1:=zaA;clear ha hb;go_enter Tryz.func57,Tryz.ntmps57;go_wp2_with fail;go_loopw [5] (fun i wr=>∃k:Nat,k<=l.length/\i=.int .i64 k/\∃q,wr=w.drewN q) (fun i _=>l.length-(intOf i).toNat)
 case atStart=>exact⟨0,Nat.zero_le _,rfl,0,rfl⟩
 case round=>
  obtain⟨k,hk,rfl,q,rfl⟩:=hrel;by_cases hlt:k<l.length
  ·have hca:=Ha.out.cell k hlt;have hcb:=Hb.out.cell k hlt;generalize nth l k=x at*;go_wp2_with fail;go_quiet (fail);go_wp2_with fail;go_roundw
   case rel=>exact⟨k+1,by omega,by go_num,_,rfl⟩
   case measure=>simp[intOf];omega
  ·obtain rfl:k=l.length:=by omega
   go_wp2_with fail;go_ret;exact⟨rfl,_,rfl⟩

set_option maxRecDepth 100000 in
theorem zvc (w:World) (A B:Option Addr) (c d:Nat) (l m:List Nat) (hl:l.length<=17592186044416) (hlm:l.length=m.length) (ha:Rd w .u64 A l) (hb:Rd w .u64 B m) (hne:l≠m):
 Calls Tryz.prog 57 #[.slice A l.length c,.slice B l.length d] w fun e w'=>e=.returned (.bool false)/\∃n,w'=w.drewN n:=by
 have Hne:=znd hne;have Hlm:=znd hlm;have Ha:=znd ha;have Hb:=znd hb;have hsa:=ha.sl;have hsb:=hb.sl;rw[<-hlm]at hsb;have h1:=zaA;clear ha hb hne hlm;go_enter Tryz.func57,Tryz.ntmps57;go_wp2_with fail;go_loopw [5] (fun i wr=>∃k:Nat,k<=l.length/\Hid (∀t<k,nth l t=nth m t)/\i=.int .i64 k/\∃q,wr=w.drewN q) (fun i _=>l.length-(intOf i).toNat)
 case atStart=>exact⟨0,Nat.zero_le _,znd (fun t ht=>absurd ht (Nat.not_lt_zero t)),rfl,0,rfl⟩
 case round=>
  obtain⟨k,hk,Hall,rfl,q,rfl⟩:=hrel;by_cases hlt:k<l.length
  ·have hca:=Ha.out.cell k hlt;have hcb:=Hb.out.cell k (by rw[<-Hlm.out];exact hlt);by_cases he:nth l k=nth m k
   ·have Hal2:=znd (show∀t<k+1,nth l t=nth m t from fun t ht=>by
     rcases Nat.lt_or_eq_of_le (Nat.lt_succ_iff.1 ht)with h|h
     ·exact Hall.out t h
     ·rw[h];exact he)
    rw[<-he]at hcb;clear he Hall;generalize nth l k=x at hca hcb;go_wp2_with fail;go_quiet (fail);go_wp2_with fail;go_roundw
    case rel=>exact⟨k+1,by omega,Hal2,by go_num,_,rfl⟩
    case measure=>simp[intOf];omega
   ·have hx:((nth l k:Nat):Int)≠((nth m k:Nat):Int):=by omega
    generalize nth l k=x at*;generalize nth m k=y at*;go_wp2_with fail;go_quiet (fail);go_wp2_with fail;go_ret;exact⟨rfl,_,World.drewN_drewN _ _ _⟩
  ·exact absurd (zdT l m Hlm.out (fun t ht=>Hall.out t (by omega))) Hne.out

set_option maxRecDepth 100000 in
theorem ztT (w:World) (A B:Option Addr) (c d n m:Nat) (hne:n≠m):
 Calls Tryz.prog 57 #[.slice A n c,.slice B m d] w fun e w'=>e=.returned (.bool false)/\∃q,w'=w.drewN q:=by
 go_enter Tryz.func57,Tryz.ntmps57;go_wp2_with fail;go_ret;exact⟨rfl,0,rfl⟩

theorem zuv (w:World) (A B:Option Addr) (c d:Nat) (l m:List Nat) (hl:l.length<=17592186044416) (ha:Rd w .u64 A l) (hb:Rd w .u64 B m):
 Calls Tryz.prog 57 #[.slice A l.length c,.slice B m.length d] w fun e w'=>e=.returned (.bool (decide (l=m)))/\∃n,w'=w.drewN n:=by
 by_cases h:l=m
 ·subst h;rw[decide_eq_true rfl];exact zvl w A B c d l hl ha hb
 ·rw[decide_eq_false h];by_cases hn:l.length=m.length
  ·rw[<-hn];exact zvc w A B c d l m hl hn ha hb h
  ·exact ztT w A B c d _ _ hn

theorem zqG {W:World} {i j:IV} {l:List Nat} {z:Int} (B:Bool) (hk:i.k=l.length) (_hl:l.length<=17592186044416) (ha:Rd W .u64 i.A l) (hz:IntN j z W) (hB:B=true↔l=digs B64 z.natAbs) (hd:(digs B64 z.natAbs).length<=17592186044416):
 Calls Tryz.prog 57 #[.slice j.A j.k j.c,.slice i.A i.k i.c] W fun e w'=>e=.returned (.bool B)/\Below W.heap.size W w':=by
 rw[hk,hz.k];refine(zuv W j.A i.A j.c i.c (digs B64 z.natAbs) l hd hz.rd ha).mono ?_;rintro e w' ⟨rfl,q,rfl⟩;have:decide (digs B64 z.natAbs=l)=B:=by rw[Bool.eq_iff_iff,decide_eq_true_iff,hB];exact⟨fun h=>h.symm,fun h=>h.symm⟩
 rw[this];exact⟨rfl,Below.drewN (Below.refl _ _) q⟩
set_option maxRecDepth 100000 in
theorem zoL (w:World) (n:Nat) (hn:n<=10000) (h1n:1<=n) (A:Option Addr) (c:Nat) (l:List (RV×Rat)) (h:LsR 4 rtcells (roD n) A l w) (hl:l.length<=1000000) (nl:Nat) (hnl:nl=l.length):
 Calls Tryz.prog 32 #[.slice A nl c] w fun e w'=>zaR (∀p∈l,exP w p) e/\Below w.heap.size w w':=by
 have sl1:=h.sl;rw[<-hnl]at sl1;have hsz2:=zal;have hadd:=zaa;have hnb:nl<=1000000:=by omega
 have Hn:=znd hnl;have HD:=znd (show∀p∈l,RatD p.1 p.2 n w from h.ok);have HE:=znd (Env.start (h.old zbQ));clear h hnl hl;go_enter Tryz.func32,Tryz.ntmps32;go_wp2_with fail;go_loopw [3] (fun iv wr=>∃i:Nat,iv=.int .i64 (i:Int)/\i<=nl/\Hid (∀p∈l.take i,exP w p)/\Hid (Env w [] (fun V=>LsR 4 rtcells (roD n) A l V) (fun _=>True) wr)) (fun iv _=>nl-(intOf iv).toNat)
 case atStart=>exact⟨0,rfl,Nat.zero_le _,znd (by simp),HE⟩
 case round=>
  clear HE;obtain⟨i,rfl,hi,HP,HE⟩:=hrel;by_cases hlt:i<nl
  ·have hlt2:i<l.length:=by rw[<-Hn.out];exact hlt
   have HX:=znd (fun(V:World) (h:LsR 4 rtcells (roD n) A l V)=>h.rc i hlt2);have c0:=HX.out _ HE.out.o;obtain⟨p,hp⟩:∃p,p=l[i]:=⟨_,rfl⟩;rw[<-hp]at c0 HX;have HPeq:=znd hp;have Hm:=znd (show p∈l by rw[hp];exact List.getElem_mem hlt2);clear hp;have hpd:=HD.out p Hm.out;have hsz:=RatD.sz hpd h1n;have Hdl:=znd (show(digs B64 p.2.num.natAbs).length<=17592186044416/\(digs B64 (dn p.2).natAbs).length<=17592186044416 from⟨Nat.le_trans (zbG hsz.1) (by omega),Nat.le_trans (zbG (Nat.lt_of_le_of_lt (show(dn p.2).natAbs<=p.2.den from by unfold dn;split<;>simp) hsz.2)) (by omega)⟩);obtain⟨x,d,hx,hd,-⟩:=hpd.ex;obtain⟨l1,hk1,hr1,-,-⟩:=hx.ex;obtain⟨l2,hk2,hr2,-,-⟩:=hd.ex;have HRd1:=znd (show p.1.num.k=l1.length/\l1.length<=17592186044416 from⟨hk1,by have:=hx.le;omega⟩);have HRd2:=znd (show p.1.den.k=l2.length/\l2.length<=17592186044416 from⟨hk2,by have:=hd.le;omega⟩);have HRd1V:=znd (fun(V:World) (hb:Below w.heap.size w V)=>hr1.below hb (Nat.le_refl _));have HRd2V:=znd (fun(V:World) (hb:Below w.heap.size w V)=>hr2.below hb (Nat.le_refl _))
   have HOneK:=znd (fun(k:RV) (V:World) (hu:RatN k p.2 V)=>show exP w p↔((p.1.num.neg=k.num.neg/\l1=digs B64 p.2.num.natAbs)/\(p.1.den.neg=k.den.neg/\l2=digs B64 (dn p.2).natAbs))from by
    rw[hu.num.neg,hu.den.neg,<-zgL hk1 hr1 hx.cap,<-zgL hk2 hr2 hd.cap];exact⟨fun h=>⟨h.num,h.den⟩,fun h=>⟨h.1,h.2⟩⟩)
   have HBad:=znd (show(∀p∈l,exP w p)->exP w p from fun h=>h p Hm.out);clear hx hd hk1 hk2 hr1 hr2 hpd hsz;go_wp2_with fail;refine(zp8 _ p.1 p.2 n hn h1n (HE.out.o.ok p Hm.out)).mono ?_;rintro e w1 ⟨k,rfl,hk,hb⟩;replace HE:=znd ((Env.ret HE.out hk hb).imp (fun _ h=>h) (fun _ h=>h.1));have HOne:=znd (HOneK.out k _ HE.out.n);clear hk hb c0 HOneK;go_upto_region 5 with fail;obtain⟨W2,g4,hW2,hg4,HE⟩:=Env.al HE.out 55 (cR k);rw[hW2,hg4];clear hW2 hg4;have HC:=znd (fun(V:World) (h:Env w [⟨g4,55,(cR k)⟩] (fun V=>LsR 4 rtcells (roD n) A l V) (fun V=>RatN k p.2 V) V)=>And.intro (Env.c1 h) (HX.out _ h.o));refine wp_region_noPanic ?_;refine wp_region_held_drew (S:=(fun V=>CB g4 (cR k) V/\RC A i p V)) (by kernel_rfl) (HC.out _ HE.out.wd) (fun hHeld=>?_);replace HE:=znd HE.out.drew;refine hT 0 16 hHeld ?_;refine hT 1 17 hHeld ?_;refine hT 2 18 hHeld ?_;refine hT 3 19 hHeld ?_;refine hT 4 20 hHeld ?_;refine hT 5 21 hHeld ?_;refine hT 6 22 hHeld ?_;refine hT 7 23 hHeld ?_;refine hT 8 24 hHeld ?_;by_cases ee:k.num.neg≠p.1.num.neg
   ·have HNo:=znd (show¬exP w p from fun h=>absurd (HOne.out.1 h).1.1.symm ee);have bb:=zu5 ee;refine hT 9 25 hHeld ?_;refine hT 10 26 hHeld ?_;refine zp4 [11,12,13,14,15,16,17,18,19,20,21,22,23,24,25,26,27,28,29,30,31,32,33,34,35,36,37,38,39,40,41,42,43,44,45,46,47] 0 #[true,true,true,true,true,true,true,true,true,true,true,true,true,true,true,true,true,true,true,true,true,true,true,true,true,true,true,true,true,true,true,true,true,true,true,true,true,true,true,true,true,true,true,true,true,true,true,true] (fun a0=>(((((((((((((((((((((((((((((((((((((a0.put (some 27) undef).put (some 28) undef).put (some 29) undef).put (some 30) undef).put (some 31) undef).put (some 32) undef).put (some 33) undef).put (some 34) undef).put (some 35) undef).put (some 36) undef).put (some 37) (.bool true)).put (some 38) (.bool true)).put (some 39) undef).put (some 40) undef).put (some 41) undef).put (some 42) undef).put (some 43) undef).put (some 44) undef).put (some 45) undef).put (some 46) undef).put (some 47) undef).put (some 48) undef).put (some 49) undef).put (some 50) (.bool true)).put (some 51) (.bool true)).put (some 52) undef).put (some 53) undef).put (some 54) undef).put (some 55) undef).put (some 56) undef).put (some 57) undef).put (some 58) undef).put (some 59) undef).put (some 60) undef).put (some 61) undef).put (some 62) undef).put (some 63) (.bool true))) rfl (by kernel_rfl) (by kernel_rfl) (fun _ _ _ _ _ h=>h) hHeld ?_
    try simp only[p1,p2,p3,p4]
    refine wpAnyH_done (by kernel_rfl) ?_ _;refine NoPanic.normal ?_;go_wp2_with fail;go_ret;exact⟨za7 false ⟨fun h0=>absurd h0 (by decide),fun hr=>absurd (HBad.out hr) HNo.out⟩,HE.out.bel⟩
   ·have hsk:=trivial;clear hsk;have bb:=ztP ee;have E4:=znd (show p.1.num.neg=k.num.neg by have:=ee;simp at this;exact this.symm);clear ee;refine hT 9 25 hHeld ?_;refine hT 10 26 hHeld ?_;refine hT 11 27 hHeld ?_;refine hT 12 28 hHeld ?_;refine hT 13 29 hHeld ?_;refine hT 14 30 hHeld ?_;refine hT 15 31 hHeld ?_;refine hT 16 32 hHeld ?_;refine hT 17 33 hHeld ?_;refine hT 18 34 hHeld ?_;refine hT 19 35 hHeld ?_;by_cases ee:k.den.neg≠p.1.den.neg
    ·have HNo:=znd (show¬exP w p from fun h=>absurd (HOne.out.1 h).2.1.symm ee);have bb:=zu5 ee;refine hT 20 36 hHeld ?_;refine zp4 [21,22,23,24,25,26,27,28,29,30,31,32,33,34,35,36,37,38,39,40,41,42,43,44,45,46,47] 0 #[true,true,true,true,true,true,true,true,true,true,true,true,true,true,true,true,true,true,true,true,true,true,true,true,true,true,true,true,true,true,true,true,true,true,true,true,true,true,true,true,true,true,true,true,true,true,true,true] (fun a0=>(((((((((((((((((((((((((((a0.put (some 37) (.bool true)).put (some 38) (.bool true)).put (some 39) undef).put (some 40) undef).put (some 41) undef).put (some 42) undef).put (some 43) undef).put (some 44) undef).put (some 45) undef).put (some 46) undef).put (some 47) undef).put (some 48) undef).put (some 49) undef).put (some 50) (.bool true)).put (some 51) (.bool true)).put (some 52) undef).put (some 53) undef).put (some 54) undef).put (some 55) undef).put (some 56) undef).put (some 57) undef).put (some 58) undef).put (some 59) undef).put (some 60) undef).put (some 61) undef).put (some 62) undef).put (some 63) (.bool true))) rfl (by kernel_rfl) (by kernel_rfl) (fun _ _ _ _ _ h=>h) hHeld ?_
     try simp only[p1,p2,p3,p4]
     refine wpAnyH_done (by kernel_rfl) ?_ _;refine NoPanic.normal ?_;go_wp2_with fail;go_ret;exact⟨za7 false ⟨fun h0=>absurd h0 (by decide),fun hr=>absurd (HBad.out hr) HNo.out⟩,HE.out.bel⟩
    ·have hsk:=trivial;clear hsk;have bb:=ztP ee;have E5:=znd (show p.1.den.neg=k.den.neg by have:=ee;simp at this;exact this.symm);clear ee;refine hT 20 36 hHeld ?_;refine hT 21 37 hHeld ?_;refine hT 22 38 hHeld ?_;refine hT 23 39 hHeld ?_;refine hT 24 40 hHeld ?_;refine hT 25 41 hHeld ?_;refine hT 26 42 hHeld ?_;refine hT 27 43 hHeld ?_;refine hT 28 44 hHeld ?_;refine hT 29 45 hHeld ?_;refine hT 30 46 hHeld ?_;refine hT 31 47 hHeld ?_;by_cases ee:l1≠digs B64 p.2.num.natAbs
     ·have HNo:=znd (show¬exP w p from fun h=>absurd (HOne.out.1 h).1.2 ee);have HBnum:=znd (show false=true↔l1=digs B64 p.2.num.natAbs from⟨fun h=>absurd h (by decide),fun h=>absurd h ee⟩);clear ee;refine za8 (i:=32) rfl (by kernel_rfl) (by rfl) (fun K hK=>?_);clear hHeld;simp only[q1,q2,q3];go_simp;refine(zqG false HRd1.out.1 HRd1.out.2 (HRd1V.out _ HE.out.bel) (HE.out.n).num (HBnum.out) (Hdl.out.1)).mono ?_;rintro e w2 ⟨rfl,hb⟩;replace HE:=znd (Env.call HE.out hb);clear hb;(try(go_wp2_with fail))
      refine hK.out _ _ (HC.out _ HE.out.wd) (fun hHeld=>?_);clear hK K
      try simp only[p1,p2,p3,p4]
      refine hT 33 49 hHeld ?_;refine zp4 [34,35,36,37,38,39,40,41,42,43,44,45,46,47] 0 #[true,true,true,true,true,true,true,true,true,true,true,true,true,true,true,true,true,true,true,true,true,true,true,true,true,true,true,true,true,true,true,true,true,true,true,true,true,true,true,true,true,true,true,true,true,true,true,true] (fun a0=>((((((((((((((a0.put (some 50) (.bool true)).put (some 51) (.bool true)).put (some 52) undef).put (some 53) undef).put (some 54) undef).put (some 55) undef).put (some 56) undef).put (some 57) undef).put (some 58) undef).put (some 59) undef).put (some 60) undef).put (some 61) undef).put (some 62) undef).put (some 63) (.bool true))) rfl (by kernel_rfl) (by kernel_rfl) (fun _ _ _ _ _ h=>h) hHeld ?_
      try simp only[p1,p2,p3,p4]
      refine wpAnyH_done (by kernel_rfl) ?_ _;refine NoPanic.normal ?_;go_wp2_with fail;go_ret;exact⟨za7 false ⟨fun h0=>absurd h0 (by decide),fun hr=>absurd (HBad.out hr) HNo.out⟩,HE.out.bel⟩
     ·have hsk:=trivial;clear hsk;have HBnum:=znd (show true=true↔l1=digs B64 p.2.num.natAbs from⟨fun _=>by simpa using ee,fun _=>rfl⟩);have E6:=znd (show l1=digs B64 p.2.num.natAbs by simpa using ee);clear ee;refine za8 (i:=32) rfl (by kernel_rfl) (by rfl) (fun K hK=>?_);clear hHeld;simp only[q1,q2,q3];go_simp;refine(zqG true HRd1.out.1 HRd1.out.2 (HRd1V.out _ HE.out.bel) (HE.out.n).num (HBnum.out) (Hdl.out.1)).mono ?_;rintro e w2 ⟨rfl,hb⟩;replace HE:=znd (Env.call HE.out hb);clear hb;(try(go_wp2_with fail))
      refine hK.out _ _ (HC.out _ HE.out.wd) (fun hHeld=>?_);clear hK K
      try simp only[p1,p2,p3,p4]
      refine hT 33 49 hHeld ?_;refine hT 34 50 hHeld ?_;refine hT 35 51 hHeld ?_;refine hT 36 52 hHeld ?_;refine hT 37 53 hHeld ?_;refine hT 38 54 hHeld ?_;refine hT 39 55 hHeld ?_;refine hT 40 56 hHeld ?_;refine hT 41 57 hHeld ?_;refine hT 42 58 hHeld ?_;refine hT 43 59 hHeld ?_;refine hT 44 60 hHeld ?_;by_cases ee:l2≠digs B64 (dn p.2).natAbs
      ·have HNo:=znd (show¬exP w p from fun h=>absurd (HOne.out.1 h).2.2 ee);have HBden:=znd (show false=true↔l2=digs B64 (dn p.2).natAbs from⟨fun h=>absurd h (by decide),fun h=>absurd h ee⟩);clear ee;refine za8 (i:=45) rfl (by kernel_rfl) (by rfl) (fun K hK=>?_);clear hHeld;simp only[q1,q2,q3];go_simp;refine(zqG false HRd2.out.1 HRd2.out.2 (HRd2V.out _ HE.out.bel) (HE.out.n).den (HBden.out) (Hdl.out.2)).mono ?_;rintro e w2 ⟨rfl,hb⟩;replace HE:=znd (Env.call HE.out hb);clear hb;(try(go_wp2_with fail))
       refine hK.out _ _ (HC.out _ HE.out.wd) (fun hHeld=>?_);clear hK K
       try simp only[p1,p2,p3,p4]
       refine hT 46 62 hHeld ?_;refine zp4 [47] 0 #[true,true,true,true,true,true,true,true,true,true,true,true,true,true,true,true,true,true,true,true,true,true,true,true,true,true,true,true,true,true,true,true,true,true,true,true,true,true,true,true,true,true,true,true,true,true,true,true] (fun a0=>(a0.put (some 63) (.bool true))) rfl (by kernel_rfl) (by kernel_rfl) (fun _ _ _ _ _ h=>h) hHeld ?_
       try simp only[p1,p2,p3,p4]
       refine wpAnyH_done (by kernel_rfl) ?_ _;refine NoPanic.normal ?_;go_wp2_with fail;go_ret;exact⟨za7 false ⟨fun h0=>absurd h0 (by decide),fun hr=>absurd (HBad.out hr) HNo.out⟩,HE.out.bel⟩
      ·have hsk:=trivial;clear hsk;have HBden:=znd (show true=true↔l2=digs B64 (dn p.2).natAbs from⟨fun _=>by simpa using ee,fun _=>rfl⟩);have E7:=znd (show l2=digs B64 (dn p.2).natAbs by simpa using ee);clear ee;refine za8 (i:=45) rfl (by kernel_rfl) (by rfl) (fun K hK=>?_);clear hHeld;simp only[q1,q2,q3];go_simp;refine(zqG true HRd2.out.1 HRd2.out.2 (HRd2V.out _ HE.out.bel) (HE.out.n).den (HBden.out) (Hdl.out.2)).mono ?_;rintro e w2 ⟨rfl,hb⟩;replace HE:=znd (Env.call HE.out hb);clear hb;(try(go_wp2_with fail))
       refine hK.out _ _ (HC.out _ HE.out.wd) (fun hHeld=>?_);clear hK K
       try simp only[p1,p2,p3,p4]
       refine hT 46 62 hHeld ?_;refine hT 47 63 hHeld ?_;refine wpAnyH_done (by kernel_rfl) ?_ _;refine NoPanic.normal ?_;have HNx:=znd (zoC HP.out hlt2 (HPeq.out▸HOne.out.2 ⟨⟨E4.out,E6.out⟩,E5.out,E7.out⟩));go_wp2_with fail;go_roundw
       case rel=>exact⟨i+1,by go_num,by omega,HNx,znd (HE.out.drop.imp (fun _ h=>h) (fun _ _=>trivial))⟩
       case measure=>(simp[intOf]<;>omega)
  ·obtain rfl:i=nl:=by omega
   have HP2:=znd (show∀p∈l,exP w p by have:=HP.out;rw[Hn.out,List.take_length]at this;exact this);go_wp2_with fail;go_ret;exact⟨za7 true ⟨fun _=>HP2.out,fun _=>rfl⟩,HE.out.bel⟩
set_option maxRecDepth 100000 in
theorem zsY (w:World) (z:Int) (hz:¬1<=z):Calls Tryz.prog 131 #[.int .i64 z] w fun e w'=>zaR (side z) e/\w'=w:=by
 have Hz:=znd hz;go_enter Tryz.func131,Tryz.ntmps131;have hz':¬z≥1:=Hz.out;go_wp2_with fail;go_ret;exact⟨za7 false ⟨fun h=>absurd h (by decide),fun h=>by have h1:=h.1;have h2:=Hz.out;omega⟩,rfl⟩
set_option maxRecDepth 100000 in
theorem ztk (w:World) (z:Int) (hz:1<=z):Calls Tryz.prog 131 #[.int .i64 z] w fun e w'=>zaR (side z) e/\w'=w:=by
 have hz':z≥1:=hz;go_enter Tryz.func131,Tryz.ntmps131;go_wp2_with fail;go_ret;exact⟨za7 _ (by unfold side;simp only[decide_eq_true_iff];omega),rfl⟩
theorem zoW (w:World) (z:Int):Calls Tryz.prog 131 #[.int .i64 z] w fun e w'=>zaR (side z) e/\w'=w:=by
 by_cases hz:1<=z
 ·exact ztk w z hz
 ·exact zsY w z hz

theorem zrX {D s:Int} {i:Nat} (hs:1<=s) (h1:D<(i:Int)*s) (h2:i=0\/((i:Int)-1)*s<=D):(0<=D->D/s+1=(i:Int))/\(D<0->i=0):=by
 constructor
 ·intro hD;rcases h2 with h2|h2
  ·subst h2;simp at h1;omega
  ·have a1:(i:Int)-1<=D/s:=(Int.le_ediv_iff_mul_le (by omega)).2 h2;have a2:D/s<(i:Int):=(Int.ediv_lt_iff_lt_mul (by omega)).2 h1;omega
 ·intro hD;rcases h2 with h2|h2
  ·exact h2
  ·rcases Nat.eq_zero_or_pos i with h|h
   ·exact h
   ·have a3:0<=((i:Int)-1)*s:=Int.mul_nonneg (by omega) (by omega);omega
structure PicOk (l:LaV):Prop where
 s:sidesP l
 pad:0<=l.pad/\l.pad<l.kh/\l.pad<l.kw
 h:0<=l.high+2*l.pad-l.kh/\0<=l.wide+2*l.pad-l.kw
def PicRes (l:LaV) (e:Ending):Prop:=(PicOk l/\e=.returned (.tuple #[.int .i64 (zpj l),.int .i64 (zpi l),.bool true]))\/(¬PicOk l/\∃a b,e=.returned (.tuple #[.int .i64 a,.int .i64 b,.bool false]))
theorem PicRes.no {l:LaV} {w w':World} {a b:Int} (h:¬PicOk l) (hb:Below w.heap.size w w'):PicRes l (.returned (.tuple #[.int .i64 a,.int .i64 b,.bool false]))/\Below w.heap.size w w':=⟨.inr ⟨h,a,b,rfl⟩,hb⟩
set_option maxRecDepth 100000 in
theorem zqX (w:World) (l:LaV) (nr nb nk ng:Nat):Calls Tryz.prog 87 #[lA l nr nb nk ng] w fun e w'=>PicRes l e/\Below w.heap.size w w':=by
 have HE:=znd (layL l nr nb nk ng (Rests.pure trivial w _));have c:=Env.c1 HE.out;unfold lA;go_enter Tryz.func87,Tryz.ntmps87;go_wp2_with fail;refine(zoW _ l.ch).mono ?_;rintro e w1 ⟨⟨B,rfl,hB⟩,rfl⟩;have HSch:=znd hB;clear hB
 cases B
 ·go_wp2_with fail;go_ret3;exact PicRes.no (fun h9=>absurd (HSch.out.2 h9.s.1) (by decide)) HE.out.bel
 ·have hsk:=trivial;clear hsk;go_wp2_with fail;refine(zoW _ l.high).mono ?_;rintro e w2 ⟨⟨B,rfl,hB⟩,rfl⟩;have HShigh:=znd hB;clear hB
  cases B
  ·go_wp2_with fail;go_ret3;exact PicRes.no (fun h9=>absurd (HShigh.out.2 h9.s.2.1) (by decide)) HE.out.bel
  ·have hsk:=trivial;clear hsk;go_wp2_with fail;refine(zoW _ l.wide).mono ?_;rintro e w3 ⟨⟨B,rfl,hB⟩,rfl⟩;have HSwide:=znd hB;clear hB
   cases B
   ·go_wp2_with fail;go_ret3;exact PicRes.no (fun h9=>absurd (HSwide.out.2 h9.s.2.2.1) (by decide)) HE.out.bel
   ·have hsk:=trivial;clear hsk;go_wp2_with fail;refine(zoW _ l.out).mono ?_;rintro e w4 ⟨⟨B,rfl,hB⟩,rfl⟩;have HSout:=znd hB;clear hB
    cases B
    ·go_wp2_with fail;go_ret3;exact PicRes.no (fun h9=>absurd (HSout.out.2 h9.s.2.2.2.1) (by decide)) HE.out.bel
    ·have hsk:=trivial;clear hsk;go_wp2_with fail;refine(zoW _ l.kh).mono ?_;rintro e w5 ⟨⟨B,rfl,hB⟩,rfl⟩;have HSkh:=znd hB;clear hB
     cases B
     ·go_wp2_with fail;go_ret3;exact PicRes.no (fun h9=>absurd (HSkh.out.2 h9.s.2.2.2.2.1) (by decide)) HE.out.bel
     ·have hsk:=trivial;clear hsk;go_wp2_with fail;refine(zoW _ l.kw).mono ?_;rintro e w6 ⟨⟨B,rfl,hB⟩,rfl⟩;have HSkw:=znd hB;clear hB
      cases B
      ·go_wp2_with fail;go_ret3;exact PicRes.no (fun h9=>absurd (HSkw.out.2 h9.s.2.2.2.2.2.1) (by decide)) HE.out.bel
      ·have hsk:=trivial;clear hsk;go_wp2_with fail;refine(zoW _ l.st).mono ?_;rintro e w7 ⟨⟨B,rfl,hB⟩,rfl⟩;have HSst:=znd hB;clear hB
       cases B
       ·go_wp2_with fail;go_ret3;exact PicRes.no (fun h9=>absurd (HSst.out.2 h9.s.2.2.2.2.2.2) (by decide)) HE.out.bel
       ·have hsk:=trivial;clear hsk;have HSD:=znd (show sidesP l from⟨HSch.out.1 (by first|rfl|trivial),HShigh.out.1 (by first|rfl|trivial),HSwide.out.1 (by first|rfl|trivial),HSout.out.1 (by first|rfl|trivial),HSkh.out.1 (by first|rfl|trivial),HSkw.out.1 (by first|rfl|trivial),HSst.out.1 (by first|rfl|trivial)⟩);clear HSch HShigh HSwide HSout HSkh HSkw HSst;by_cases q0:l.pad<0
        ·have H9:=znd q0;go_wp2_with fail;go_ret3;exact PicRes.no (fun h9=>by have:=h9.pad;have:=H9.out;omega) HE.out.bel
        ·have Hq0:=znd q0;by_cases q1:l.pad≥l.kh
         ·have H9:=znd q1;go_wp2_with fail;go_ret3;exact PicRes.no (fun h9=>by have:=h9.pad;have:=H9.out;omega) HE.out.bel
         ·have Hq1:=znd q1;by_cases q2:l.pad≥l.kw
          ·have H9:=znd q2;go_wp2_with fail;go_ret3;exact PicRes.no (fun h9=>by have:=h9.pad;have:=H9.out;omega) HE.out.bel
          ·have Hq2:=znd q2;have hn:=HSD.out.nn;have v1:=zcs (z:=2*l.pad) (by omega);have v2:=zpo (z:=l.high+2*l.pad) (by omega);have v3:=zpo (z:=l.wide+2*l.pad) (by omega);obtain⟨HH,hHH⟩:∃z,z=l.high+2*l.pad:=⟨_,rfl⟩;obtain⟨WW,hWW⟩:∃z,z=l.wide+2*l.pad:=⟨_,rfl⟩;rw[<-hHH]at v2;rw[<-hWW]at v3;have hHb:0<=HH/\HH<=1000:=by omega
           have hWb:0<=WW/\WW<=1000:=by omega
           have hkb:1<=l.kh/\l.kh<=256/\1<=l.kw/\l.kw<=256/\1<=l.st/\l.st<=256:=by have h9:=HSD.out;unfold sidesP side at h9;omega
           have v2':l.high+2*l.pad=HH:=hHH.symm;have v3':l.wide+2*l.pad=WW:=hWW.symm;have HHH:=znd hHH;have HWW:=znd hWW;clear hHH hWW hn;replace HE:=znd (HE.out.imp (φ:=fun _=>True) (ψ:=fun _=>True) (fun _ _=>trivial) (fun _ _=>trivial));go_wp2_with fail;clear q0 q1 q2 c;go_loopw [5,6] (fun rv av wr=>∃(i:Nat) (a:Int),rv=.int .i64 (i:Int)/\av=.int .i64 a/\0<=a/\a<=2000/\(i:Int)<=a/\Hid (a=(i:Int)*l.st)/\Hid (i=0\/a-l.st<=HH-l.kh)/\Hid (Env w [⟨w.heap.size,49,#[.int .u8 l.kind,.slice l.Ar nr l.cr,.slice l.Ab nb l.cb,.int .i64 l.ch,.int .i64 l.high,.int .i64 l.wide,.int .i64 l.out,.int .i64 l.kh,.int .i64 l.kw,.int .i64 l.st,.int .i64 l.pad,.slice l.Ak nk l.ck,.slice l.Ag ng l.cg]⟩] (fun _=>True) (fun _=>True) wr)) (fun _ av _=>5000-(intOf av).toNat)
           case atStart=>exact⟨0,0,rfl,rfl,by omega,by omega,by omega,znd (by simp),znd (.inl rfl),HE⟩
           case round=>
            clear HE;obtain⟨i,a,rfl,rfl,ha0,ha1,hia,HA,HB,HE⟩:=hrel;have c:=Env.c1 HE.out;have u1:=zcs (z:=a+l.kh) (by omega);by_cases hlt:a+l.kh<=HH
            ·have u2:=zcs (z:=a+l.st) (by omega);have u3:=zcs (z:=(i:Int)+1) (by omega);go_wp2_with fail;go_roundw
             case rel=>exact⟨i+1,a+l.st,by go_num,rfl,by omega,by omega,by omega,znd (by rw[HA.out,Int.natCast_add,Int.add_mul];simp),znd (.inr (by omega)),HE⟩
             case measure=>(simp[intOf]<;>omega)
            ·have HR:=znd (zrX (D:=HH-l.kh) (s:=l.st) (i:=i) (by omega) (by rw[<-HA.out];omega) (by rcases HB.out with h|h;exact .inl h;right;rw[Int.sub_mul,<-HA.out];omega));have HiR:=znd (show(i:Int)<=2000 by omega);clear HA HB ha0 ha1 hia;obtain⟨j0,hj0⟩:∃j:Nat,j=i:=⟨_,rfl⟩;rw[<-hj0]at HR HiR⊢;clear hj0;go_wp2_with fail;clear c hlt u1;go_loopw [7,8] (fun rv av wr=>∃(i:Nat) (a:Int),rv=.int .i64 (i:Int)/\av=.int .i64 a/\0<=a/\a<=2000/\(i:Int)<=a/\Hid (a=(i:Int)*l.st)/\Hid (i=0\/a-l.st<=WW-l.kw)/\Hid (Env w [⟨w.heap.size,49,#[.int .u8 l.kind,.slice l.Ar nr l.cr,.slice l.Ab nb l.cb,.int .i64 l.ch,.int .i64 l.high,.int .i64 l.wide,.int .i64 l.out,.int .i64 l.kh,.int .i64 l.kw,.int .i64 l.st,.int .i64 l.pad,.slice l.Ak nk l.ck,.slice l.Ag ng l.cg]⟩] (fun _=>True) (fun _=>True) wr)) (fun _ av _=>5000-(intOf av).toNat)
             case atStart=>exact⟨0,0,rfl,rfl,by omega,by omega,by omega,znd (by simp),znd (.inl rfl),HE⟩
             case round=>
              clear HE;obtain⟨i,a,rfl,rfl,ha0,ha1,hia,HA,HB,HE⟩:=hrel;have c:=Env.c1 HE.out;have u1:=zcs (z:=a+l.kw) (by omega);by_cases hlt:a+l.kw<=WW
              ·have u2:=zcs (z:=a+l.st) (by omega);have u3:=zcs (z:=(i:Int)+1) (by omega);go_wp2_with fail;go_roundw
               case rel=>exact⟨i+1,a+l.st,by go_num,rfl,by omega,by omega,by omega,znd (by rw[HA.out,Int.natCast_add,Int.add_mul];simp),znd (.inr (by omega)),HE⟩
               case measure=>(simp[intOf]<;>omega)
              ·have HQ:=znd (zrX (D:=WW-l.kw) (s:=l.st) (i:=i) (by omega) (by rw[<-HA.out];omega) (by rcases HB.out with h|h;exact .inl h;right;rw[Int.sub_mul,<-HA.out];omega));have HiQ:=znd (show(i:Int)<=2000 by omega);clear HA HB ha0 ha1 hia;have HPic:=znd (show(0<=l.high+2*l.pad-l.kh/\0<=l.wide+2*l.pad-l.kw)->PicOk l from fun h9=>⟨HSD.out,by have:=Hq0.out;have:=Hq1.out;have:=Hq2.out;omega,h9⟩);have HRq:=znd (show zpj l=(HH-l.kh)/l.st+1 by unfold zpj;rw[HHH.out]);have HCq:=znd (show zpi l=(WW-l.kw)/l.st+1 by unfold zpi;rw[HWW.out]);by_cases g0:0<j0
               ·by_cases g1:0<i
                ·have G0:=znd g0;have G1:=znd g1;go_wp2_with fail;go_ret3;have d1:0<=HH-l.kh:=by
                  rcases Int.lt_or_le (HH-l.kh) 0 with h|h
                  ·have:=HR.out.2 h;have:=G0.out;omega
                  ·exact h
                 have d2:0<=WW-l.kw:=by
                  rcases Int.lt_or_le (WW-l.kw) 0 with h|h
                  ·have:=HQ.out.2 h;have:=G1.out;omega
                  ·exact h
                 have r1:=HR.out.1 d1;have r2:=HQ.out.1 d2;exact⟨.inl ⟨HPic.out (by have:=HHH.out;have:=HWW.out;omega),by rw[HRq.out,HCq.out,r1,r2];rfl⟩,HE.out.bel⟩
                ·have G1:=znd g1;go_wp2_with fail;go_ret3;exact PicRes.no (fun h9=>by have h8:=h9.h;have h7:=HQ.out.1 (by have:=HWW.out;omega);have h6:=G1.out;have h5:0<=(WW-l.kw)/l.st:=Int.ediv_nonneg (by have:=HWW.out;omega) (by omega);omega) HE.out.bel
               ·have G0:=znd g0;go_wp2_with fail;go_ret3;exact PicRes.no (fun h9=>by have h8:=h9.h;have h7:=HR.out.1 (by have:=HHH.out;omega);have h6:=G0.out;have h5:0<=(HH-l.kh)/l.st:=Int.ediv_nonneg (by have:=HHH.out;omega) (by omega);omega) HE.out.bel

def Beh10 (P:Prop) (u t:Int) (e:Ending):Prop:=(P/\e=.returned (.tuple #[.int .i64 u,.int .i64 t,.bool true]))\/(¬P/\∃a b,e=.returned (.tuple #[.int .i64 a,.int .i64 b,.bool false]))
theorem Beh10.no {P:Prop} {u t a b:Int} {w w':World} (hP:¬P) (hb:Below w.heap.size w w'):Beh10 P u t (.returned (.tuple #[.int .i64 a,.int .i64 b,.bool false]))/\Below w.heap.size w w':=⟨.inr ⟨hP,a,b,rfl⟩,hb⟩
def zr4 (l:LaV):Prop:=l.ch=0/\l.high=0/\l.wide=0/\l.out=0/\l.kh=0/\l.kw=0/\l.st=0/\l.pad=0
theorem nadd {a b m:Nat} (h:m=a+b) (hb:m<=1152921504606846976):IntKind.i64.wrap ((a:Int)+(b:Int))=(m:Int):=by
 rw[zcs (by omega)];omega
theorem zoH {z:Int} (h:z≠0):(z != 0)=true:=by simp[h]
theorem zoI {z:Int} (h:z=0):(z != 0)=false:=by simp[h]
structure LaT (l:LaV):Prop extends LaS l where
 row1:∀v∈l.rows,v.ts.length<=100
set_option maxRecDepth 100000 in
theorem zuM (w:World) (n:Nat) (hn:n<=20) (h1n:1<=n) (l:LaV) (N:Int) (h:LaD n l w) (hs:LaT l) (nr nb nk ng:Nat) (HL:Hid (Lens l nr nb nk ng)) (hkd:l.kind=1):Calls Tryz.prog 49 #[lA l nr nb nk ng,.int .i64 N] w fun e w'=>Beh10 (AffP w l N) nr (veS l.rows) e/\Below w.heap.size w w':=by
 have e0:(l.kind==1)=true:=by simp[hkd]
 clear hkd;have Hs:=znd hs;have hnb5:nr<=100000/\nb<=100000/\nk<=100000/\ng<=100000:=by have a1:=HL.out.r;have a2:=HL.out.b;have a3:=HL.out.k;have a4:=HL.out.g;have b1:=hs.rows;have b2:=hs.bias;have b3:=hs.kern;have b4:=hs.grs;omega
 have HNB:=znd hnb5;clear hnb5;have slr:=h.rows.sl;have slg:=h.grs.sl;rw[<-HL.out.r]at slr;rw[<-HL.out.g]at slg;have hszr:=zaw;have hszg:=zp2;have hszi:=zcX;have hadd:=zaa;have HE:=znd (layL l nr nb nk ng (((LaD.old l w h)).and ((LaD.iffR h))));have c:=Env.c1 HE.out;clear h hs;unfold lA;go_enter Tryz.func49,Tryz.ntmps49;go_upto_region 1 with fail;go_cut [7]from 16 to 53 (fun v7 wx=>∃S:Bool,v7=.bool S/\Hid (S=false↔zr4 l)/\Hid (Env w [⟨w.heap.size,49,#[.int .u8 l.kind,.slice l.Ar nr l.cr,.slice l.Ab nb l.cb,.int .i64 l.ch,.int .i64 l.high,.int .i64 l.wide,.int .i64 l.out,.int .i64 l.kh,.int .i64 l.kw,.int .i64 l.st,.int .i64 l.pad,.slice l.Ak nk l.ck,.slice l.Ag ng l.cg]⟩] (fun V=>LaD n l V/\LaI w l V) (fun _=>True) wx))
 case first=>
  by_cases z0:l.ch=0
  ·have hsk:=trivial;clear hsk;have b0:=zoI z0;have Z0:=znd z0;clear z0;by_cases z1:l.high=0
   ·have hsk:=trivial;clear hsk;have b1:=zoI z1;have Z1:=znd z1;clear z1;by_cases z2:l.wide=0
    ·have hsk:=trivial;clear hsk;have b2:=zoI z2;have Z2:=znd z2;clear z2;by_cases z3:l.out=0
     ·have hsk:=trivial;clear hsk;have b3:=zoI z3;have Z3:=znd z3;clear z3;by_cases z4:l.kh=0
      ·have hsk:=trivial;clear hsk;have b4:=zoI z4;have Z4:=znd z4;clear z4;by_cases z5:l.kw=0
       ·have hsk:=trivial;clear hsk;have b5:=zoI z5;have Z5:=znd z5;clear z5;by_cases z6:l.st=0
        ·have hsk:=trivial;clear hsk;have b6:=zoI z6;have Z6:=znd z6;clear z6;by_cases z7:l.pad=0
         ·have hsk:=trivial;clear hsk;have b7:=zoI z7;have Z7:=znd z7;clear z7;go_wp2_with fail
          go_meet
          case rel=>exact⟨false,rfl,znd ⟨fun _=>⟨Z0.out,Z1.out,Z2.out,Z3.out,Z4.out,Z5.out,Z6.out,Z7.out⟩,fun _=>rfl⟩,HE⟩
         ·have b7:=zoH z7;have Z7:=znd z7;clear z7;go_wp2_with fail
          go_meet
          case rel=>exact⟨true,rfl,znd ⟨fun h9=>absurd h9 (by decide),fun h9=>absurd (h9.2.2.2.2.2.2.2) Z7.out⟩,HE⟩
        ·have b6:=zoH z6;have Z6:=znd z6;clear z6;go_wp2_with fail
         go_meet
         case rel=>exact⟨true,rfl,znd ⟨fun h9=>absurd h9 (by decide),fun h9=>absurd (h9.2.2.2.2.2.2.1) Z6.out⟩,HE⟩
       ·have b5:=zoH z5;have Z5:=znd z5;clear z5;go_wp2_with fail
        go_meet
        case rel=>exact⟨true,rfl,znd ⟨fun h9=>absurd h9 (by decide),fun h9=>absurd (h9.2.2.2.2.2.1) Z5.out⟩,HE⟩
      ·have b4:=zoH z4;have Z4:=znd z4;clear z4;go_wp2_with fail
       go_meet
       case rel=>exact⟨true,rfl,znd ⟨fun h9=>absurd h9 (by decide),fun h9=>absurd (h9.2.2.2.2.1) Z4.out⟩,HE⟩
     ·have b3:=zoH z3;have Z3:=znd z3;clear z3;go_wp2_with fail
      go_meet
      case rel=>exact⟨true,rfl,znd ⟨fun h9=>absurd h9 (by decide),fun h9=>absurd (h9.2.2.2.1) Z3.out⟩,HE⟩
    ·have b2:=zoH z2;have Z2:=znd z2;clear z2;go_wp2_with fail
     go_meet
     case rel=>exact⟨true,rfl,znd ⟨fun h9=>absurd h9 (by decide),fun h9=>absurd (h9.2.2.1) Z2.out⟩,HE⟩
   ·have b1:=zoH z1;have Z1:=znd z1;clear z1;go_wp2_with fail
    go_meet
    case rel=>exact⟨true,rfl,znd ⟨fun h9=>absurd h9 (by decide),fun h9=>absurd (h9.2.1) Z1.out⟩,HE⟩
  ·have b0:=zoH z0;have Z0:=znd z0;clear z0;go_wp2_with fail
   go_meet
   case rel=>exact⟨true,rfl,znd ⟨fun h9=>absurd h9 (by decide),fun h9=>absurd (h9.1) Z0.out⟩,HE⟩
 case rest=>
  clear HE c;obtain⟨S,rfl,HS,HE⟩:=hcut;have c:=Env.c1 HE.out;go_wp2_with fail;refine(zoL _ n (by omega) h1n l.Ab l.cb l.bias HE.out.o.1.bias (by have:=Hs.out.bias;omega) nb HL.out.b).mono ?_;rintro e w1 ⟨⟨B1,rfl,hB⟩,hb⟩;have HB1:=znd (hB.trans ⟨fun h p hp=>(HE.out.o.2.bias p hp).1 (h p hp),fun h p hp=>(HE.out.o.2.bias p hp).2 (h p hp)⟩);replace HE:=znd (Env.call HE.out hb);replace c:=Env.c1 HE.out;clear hB hb
  cases B1
  ·go_wp2_with fail;go_ret3;exact Beh10.no (fun hP=>absurd (HB1.out.2 hP.eb) (by decide)) HE.out.bel
  ·go_wp2_with fail;refine(zoL _ n (by omega) h1n l.Ak l.ck l.kern HE.out.o.1.kern (by have:=Hs.out.kern;omega) nk HL.out.k).mono ?_;rintro e w2 ⟨⟨B2,rfl,hB⟩,hb⟩;have HB2:=znd (hB.trans ⟨fun h p hp=>(HE.out.o.2.kern p hp).1 (h p hp),fun h p hp=>(HE.out.o.2.kern p hp).2 (h p hp)⟩);replace HE:=znd (Env.call HE.out hb);replace c:=Env.c1 HE.out;clear hB hb
   cases B2
   ·go_wp2_with fail;go_ret3;exact Beh10.no (fun hP=>absurd (HB2.out.2 (by rw[hP.p.1];simp)) (by decide)) HE.out.bel
   ·have HX1:=znd (HB1.out.1 (by first|rfl|trivial));have HX2:=znd (HB2.out.1 (by first|rfl|trivial));clear HB1 HB2;go_upto_region 7 with fail
    cases S
    ·have HZ:=znd (HS.out.1 rfl);obtain⟨kg,hkg⟩:∃a,a=nk+ng:=⟨_,rfl⟩;have wkg:=nadd hkg (by have:=HNB.out;omega);have Hkg:=znd hkg;clear hkg HS;by_cases q0:0<kg
     ·have H0:=znd q0;go_wp2_with fail;go_ret3;exact Beh10.no (fun hP=>by have h1:=zoy HL.out.k |>.1 hP.p.1;have h2:=zoy HL.out.g |>.1 hP.g;have h3:=H0.out;have h4:=Hkg.out;omega) HE.out.bel
     ·have H0:=znd q0;by_cases q1:nr<1
      ·have H1:=znd q1;go_wp2_with fail;go_ret3;exact Beh10.no (fun hP=>hP.r ((zoy HL.out.r).2 (by have:=H1.out;omega))) HE.out.bel
      ·have H1:=znd q1;by_cases q2:nr=nb
       ·have H2:=znd q2;have q2b:((nr:Int) != (nb:Int))=false:=by simp[q2]
        clear q2;go_wp2_with fail;clear q0 q1 q2b wkg c;go_loopw [8,9] (fun tv iv wr=>∃i:Nat,tv=.int .i64 (veS (l.rows.take i))/\iv=.int .i64 (i:Int)/\i<=nr/\Hid (∀v∈l.rows.take i,RightP v.ts N w)/\Hid (Env w [⟨w.heap.size,49,#[.int .u8 l.kind,.slice l.Ar nr l.cr,.slice l.Ab nb l.cb,.int .i64 l.ch,.int .i64 l.high,.int .i64 l.wide,.int .i64 l.out,.int .i64 l.kh,.int .i64 l.kw,.int .i64 l.st,.int .i64 l.pad,.slice l.Ak nk l.ck,.slice l.Ag ng l.cg]⟩] (fun V=>LaD n l V/\LaI w l V) (fun _=>True) wr)) (fun _ iv _=>nr-(intOf iv).toNat)
        case atStart=>exact⟨0,rfl,rfl,Nat.zero_le _,znd (by simp),HE⟩
        case round=>
         clear HE;obtain⟨i,rfl,rfl,hi,HP,HE⟩:=hrel;have c:=Env.c1 HE.out;have hnr9:=HNB.out;by_cases hlt:i<nr
         ·have hlt2:i<l.rows.length:=by rw[<-HL.out.r];exact hlt
          have c0:=HE.out.o.1.rows.vc i hlt2;have Hsum:=znd (show veS (l.rows.take i)+((l.rows[i]).ts.length:Int)=veS (l.rows.take (i+1))from(zpO hlt2).symm);have Hsb:=znd (zt9 (vs:=l.rows.take (i+1)) fun v hm=>Hs.out.row v (List.mem_of_mem_take hm));obtain⟨v,hv⟩:∃v,v=l.rows[i]:=⟨_,rfl⟩;rw[<-hv]at c0 Hsum;have Hv:=znd hv;have Hm:=znd (show v∈l.rows by rw[hv];exact List.getElem_mem hlt2);clear hv;have hrl:=Hs.out.row1 v Hm.out;have hm9:v.ts.length*(n+1)<=100*21:=Nat.mul_le_mul hrl (by omega);have Hbd:=znd (show v.ts.length<=1000/\1+v.ts.length*(n+1)<=3000 from⟨by omega,by omega⟩);clear hrl hm9;go_wp2_with fail;refine(zsD _ n 3000 (by decide) h1n v.A v.c v.ts N (HE.out.o.1.rows.ok v Hm.out) Hbd.out.1 (by omega) Hbd.out.2).mono ?_;rintro e w3 ⟨⟨B,rfl,hB⟩,hb⟩;have HB:=znd (hB.trans (HE.out.o.2.rows v Hm.out N));replace HE:=znd (Env.call HE.out hb);replace c:=Env.c1 HE.out;have c1:w3.cell? (adr l.Ar i)=some (.slice v.A v.ts.length v.c):=by
           have h9:=HE.out.o.1.rows.vc i hlt2;rw[<-Hv.out]at h9;exact h9
          clear hB hb c0
          cases B
          ·go_wp2_with fail;go_ret3;exact Beh10.no (fun hP=>absurd (HB.out.2 (hP.er v Hm.out)) (by decide)) HE.out.bel
          ·have hwt:IntKind.i64.wrap (veS (l.rows.take i)+(v.ts.length:Int))=veS (l.rows.take (i+1)):=by
            rw[Hsum.out];refine zcs ⟨Hsb.out.1,?_⟩;have h9:=Hsb.out.2;rw[List.length_take]at h9;omega
           go_wp2_with fail;go_roundw
           case rel=>exact⟨i+1,rfl,by go_num,by omega,znd (zoC HP.out hlt2 (by rw[<-Hv.out];exact HB.out.1 (by first|rfl|trivial))),HE⟩
           case measure=>(simp[intOf]<;>omega)
         ·obtain rfl:i=nr:=by omega
          have HP2:=znd (show∀v∈l.rows,RightP v.ts N w by have:=HP.out;rw[HL.out.r,List.take_length]at this;exact this);have Hve:=znd (show veS (l.rows.take i)=veS l.rows by rw[HL.out.r,List.take_length]);rw[Hve.out];go_wp2_with fail;go_ret3;exact⟨.inl ⟨⟨⟨(zoy HL.out.k).2 (by have:=H0.out;have:=Hkg.out;omega),HZ.out⟩,(zoy HL.out.g).2 (by have:=H0.out;have:=Hkg.out;omega),fun h9=>by have h8:=(zoy HL.out.r).1 h9;have:=H1.out;omega,by rw[<-HL.out.r,<-HL.out.b];exact H2.out,HP2.out,HX1.out⟩,rfl⟩,by first|exact HE.out.bel|exact(HE.out.drewN _).bel⟩
       ·have H2:=znd q2;have q2b:((nr:Int) != (nb:Int))=true:=by simp;omega
        go_wp2_with fail;go_ret3;exact Beh10.no (fun hP=>H2.out (by rw[HL.out.r,HL.out.b];exact hP.b)) HE.out.bel
    ·have HZ:=znd (show¬zr4 l from fun h9=>absurd (HS.out.2 h9) (by decide));go_wp2_with fail;go_ret3;exact Beh10.no (fun hP=>HZ.out hP.p.2) HE.out.bel
set_option maxRecDepth 100000 in
theorem zv3 (w:World) (n:Nat) (hn:n<=20) (h1n:1<=n) (l:LaV) (N:Int) (h:LaD n l w) (hs:LaT l) (nr nb nk ng:Nat) (HL:Hid (Lens l nr nb nk ng)) (hkd:l.kind=2):Calls Tryz.prog 49 #[lA l nr nb nk ng,.int .i64 N] w fun e w'=>Beh10 (ConvP w l N) (l.out*zpj l*zpi l) (l.out*zpj l*zpi l*(l.ch*l.kh*l.kw)) e/\Below w.heap.size w w':=by
 have e0:(l.kind==1)=false:=by simp;omega
 have e1:(l.kind==2)=true:=by simp[hkd]
 clear hkd;have Hs:=znd hs;have hnb5:nr<=100000/\nb<=100000/\nk<=100000/\ng<=100000:=by have a1:=HL.out.r;have a2:=HL.out.b;have a3:=HL.out.k;have a4:=HL.out.g;have b1:=hs.rows;have b2:=hs.bias;have b3:=hs.kern;have b4:=hs.grs;omega
 have HNB:=znd hnb5;clear hnb5;have slr:=h.rows.sl;have slg:=h.grs.sl;rw[<-HL.out.r]at slr;rw[<-HL.out.g]at slg;have hszr:=zaw;have hszg:=zp2;have hszi:=zcX;have hadd:=zaa;have HE:=znd (layL l nr nb nk ng (((LaD.old l w h)).and ((LaD.iffR h))));have c:=Env.c1 HE.out;clear h hs;unfold lA;go_enter Tryz.func49,Tryz.ntmps49;go_upto_region 1 with fail;go_cut [7]from 16 to 53 (fun v7 wx=>∃S:Bool,v7=.bool S/\Hid (S=false↔zr4 l)/\Hid (Env w [⟨w.heap.size,49,#[.int .u8 l.kind,.slice l.Ar nr l.cr,.slice l.Ab nb l.cb,.int .i64 l.ch,.int .i64 l.high,.int .i64 l.wide,.int .i64 l.out,.int .i64 l.kh,.int .i64 l.kw,.int .i64 l.st,.int .i64 l.pad,.slice l.Ak nk l.ck,.slice l.Ag ng l.cg]⟩] (fun V=>LaD n l V/\LaI w l V) (fun _=>True) wx))
 case first=>
  by_cases z0:l.ch=0
  ·have hsk:=trivial;clear hsk;have b0:=zoI z0;have Z0:=znd z0;clear z0;by_cases z1:l.high=0
   ·have hsk:=trivial;clear hsk;have b1:=zoI z1;have Z1:=znd z1;clear z1;by_cases z2:l.wide=0
    ·have hsk:=trivial;clear hsk;have b2:=zoI z2;have Z2:=znd z2;clear z2;by_cases z3:l.out=0
     ·have hsk:=trivial;clear hsk;have b3:=zoI z3;have Z3:=znd z3;clear z3;by_cases z4:l.kh=0
      ·have hsk:=trivial;clear hsk;have b4:=zoI z4;have Z4:=znd z4;clear z4;by_cases z5:l.kw=0
       ·have hsk:=trivial;clear hsk;have b5:=zoI z5;have Z5:=znd z5;clear z5;by_cases z6:l.st=0
        ·have hsk:=trivial;clear hsk;have b6:=zoI z6;have Z6:=znd z6;clear z6;by_cases z7:l.pad=0
         ·have hsk:=trivial;clear hsk;have b7:=zoI z7;have Z7:=znd z7;clear z7;go_wp2_with fail
          go_meet
          case rel=>exact⟨false,rfl,znd ⟨fun _=>⟨Z0.out,Z1.out,Z2.out,Z3.out,Z4.out,Z5.out,Z6.out,Z7.out⟩,fun _=>rfl⟩,HE⟩
         ·have b7:=zoH z7;have Z7:=znd z7;clear z7;go_wp2_with fail
          go_meet
          case rel=>exact⟨true,rfl,znd ⟨fun h9=>absurd h9 (by decide),fun h9=>absurd (h9.2.2.2.2.2.2.2) Z7.out⟩,HE⟩
        ·have b6:=zoH z6;have Z6:=znd z6;clear z6;go_wp2_with fail
         go_meet
         case rel=>exact⟨true,rfl,znd ⟨fun h9=>absurd h9 (by decide),fun h9=>absurd (h9.2.2.2.2.2.2.1) Z6.out⟩,HE⟩
       ·have b5:=zoH z5;have Z5:=znd z5;clear z5;go_wp2_with fail
        go_meet
        case rel=>exact⟨true,rfl,znd ⟨fun h9=>absurd h9 (by decide),fun h9=>absurd (h9.2.2.2.2.2.1) Z5.out⟩,HE⟩
      ·have b4:=zoH z4;have Z4:=znd z4;clear z4;go_wp2_with fail
       go_meet
       case rel=>exact⟨true,rfl,znd ⟨fun h9=>absurd h9 (by decide),fun h9=>absurd (h9.2.2.2.2.1) Z4.out⟩,HE⟩
     ·have b3:=zoH z3;have Z3:=znd z3;clear z3;go_wp2_with fail
      go_meet
      case rel=>exact⟨true,rfl,znd ⟨fun h9=>absurd h9 (by decide),fun h9=>absurd (h9.2.2.2.1) Z3.out⟩,HE⟩
    ·have b2:=zoH z2;have Z2:=znd z2;clear z2;go_wp2_with fail
     go_meet
     case rel=>exact⟨true,rfl,znd ⟨fun h9=>absurd h9 (by decide),fun h9=>absurd (h9.2.2.1) Z2.out⟩,HE⟩
   ·have b1:=zoH z1;have Z1:=znd z1;clear z1;go_wp2_with fail
    go_meet
    case rel=>exact⟨true,rfl,znd ⟨fun h9=>absurd h9 (by decide),fun h9=>absurd (h9.2.1) Z1.out⟩,HE⟩
  ·have b0:=zoH z0;have Z0:=znd z0;clear z0;go_wp2_with fail
   go_meet
   case rel=>exact⟨true,rfl,znd ⟨fun h9=>absurd h9 (by decide),fun h9=>absurd (h9.1) Z0.out⟩,HE⟩
 case rest=>
  clear HE c;obtain⟨S,rfl,HS,HE⟩:=hcut;have c:=Env.c1 HE.out;go_wp2_with fail;refine(zoL _ n (by omega) h1n l.Ab l.cb l.bias HE.out.o.1.bias (by have:=Hs.out.bias;omega) nb HL.out.b).mono ?_;rintro e w1 ⟨⟨B1,rfl,hB⟩,hb⟩;have HB1:=znd (hB.trans ⟨fun h p hp=>(HE.out.o.2.bias p hp).1 (h p hp),fun h p hp=>(HE.out.o.2.bias p hp).2 (h p hp)⟩);replace HE:=znd (Env.call HE.out hb);replace c:=Env.c1 HE.out;clear hB hb
  cases B1
  ·go_wp2_with fail;go_ret3;exact Beh10.no (fun hP=>absurd (HB1.out.2 hP.eb) (by decide)) HE.out.bel
  ·go_wp2_with fail;refine(zoL _ n (by omega) h1n l.Ak l.ck l.kern HE.out.o.1.kern (by have:=Hs.out.kern;omega) nk HL.out.k).mono ?_;rintro e w2 ⟨⟨B2,rfl,hB⟩,hb⟩;have HB2:=znd (hB.trans ⟨fun h p hp=>(HE.out.o.2.kern p hp).1 (h p hp),fun h p hp=>(HE.out.o.2.kern p hp).2 (h p hp)⟩);replace HE:=znd (Env.call HE.out hb);replace c:=Env.c1 HE.out;clear hB hb
   cases B2
   ·go_wp2_with fail;go_ret3;exact Beh10.no (fun hP=>absurd (HB2.out.2 hP.ek) (by decide)) HE.out.bel
   ·have HX1:=znd (HB1.out.1 (by first|rfl|trivial));have HX2:=znd (HB2.out.1 (by first|rfl|trivial));clear HB1 HB2;go_wp2_with fail;refine(zqX _ l nr nb nk ng).mono ?_;rintro e w3 ⟨hr,hb⟩;have HR:=znd hr;replace HE:=znd (Env.call HE.out hb);replace c:=Env.c1 HE.out;clear hr hb;rcases HR.out with⟨hP,rfl⟩|⟨hP,a9,b9,rfl⟩
    ·have HPic:=znd hP;clear hP HR;have hn9:=HPic.out.s.nn;have hw9:=HPic.out.s.w1;have w1:=zcs (z:=l.ch*l.high) (by omega);have w2:=zcs (z:=l.ch*l.high*l.wide) (by omega);have a2:=zoK (a:=l.out) (b:=l.ch) (m:=256) (by omega) (by omega);have a3:=zoK (a:=l.out*l.ch) (b:=l.kh) (m:=256*1024) a2 (by omega);have a4:=zoK (a:=l.out*l.ch*l.kh) (b:=l.kw) (m:=256*1024*1024) a3 (by omega);have w3:=zcs (z:=l.out*l.ch) (by omega);have w4:=zcs (z:=l.out*l.ch*l.kh) (by omega);have w5:=zcs (z:=l.out*l.ch*l.kh*l.kw) (by omega);have hass:l.out*l.ch*l.kh*l.kw=l.out*(l.ch*l.kh*l.kw):=by rw[Int.mul_assoc l.out,Int.mul_assoc l.out]
     have Hass:=znd hass;have hp9:=HPic.out.pad;have hh9:=HPic.out.h;have b1:=zpm (h:=l.high) (p:=l.pad) (k:=l.kh) (s:=l.st) (by omega) (by omega) (by omega) (by omega) (by omega);have b2:=zpm (h:=l.wide) (p:=l.pad) (k:=l.kw) (s:=l.st) (by omega) (by omega) (by omega) (by omega) (by omega);obtain⟨R0,hR0⟩:∃z,z=zpj l:=⟨_,rfl⟩;obtain⟨C0,hC0⟩:∃z,z=zpi l:=⟨_,rfl⟩;have hRb:0<=R0/\R0<=1024:=by rw[hR0];unfold zpj;omega
     have hCb:0<=C0/\C0<=1024:=by rw[hC0];unfold zpi;omega
     rw[<-hR0,<-hC0];have HR0:=znd hR0;have HC0:=znd hC0;have u1:=zoK (a:=l.out) (b:=R0) (m:=256) (by omega) hRb;have u2:=zoK (a:=l.out*R0) (b:=C0) (m:=256*1024) u1 hCb;have u3:=zoK (a:=l.out*R0*C0) (b:=l.ch) (m:=256*1024*1024) u2 (by omega);have u4:=zoK (a:=l.out*R0*C0*l.ch) (b:=l.kh) (m:=256*1024*1024*1024) u3 (by omega);have u5:=zoK (a:=l.out*R0*C0*l.ch*l.kh) (b:=l.kw) (m:=256*1024*1024*1024*1024) u4 (by omega);have y1:=zcs (z:=l.out*R0) (by omega);have y2:=zcs (z:=l.out*R0*C0) (by omega);have y3:=zcs (z:=l.out*R0*C0*l.ch) (by omega);have y4:=zcs (z:=l.out*R0*C0*l.ch*l.kh) (by omega);have y5:=zcs (z:=l.out*R0*C0*l.ch*l.kh*l.kw) (by omega);have Hyy:=znd (show l.out*R0*C0*l.ch*l.kh*l.kw=l.out*R0*C0*(l.ch*l.kh*l.kw) by rw[Int.mul_assoc (l.out*R0*C0),Int.mul_assoc (l.out*R0*C0)]);clear hn9 hw9 a2 a3 a4 hass hp9 hh9 b1 b2 hR0 hC0 hRb hCb u1 u2 u3 u4 u5;obtain⟨rg,hrg⟩:∃a,a=nr+ng:=⟨_,rfl⟩;have wrg:=nadd hrg (by have:=HNB.out;omega);have Hrg:=znd hrg;clear hrg;go_upto_region 18 with fail;by_cases q0:0<rg
     ·have H0:=znd q0;go_wp2_with fail;go_ret3;exact Beh10.no (fun hP=>by have h1:=zoy HL.out.r |>.1 hP.e.1;have h2:=zoy HL.out.g |>.1 hP.e.2;have h3:=H0.out;have h4:=Hrg.out;omega) HE.out.bel
     ·have H0:=znd q0;by_cases q1:l.ch*l.high*l.wide=N
      ·have H1:=znd q1;have q1b:((l.ch*l.high*l.wide) != N)=false:=by simp[q1]
       clear q1;by_cases q2:(nk:Int)=l.out*l.ch*l.kh*l.kw
       ·have H2:=znd q2;have q2b:((nk:Int) != l.out*l.ch*l.kh*l.kw)=false:=by simp[q2]
        clear q2;by_cases q3:(nb:Int)=l.out
        ·have H3:=znd q3;have q3b:((nb:Int) != l.out)=false:=by simp[q3]
         clear q3;go_upto_region 20 with fail;clear q0 q1b q2b q3b w1 w2 w3 w4 w5 wrg;go_quiet (fail);go_wp2_with fail;go_ret3;exact⟨.inl ⟨⟨HPic.out.s,HPic.out.pad,H1.out,HPic.out.h,by rw[<-HL.out.k,<-Hass.out];exact H2.out,by rw[<-HL.out.b];exact H3.out,⟨(zoy HL.out.r).2 (by have:=H0.out;have:=Hrg.out;omega),(zoy HL.out.g).2 (by have:=H0.out;have:=Hrg.out;omega)⟩,HX2.out,HX1.out⟩,by rw[<-HR0.out,<-HC0.out,<-Hyy.out]<;>rfl⟩,by first|exact HE.out.bel|exact(HE.out.drewN _).bel⟩
        ·have H3:=znd q3;have q3b:((nb:Int) != l.out)=true:=by simp[q3]
         go_wp2_with fail;go_ret3;exact Beh10.no (fun hP=>H3.out (by rw[HL.out.b];exact hP.b)) HE.out.bel
       ·have H2:=znd q2;have q2b:((nk:Int) != l.out*l.ch*l.kh*l.kw)=true:=by simp[q2]
        go_wp2_with fail;go_ret3;exact Beh10.no (fun hP=>H2.out (by rw[HL.out.k,Hass.out];exact hP.k)) HE.out.bel
      ·have H1:=znd q1;have q1b:((l.ch*l.high*l.wide) != N)=true:=by simp[q1]
       go_wp2_with fail;go_ret3;exact Beh10.no (fun hP=>H1.out hP.n) HE.out.bel
    ·have HPic:=znd hP;clear hP HR;go_wp2_with fail;go_ret3;exact Beh10.no (fun hP=>HPic.out ⟨hP.s,hP.pad,hP.h⟩) HE.out.bel

set_option maxRecDepth 100000 in
theorem zuR (w:World) (n:Nat) (hn:n<=20) (h1n:1<=n) (l:LaV) (N:Int) (h:LaD n l w) (hs:LaT l) (nr nb nk ng:Nat) (HL:Hid (Lens l nr nb nk ng)) (hkd:l.kind=3):Calls Tryz.prog 49 #[lA l nr nb nk ng,.int .i64 N] w fun e w'=>Beh10 (zoF l/\l.rows=[]/\l.bias=[]/\l.grs=[]) N 0 e/\Below w.heap.size w w':=by
 have e0:(l.kind==1)=false:=by simp;omega
 have e1:(l.kind==2)=false:=by simp;omega
 have e2:(l.kind==3)=true:=by simp[hkd]
 clear hkd;have Hs:=znd hs;have hnb5:nr<=100000/\nb<=100000/\nk<=100000/\ng<=100000:=by have a1:=HL.out.r;have a2:=HL.out.b;have a3:=HL.out.k;have a4:=HL.out.g;have b1:=hs.rows;have b2:=hs.bias;have b3:=hs.kern;have b4:=hs.grs;omega
 have HNB:=znd hnb5;clear hnb5;have slr:=h.rows.sl;have slg:=h.grs.sl;rw[<-HL.out.r]at slr;rw[<-HL.out.g]at slg;have hszr:=zaw;have hszg:=zp2;have hszi:=zcX;have hadd:=zaa;have HE:=znd (layL l nr nb nk ng (((LaD.old l w h)).and ((LaD.iffR h))));have c:=Env.c1 HE.out;clear h hs;unfold lA;go_enter Tryz.func49,Tryz.ntmps49;go_upto_region 1 with fail;go_cut [7]from 16 to 53 (fun v7 wx=>∃S:Bool,v7=.bool S/\Hid (S=false↔zr4 l)/\Hid (Env w [⟨w.heap.size,49,#[.int .u8 l.kind,.slice l.Ar nr l.cr,.slice l.Ab nb l.cb,.int .i64 l.ch,.int .i64 l.high,.int .i64 l.wide,.int .i64 l.out,.int .i64 l.kh,.int .i64 l.kw,.int .i64 l.st,.int .i64 l.pad,.slice l.Ak nk l.ck,.slice l.Ag ng l.cg]⟩] (fun V=>LaD n l V/\LaI w l V) (fun _=>True) wx))
 case first=>
  by_cases z0:l.ch=0
  ·have hsk:=trivial;clear hsk;have b0:=zoI z0;have Z0:=znd z0;clear z0;by_cases z1:l.high=0
   ·have hsk:=trivial;clear hsk;have b1:=zoI z1;have Z1:=znd z1;clear z1;by_cases z2:l.wide=0
    ·have hsk:=trivial;clear hsk;have b2:=zoI z2;have Z2:=znd z2;clear z2;by_cases z3:l.out=0
     ·have hsk:=trivial;clear hsk;have b3:=zoI z3;have Z3:=znd z3;clear z3;by_cases z4:l.kh=0
      ·have hsk:=trivial;clear hsk;have b4:=zoI z4;have Z4:=znd z4;clear z4;by_cases z5:l.kw=0
       ·have hsk:=trivial;clear hsk;have b5:=zoI z5;have Z5:=znd z5;clear z5;by_cases z6:l.st=0
        ·have hsk:=trivial;clear hsk;have b6:=zoI z6;have Z6:=znd z6;clear z6;by_cases z7:l.pad=0
         ·have hsk:=trivial;clear hsk;have b7:=zoI z7;have Z7:=znd z7;clear z7;go_wp2_with fail
          go_meet
          case rel=>exact⟨false,rfl,znd ⟨fun _=>⟨Z0.out,Z1.out,Z2.out,Z3.out,Z4.out,Z5.out,Z6.out,Z7.out⟩,fun _=>rfl⟩,HE⟩
         ·have b7:=zoH z7;have Z7:=znd z7;clear z7;go_wp2_with fail
          go_meet
          case rel=>exact⟨true,rfl,znd ⟨fun h9=>absurd h9 (by decide),fun h9=>absurd (h9.2.2.2.2.2.2.2) Z7.out⟩,HE⟩
        ·have b6:=zoH z6;have Z6:=znd z6;clear z6;go_wp2_with fail
         go_meet
         case rel=>exact⟨true,rfl,znd ⟨fun h9=>absurd h9 (by decide),fun h9=>absurd (h9.2.2.2.2.2.2.1) Z6.out⟩,HE⟩
       ·have b5:=zoH z5;have Z5:=znd z5;clear z5;go_wp2_with fail
        go_meet
        case rel=>exact⟨true,rfl,znd ⟨fun h9=>absurd h9 (by decide),fun h9=>absurd (h9.2.2.2.2.2.1) Z5.out⟩,HE⟩
      ·have b4:=zoH z4;have Z4:=znd z4;clear z4;go_wp2_with fail
       go_meet
       case rel=>exact⟨true,rfl,znd ⟨fun h9=>absurd h9 (by decide),fun h9=>absurd (h9.2.2.2.2.1) Z4.out⟩,HE⟩
     ·have b3:=zoH z3;have Z3:=znd z3;clear z3;go_wp2_with fail
      go_meet
      case rel=>exact⟨true,rfl,znd ⟨fun h9=>absurd h9 (by decide),fun h9=>absurd (h9.2.2.2.1) Z3.out⟩,HE⟩
    ·have b2:=zoH z2;have Z2:=znd z2;clear z2;go_wp2_with fail
     go_meet
     case rel=>exact⟨true,rfl,znd ⟨fun h9=>absurd h9 (by decide),fun h9=>absurd (h9.2.2.1) Z2.out⟩,HE⟩
   ·have b1:=zoH z1;have Z1:=znd z1;clear z1;go_wp2_with fail
    go_meet
    case rel=>exact⟨true,rfl,znd ⟨fun h9=>absurd h9 (by decide),fun h9=>absurd (h9.2.1) Z1.out⟩,HE⟩
  ·have b0:=zoH z0;have Z0:=znd z0;clear z0;go_wp2_with fail
   go_meet
   case rel=>exact⟨true,rfl,znd ⟨fun h9=>absurd h9 (by decide),fun h9=>absurd (h9.1) Z0.out⟩,HE⟩
 case rest=>
  clear HE c;obtain⟨S,rfl,HS,HE⟩:=hcut;have c:=Env.c1 HE.out;go_wp2_with fail;refine(zoL _ n (by omega) h1n l.Ab l.cb l.bias HE.out.o.1.bias (by have:=Hs.out.bias;omega) nb HL.out.b).mono ?_;rintro e w1 ⟨⟨B1,rfl,hB⟩,hb⟩;have HB1:=znd (hB.trans ⟨fun h p hp=>(HE.out.o.2.bias p hp).1 (h p hp),fun h p hp=>(HE.out.o.2.bias p hp).2 (h p hp)⟩);replace HE:=znd (Env.call HE.out hb);replace c:=Env.c1 HE.out;clear hB hb
  cases B1
  ·go_wp2_with fail;go_ret3;exact Beh10.no (fun hP=>absurd (HB1.out.2 (by rw[hP.2.2.1];simp)) (by decide)) HE.out.bel
  ·go_wp2_with fail;refine(zoL _ n (by omega) h1n l.Ak l.ck l.kern HE.out.o.1.kern (by have:=Hs.out.kern;omega) nk HL.out.k).mono ?_;rintro e w2 ⟨⟨B2,rfl,hB⟩,hb⟩;have HB2:=znd (hB.trans ⟨fun h p hp=>(HE.out.o.2.kern p hp).1 (h p hp),fun h p hp=>(HE.out.o.2.kern p hp).2 (h p hp)⟩);replace HE:=znd (Env.call HE.out hb);replace c:=Env.c1 HE.out;clear hB hb
   cases B2
   ·go_wp2_with fail;go_ret3;exact Beh10.no (fun hP=>absurd (HB2.out.2 (by rw[hP.1.1];simp)) (by decide)) HE.out.bel
   ·have HX1:=znd (HB1.out.1 (by first|rfl|trivial));have HX2:=znd (HB2.out.1 (by first|rfl|trivial));clear HB1 HB2;go_upto_region 22 with fail
    cases S
    ·have HZ:=znd (HS.out.1 rfl);obtain⟨s1,hs1⟩:∃a,a=nr+nb:=⟨_,rfl⟩;obtain⟨s2,hs2⟩:∃a,a=s1+nk:=⟨_,rfl⟩;obtain⟨s3,hs3⟩:∃a,a=s2+ng:=⟨_,rfl⟩;have hnb9:=HNB.out;have u1:=nadd hs1 (by omega);have u2:=nadd hs2 (by omega);have u3:=nadd hs3 (by omega);have Hsum:=znd (show s3=nr+nb+nk+ng by omega);clear hs1 hs2 hs3 hnb9;by_cases q0:s3=0
     ·have H0:=znd q0;have q0b:((s3:Int)==0)=true:=by simp[q0]
      clear q0;go_quiet (fail);go_wp2_with fail;go_ret3;exact⟨.inl ⟨⟨⟨(zoy HL.out.k).2 (by have:=H0.out;have:=Hsum.out;omega),HZ.out⟩,(zoy HL.out.r).2 (by have:=H0.out;have:=Hsum.out;omega),(zoy HL.out.b).2 (by have:=H0.out;have:=Hsum.out;omega),(zoy HL.out.g).2 (by have:=H0.out;have:=Hsum.out;omega)⟩,rfl⟩,by first|exact HE.out.bel|exact(HE.out.drewN _).bel⟩
     ·have H0:=znd q0;have q0b:((s3:Int)==0)=false:=by simp[q0]
      clear q0;go_quiet (fail);go_wp2_with fail;go_ret3;exact Beh10.no (fun hP=>H0.out (by have h1:=zoy HL.out.r |>.1 hP.2.1;have h2:=zoy HL.out.b |>.1 hP.2.2.1;have h3:=zoy HL.out.k |>.1 hP.1.1;have h4:=zoy HL.out.g |>.1 hP.2.2.2;have h5:=Hsum.out;omega)) (by first|exact HE.out.bel|exact(HE.out.drewN _).bel)
    ·have HZ:=znd (show¬zr4 l from fun h9=>absurd (HS.out.2 h9) (by decide));go_quiet (fail);go_wp2_with fail;go_ret3;exact Beh10.no (fun hP=>HZ.out hP.1.2) (by first|exact HE.out.bel|exact(HE.out.drewN _).bel)
set_option maxRecDepth 100000 in
theorem zvt (w:World) (n:Nat) (hn:n<=20) (h1n:1<=n) (l:LaV) (N:Int) (h:LaD n l w) (hs:LaT l) (nr nb nk ng:Nat) (HL:Hid (Lens l nr nb nk ng)) (hkd:¬(l.kind=1\/l.kind=2\/l.kind=3\/l.kind=4)):Calls Tryz.prog 49 #[lA l nr nb nk ng,.int .i64 N] w fun e w'=>Beh10 False 0 0 e/\Below w.heap.size w w':=by
 have e0:(l.kind==1)=false:=by simp;omega
 have e1:(l.kind==2)=false:=by simp;omega
 have e2:(l.kind==3)=false:=by simp;omega
 have e3:(l.kind==4)=false:=by simp;omega
 clear hkd;have Hs:=znd hs;have hnb5:nr<=100000/\nb<=100000/\nk<=100000/\ng<=100000:=by have a1:=HL.out.r;have a2:=HL.out.b;have a3:=HL.out.k;have a4:=HL.out.g;have b1:=hs.rows;have b2:=hs.bias;have b3:=hs.kern;have b4:=hs.grs;omega
 have HNB:=znd hnb5;clear hnb5;have slr:=h.rows.sl;have slg:=h.grs.sl;rw[<-HL.out.r]at slr;rw[<-HL.out.g]at slg;have hszr:=zaw;have hszg:=zp2;have hszi:=zcX;have hadd:=zaa;have HE:=znd (layL l nr nb nk ng (((LaD.old l w h)).and ((LaD.iffR h))));have c:=Env.c1 HE.out;clear h hs;unfold lA;go_enter Tryz.func49,Tryz.ntmps49;go_upto_region 1 with fail;go_cut [7]from 16 to 53 (fun v7 wx=>∃S:Bool,v7=.bool S/\Hid (S=false↔zr4 l)/\Hid (Env w [⟨w.heap.size,49,#[.int .u8 l.kind,.slice l.Ar nr l.cr,.slice l.Ab nb l.cb,.int .i64 l.ch,.int .i64 l.high,.int .i64 l.wide,.int .i64 l.out,.int .i64 l.kh,.int .i64 l.kw,.int .i64 l.st,.int .i64 l.pad,.slice l.Ak nk l.ck,.slice l.Ag ng l.cg]⟩] (fun V=>LaD n l V/\LaI w l V) (fun _=>True) wx))
 case first=>
  by_cases z0:l.ch=0
  ·have hsk:=trivial;clear hsk;have b0:=zoI z0;have Z0:=znd z0;clear z0;by_cases z1:l.high=0
   ·have hsk:=trivial;clear hsk;have b1:=zoI z1;have Z1:=znd z1;clear z1;by_cases z2:l.wide=0
    ·have hsk:=trivial;clear hsk;have b2:=zoI z2;have Z2:=znd z2;clear z2;by_cases z3:l.out=0
     ·have hsk:=trivial;clear hsk;have b3:=zoI z3;have Z3:=znd z3;clear z3;by_cases z4:l.kh=0
      ·have hsk:=trivial;clear hsk;have b4:=zoI z4;have Z4:=znd z4;clear z4;by_cases z5:l.kw=0
       ·have hsk:=trivial;clear hsk;have b5:=zoI z5;have Z5:=znd z5;clear z5;by_cases z6:l.st=0
        ·have hsk:=trivial;clear hsk;have b6:=zoI z6;have Z6:=znd z6;clear z6;by_cases z7:l.pad=0
         ·have hsk:=trivial;clear hsk;have b7:=zoI z7;have Z7:=znd z7;clear z7;go_wp2_with fail
          go_meet
          case rel=>exact⟨false,rfl,znd ⟨fun _=>⟨Z0.out,Z1.out,Z2.out,Z3.out,Z4.out,Z5.out,Z6.out,Z7.out⟩,fun _=>rfl⟩,HE⟩
         ·have b7:=zoH z7;have Z7:=znd z7;clear z7;go_wp2_with fail
          go_meet
          case rel=>exact⟨true,rfl,znd ⟨fun h9=>absurd h9 (by decide),fun h9=>absurd (h9.2.2.2.2.2.2.2) Z7.out⟩,HE⟩
        ·have b6:=zoH z6;have Z6:=znd z6;clear z6;go_wp2_with fail
         go_meet
         case rel=>exact⟨true,rfl,znd ⟨fun h9=>absurd h9 (by decide),fun h9=>absurd (h9.2.2.2.2.2.2.1) Z6.out⟩,HE⟩
       ·have b5:=zoH z5;have Z5:=znd z5;clear z5;go_wp2_with fail
        go_meet
        case rel=>exact⟨true,rfl,znd ⟨fun h9=>absurd h9 (by decide),fun h9=>absurd (h9.2.2.2.2.2.1) Z5.out⟩,HE⟩
      ·have b4:=zoH z4;have Z4:=znd z4;clear z4;go_wp2_with fail
       go_meet
       case rel=>exact⟨true,rfl,znd ⟨fun h9=>absurd h9 (by decide),fun h9=>absurd (h9.2.2.2.2.1) Z4.out⟩,HE⟩
     ·have b3:=zoH z3;have Z3:=znd z3;clear z3;go_wp2_with fail
      go_meet
      case rel=>exact⟨true,rfl,znd ⟨fun h9=>absurd h9 (by decide),fun h9=>absurd (h9.2.2.2.1) Z3.out⟩,HE⟩
    ·have b2:=zoH z2;have Z2:=znd z2;clear z2;go_wp2_with fail
     go_meet
     case rel=>exact⟨true,rfl,znd ⟨fun h9=>absurd h9 (by decide),fun h9=>absurd (h9.2.2.1) Z2.out⟩,HE⟩
   ·have b1:=zoH z1;have Z1:=znd z1;clear z1;go_wp2_with fail
    go_meet
    case rel=>exact⟨true,rfl,znd ⟨fun h9=>absurd h9 (by decide),fun h9=>absurd (h9.2.1) Z1.out⟩,HE⟩
  ·have b0:=zoH z0;have Z0:=znd z0;clear z0;go_wp2_with fail
   go_meet
   case rel=>exact⟨true,rfl,znd ⟨fun h9=>absurd h9 (by decide),fun h9=>absurd (h9.1) Z0.out⟩,HE⟩
 case rest=>
  clear HE c;obtain⟨S,rfl,HS,HE⟩:=hcut;have c:=Env.c1 HE.out;go_wp2_with fail;refine(zoL _ n (by omega) h1n l.Ab l.cb l.bias HE.out.o.1.bias (by have:=Hs.out.bias;omega) nb HL.out.b).mono ?_;rintro e w1 ⟨⟨B1,rfl,hB⟩,hb⟩;have HB1:=znd (hB.trans ⟨fun h p hp=>(HE.out.o.2.bias p hp).1 (h p hp),fun h p hp=>(HE.out.o.2.bias p hp).2 (h p hp)⟩);replace HE:=znd (Env.call HE.out hb);replace c:=Env.c1 HE.out;clear hB hb
  cases B1
  ·go_wp2_with fail;go_ret3;exact Beh10.no (fun hP=>absurd (HB1.out.2 hP.elim) (by decide)) HE.out.bel
  ·go_wp2_with fail;refine(zoL _ n (by omega) h1n l.Ak l.ck l.kern HE.out.o.1.kern (by have:=Hs.out.kern;omega) nk HL.out.k).mono ?_;rintro e w2 ⟨⟨B2,rfl,hB⟩,hb⟩;have HB2:=znd (hB.trans ⟨fun h p hp=>(HE.out.o.2.kern p hp).1 (h p hp),fun h p hp=>(HE.out.o.2.kern p hp).2 (h p hp)⟩);replace HE:=znd (Env.call HE.out hb);replace c:=Env.c1 HE.out;clear hB hb
   cases B2
   ·go_wp2_with fail;go_ret3;exact Beh10.no (fun hP=>absurd (HB2.out.2 hP.elim) (by decide)) HE.out.bel
   ·have HX1:=znd (HB1.out.1 (by first|rfl|trivial));have HX2:=znd (HB2.out.1 (by first|rfl|trivial));clear HB1 HB2;go_wp2_with fail;go_ret3;exact Beh10.no (fun hP=>hP) HE.out.bel

theorem Beh10.iff {P Q:Prop} {u t:Int} {e:Ending} (hPQ:P↔Q) (h:Beh10 P u t e):Beh10 Q u t e:=by
 rcases h with⟨h1,h2⟩|⟨h1,h2⟩
 ·exact .inl ⟨hPQ.1 h1,h2⟩
 ·exact .inr ⟨fun h=>h1 (hPQ.2 h),h2⟩
set_option maxRecDepth 100000 in
theorem zuU (w:World) (n:Nat) (hn:n<=20) (h1n:1<=n) (l:LaV) (N:Int) (h:LaD n l w) (hs:LaT l) (nr nb nk ng:Nat) (HL:Hid (Lens l nr nb nk ng)) (hkd:l.kind=4):Calls Tryz.prog 49 #[lA l nr nb nk ng,.int .i64 N] w fun e w'=>Beh10 (PoolP l N) ng (grS l.grs) e/\Below w.heap.size w w':=by
 have e0:(l.kind==1)=false:=by simp;omega
 have e1:(l.kind==2)=false:=by simp;omega
 have e2:(l.kind==3)=false:=by simp;omega
 have e3:(l.kind==4)=true:=by simp[hkd]
 clear hkd;have Hs:=znd hs;have hnb5:nr<=100000/\nb<=100000/\nk<=100000/\ng<=100000:=by have a1:=HL.out.r;have a2:=HL.out.b;have a3:=HL.out.k;have a4:=HL.out.g;have b1:=hs.rows;have b2:=hs.bias;have b3:=hs.kern;have b4:=hs.grs;omega
 have HNB:=znd hnb5;clear hnb5;have slr:=h.rows.sl;have slg:=h.grs.sl;rw[<-HL.out.r]at slr;rw[<-HL.out.g]at slg;have hszr:=zaw;have hszg:=zp2;have hszi:=zcX;have hadd:=zaa;have HE:=znd (layL l nr nb nk ng (((LaD.old l w h)).and ((LaD.iffR h))));have c:=Env.c1 HE.out;clear h hs;unfold lA;go_enter Tryz.func49,Tryz.ntmps49;go_upto_region 1 with fail;go_cut [7]from 16 to 53 (fun v7 wx=>∃S:Bool,v7=.bool S/\Hid (S=false↔zr4 l)/\Hid (Env w [⟨w.heap.size,49,#[.int .u8 l.kind,.slice l.Ar nr l.cr,.slice l.Ab nb l.cb,.int .i64 l.ch,.int .i64 l.high,.int .i64 l.wide,.int .i64 l.out,.int .i64 l.kh,.int .i64 l.kw,.int .i64 l.st,.int .i64 l.pad,.slice l.Ak nk l.ck,.slice l.Ag ng l.cg]⟩] (fun V=>LaD n l V/\LaI w l V) (fun _=>True) wx))
 case first=>
  by_cases z0:l.ch=0
  ·have hsk:=trivial;clear hsk;have b0:=zoI z0;have Z0:=znd z0;clear z0;by_cases z1:l.high=0
   ·have hsk:=trivial;clear hsk;have b1:=zoI z1;have Z1:=znd z1;clear z1;by_cases z2:l.wide=0
    ·have hsk:=trivial;clear hsk;have b2:=zoI z2;have Z2:=znd z2;clear z2;by_cases z3:l.out=0
     ·have hsk:=trivial;clear hsk;have b3:=zoI z3;have Z3:=znd z3;clear z3;by_cases z4:l.kh=0
      ·have hsk:=trivial;clear hsk;have b4:=zoI z4;have Z4:=znd z4;clear z4;by_cases z5:l.kw=0
       ·have hsk:=trivial;clear hsk;have b5:=zoI z5;have Z5:=znd z5;clear z5;by_cases z6:l.st=0
        ·have hsk:=trivial;clear hsk;have b6:=zoI z6;have Z6:=znd z6;clear z6;by_cases z7:l.pad=0
         ·have hsk:=trivial;clear hsk;have b7:=zoI z7;have Z7:=znd z7;clear z7;go_wp2_with fail
          go_meet
          case rel=>exact⟨false,rfl,znd ⟨fun _=>⟨Z0.out,Z1.out,Z2.out,Z3.out,Z4.out,Z5.out,Z6.out,Z7.out⟩,fun _=>rfl⟩,HE⟩
         ·have b7:=zoH z7;have Z7:=znd z7;clear z7;go_wp2_with fail
          go_meet
          case rel=>exact⟨true,rfl,znd ⟨fun h9=>absurd h9 (by decide),fun h9=>absurd (h9.2.2.2.2.2.2.2) Z7.out⟩,HE⟩
        ·have b6:=zoH z6;have Z6:=znd z6;clear z6;go_wp2_with fail
         go_meet
         case rel=>exact⟨true,rfl,znd ⟨fun h9=>absurd h9 (by decide),fun h9=>absurd (h9.2.2.2.2.2.2.1) Z6.out⟩,HE⟩
       ·have b5:=zoH z5;have Z5:=znd z5;clear z5;go_wp2_with fail
        go_meet
        case rel=>exact⟨true,rfl,znd ⟨fun h9=>absurd h9 (by decide),fun h9=>absurd (h9.2.2.2.2.2.1) Z5.out⟩,HE⟩
      ·have b4:=zoH z4;have Z4:=znd z4;clear z4;go_wp2_with fail
       go_meet
       case rel=>exact⟨true,rfl,znd ⟨fun h9=>absurd h9 (by decide),fun h9=>absurd (h9.2.2.2.2.1) Z4.out⟩,HE⟩
     ·have b3:=zoH z3;have Z3:=znd z3;clear z3;go_wp2_with fail
      go_meet
      case rel=>exact⟨true,rfl,znd ⟨fun h9=>absurd h9 (by decide),fun h9=>absurd (h9.2.2.2.1) Z3.out⟩,HE⟩
    ·have b2:=zoH z2;have Z2:=znd z2;clear z2;go_wp2_with fail
     go_meet
     case rel=>exact⟨true,rfl,znd ⟨fun h9=>absurd h9 (by decide),fun h9=>absurd (h9.2.2.1) Z2.out⟩,HE⟩
   ·have b1:=zoH z1;have Z1:=znd z1;clear z1;go_wp2_with fail
    go_meet
    case rel=>exact⟨true,rfl,znd ⟨fun h9=>absurd h9 (by decide),fun h9=>absurd (h9.2.1) Z1.out⟩,HE⟩
  ·have b0:=zoH z0;have Z0:=znd z0;clear z0;go_wp2_with fail
   go_meet
   case rel=>exact⟨true,rfl,znd ⟨fun h9=>absurd h9 (by decide),fun h9=>absurd (h9.1) Z0.out⟩,HE⟩
 case rest=>
  clear HE c;obtain⟨S,rfl,HS,HE⟩:=hcut;have c:=Env.c1 HE.out;go_wp2_with fail;refine(zoL _ n (by omega) h1n l.Ab l.cb l.bias HE.out.o.1.bias (by have:=Hs.out.bias;omega) nb HL.out.b).mono ?_;rintro e w1 ⟨⟨B1,rfl,hB⟩,hb⟩;have HB1:=znd (hB.trans ⟨fun h p hp=>(HE.out.o.2.bias p hp).1 (h p hp),fun h p hp=>(HE.out.o.2.bias p hp).2 (h p hp)⟩);replace HE:=znd (Env.call HE.out hb);replace c:=Env.c1 HE.out;clear hB hb
  cases B1
  ·go_wp2_with fail;go_ret3;exact Beh10.no (fun hP=>absurd (HB1.out.2 (by rw[hP.r.2];simp)) (by decide)) HE.out.bel
  ·go_wp2_with fail;refine(zoL _ n (by omega) h1n l.Ak l.ck l.kern HE.out.o.1.kern (by have:=Hs.out.kern;omega) nk HL.out.k).mono ?_;rintro e w2 ⟨⟨B2,rfl,hB⟩,hb⟩;have HB2:=znd (hB.trans ⟨fun h p hp=>(HE.out.o.2.kern p hp).1 (h p hp),fun h p hp=>(HE.out.o.2.kern p hp).2 (h p hp)⟩);replace HE:=znd (Env.call HE.out hb);replace c:=Env.c1 HE.out;clear hB hb
   cases B2
   ·go_wp2_with fail;go_ret3;exact Beh10.no (fun hP=>absurd (HB2.out.2 (by rw[hP.p.1];simp)) (by decide)) HE.out.bel
   ·have HX1:=znd (HB1.out.1 (by first|rfl|trivial));have HX2:=znd (HB2.out.1 (by first|rfl|trivial));clear HB1 HB2;go_upto_region 24 with fail
    cases S
    ·have HZ:=znd (HS.out.1 rfl);obtain⟨s1,hs1⟩:∃a,a=nr+nb:=⟨_,rfl⟩;obtain⟨s2,hs2⟩:∃a,a=s1+nk:=⟨_,rfl⟩;have hnb9:=HNB.out;have u1:=nadd hs1 (by omega);have u2:=nadd hs2 (by omega);have Hsum:=znd (show s2=nr+nb+nk by omega);clear hs1 hs2 hnb9;by_cases q0:0<s2
     ·have H0:=znd q0;go_wp2_with fail;go_ret3;exact Beh10.no (fun hP=>by have h1:=zoy HL.out.r |>.1 hP.r.1;have h2:=zoy HL.out.b |>.1 hP.r.2;have h3:=zoy HL.out.k |>.1 hP.p.1;have h4:=H0.out;have h5:=Hsum.out;omega) HE.out.bel
     ·have H0:=znd q0;by_cases q1:ng<1
      ·have H1:=znd q1;go_wp2_with fail;go_ret3;exact Beh10.no (fun hP=>hP.g ((zoy HL.out.g).2 (by have:=H1.out;omega))) HE.out.bel
      ·have H1:=znd q1;go_wp2_with fail;clear q0 q1 u1 u2 c;go_loopw [8,13] (fun tv iv wr=>∃i:Nat,tv=.int .i64 (grS (l.grs.take i))/\iv=.int .i64 (i:Int)/\i<=ng/\Hid (∀g∈l.grs.take i,GrP N g)/\Hid (Env w [⟨w.heap.size,49,#[.int .u8 l.kind,.slice l.Ar nr l.cr,.slice l.Ab nb l.cb,.int .i64 l.ch,.int .i64 l.high,.int .i64 l.wide,.int .i64 l.out,.int .i64 l.kh,.int .i64 l.kw,.int .i64 l.st,.int .i64 l.pad,.slice l.Ak nk l.ck,.slice l.Ag ng l.cg]⟩] (fun V=>LaD n l V/\LaI w l V) (fun _=>True) wr)) (fun _ iv _=>ng-(intOf iv).toNat)
       case atStart=>exact⟨0,rfl,rfl,Nat.zero_le _,znd (by simp),HE⟩
       case round=>
        clear HE;obtain⟨i,rfl,rfl,hi,HP,HE⟩:=hrel;have c:=Env.c1 HE.out;have hng9:=HNB.out;by_cases hlt:i<ng
        ·have hlt2:i<l.grs.length:=by rw[<-HL.out.g];exact hlt
         have c0:=HE.out.o.1.grs.gc i hlt2;have Hsm:=znd (show grS (l.grs.take i)+((l.grs[i]).l.length:Int)=grS (l.grs.take (i+1))from(zpO hlt2).symm);have Hsb:=znd (zsN (gs:=l.grs.take (i+1)) fun v hm=>Hs.out.gr v (List.mem_of_mem_take hm));obtain⟨g,hg⟩:∃g,g=l.grs[i]:=⟨_,rfl⟩;rw[<-hg]at c0 Hsm;have Hg:=znd hg;have Hm:=znd (show g∈l.grs by rw[hg];exact List.getElem_mem hlt2);clear hg;have hgl:=Hs.out.gr g Hm.out;have slgg:=(HE.out.o.1.grs.ok g Hm.out:grD g wr).sl;obtain⟨gn,hgn⟩:∃k,k=g.l.length:=⟨_,rfl⟩;rw[<-hgn]at c0 Hsm hgl slgg;have Hgn:=znd hgn;clear hgn;by_cases q2:gn<1
         ·have H2:=znd q2;go_wp2_with fail;go_ret3;exact Beh10.no (fun hP=>by have h9:=(hP.eg g Hm.out).1;exact h9 ((zoy Hgn.out).2 (by have:=H2.out;omega))) HE.out.bel
         ·have H2:=znd q2;go_wp2_with fail;clear q2 c c0;go_loopw [15] (fun kv wr=>∃(k:Nat) (y:Int),kv=.int .i64 (k:Int)/\k<=gn/\Hid (RisI N (-1) g.l↔RisI N y (g.l.drop k))/\Hid ((k=0/\y=-1)\/(0<k/\0<=y/\g.l[k-1]?=some y))/\Hid (Env w [⟨w.heap.size,49,#[.int .u8 l.kind,.slice l.Ar nr l.cr,.slice l.Ab nb l.cb,.int .i64 l.ch,.int .i64 l.high,.int .i64 l.wide,.int .i64 l.out,.int .i64 l.kh,.int .i64 l.kw,.int .i64 l.st,.int .i64 l.pad,.slice l.Ak nk l.ck,.slice l.Ag ng l.cg]⟩] (fun V=>LaD n l V/\LaI w l V) (fun _=>True) wr)) (fun kv _=>gn-(intOf kv).toNat)
          case atStart=>exact⟨0,-1,rfl,Nat.zero_le _,znd Iff.rfl,znd (.inl ⟨rfl,rfl⟩),HE⟩
          case round=>
           clear HE;obtain⟨k,y,rfl,hk,HG1,HY,HE⟩:=hrel;have c:=Env.c1 HE.out;by_cases hlk:k<gn
           ·have hlk2:k<g.l.length:=by rw[<-Hgn.out];exact hlk
            have cz:=(HE.out.o.1.grs.ok g Hm.out:grD g _).ic k hlk2;obtain⟨z,hz⟩:∃z,g.l[k]=z:=⟨_,rfl⟩;rw[hz]at cz;have Hz:=znd hz;clear hz;by_cases q3:z<0
            ·go_upto_region 35 with fail;have Q3:=znd q3;have q3b:decide (z<0)=true:=decide_eq_true q3;go_quiet (fail);go_wp2_with fail;go_ret3;exact Beh10.no (fun hP=>absurd (HG1.out.1 (zpB.1 (hP.eg g Hm.out)).2) (by rw[zpa hlk2,Hz.out];intro h9;have h8:=h9.1;have h7:=Q3.out;have h6:=HY.out;omega)) (by(first|exact HE.out.bel|exact(HE.out.drewN _).bel))
            ·by_cases q4:z≥N
             ·go_upto_region 35 with fail;have Q4:=znd q4;have q3b:decide (z<0)=false:=decide_eq_false q3;have q4b:decide (z≥N)=true:=decide_eq_true q4;go_quiet (fail);go_wp2_with fail;go_ret3;exact Beh10.no (fun hP=>absurd (HG1.out.1 (zpB.1 (hP.eg g Hm.out)).2) (by rw[zpa hlk2,Hz.out];intro h9;have h8:=h9.1;have h7:=Q4.out;omega)) (by(first|exact HE.out.bel|exact(HE.out.drewN _).bel))
             ·have Q3:=znd q3;have Q4:=znd q4;have q3b:decide (z<0)=false:=decide_eq_false q3;have q4b:decide (z≥N)=false:=decide_eq_false q4;rcases Nat.eq_zero_or_pos k with hk0|hk0
              ·have HK0:=znd hk0;have hk1:¬0<k:=by omega
               clear hk0;have hy9:y=-1:=by rcases HY.out with⟨-,h9⟩|⟨h9,-⟩;exact h9;exact absurd h9 hk1
               have HY9:=znd hy9;clear hy9;have hk2:decide (0<k)=false:=decide_eq_false hk1;go_upto_region 35 with fail;have HG2:=znd (HG1.out.trans ((zpa hlk2).trans ⟨fun h9=>h9.2,fun h9=>⟨by rw[Hz.out];have h7:=HY9.out;have h6:=Q3.out;have h5:=Q4.out;omega,h9⟩⟩));rw[Hz.out]at HG2;go_quiet (fail);go_wp2_with fail;go_roundw
               case rel=>exact⟨k+1,z,by go_num,by omega,HG2,znd (.inr ⟨by omega,by omega,by rw[Nat.add_sub_cancel,List.getElem?_eq_getElem hlk2,Hz.out]⟩),znd (HE.out.drewN _)⟩
               case measure=>(simp[intOf]<;>omega)
              ·have hy9:0<=y/\g.l[k-1]?=some y:=by rcases HY.out with⟨h9,-⟩|⟨-,h9⟩;omega;exact h9
               have hkm:k-1<g.l.length:=by omega
               have cy:=(HE.out.o.1.grs.ok g Hm.out:grD g _).ic (k-1) hkm;have hy8:g.l[k-1]=y:=by have h9:=hy9.2;rw[List.getElem?_eq_getElem hkm]at h9;simpa using h9
               rw[hy8]at cy;have HY9:=znd hy9;obtain⟨m,hm9⟩:∃m,k=m+1:=⟨k-1,by omega⟩;have hwk:IntKind.i64.wrap ((k:Int)-1)=(m:Int):=by rw[zcs (by omega)];omega
               have hkm1:k-1=m:=by omega
               rw[hkm1]at cy;have hmn:m<gn:=by omega
               have hmn2:(m:Int)<(gn:Int):=by omega
               have hk2:decide (0<k)=true:=decide_eq_true hk0;clear hy9 hy8 hm9 hkm1 hkm;by_cases q5:z<=y
               ·have Q5:=znd q5;have q5b:decide (z<=y)=true:=decide_eq_true q5;go_upto_region 35 with fail;go_quiet (fail);go_wp2_with fail;go_ret3;exact Beh10.no (fun hP=>absurd (HG1.out.1 (zpB.1 (hP.eg g Hm.out)).2) (by rw[zpa hlk2,Hz.out];intro h9;have h8:=h9.1;have h7:=Q5.out;omega)) (by(first|exact HE.out.bel|exact(HE.out.drewN _).bel))
               ·have Q5:=znd q5;have q5b:decide (z<=y)=false:=decide_eq_false q5;go_upto_region 35 with fail;have HG2:=znd (HG1.out.trans ((zpa hlk2).trans ⟨fun h9=>h9.2,fun h9=>⟨by rw[Hz.out];have h7:=Q5.out;have h5:=Q4.out;omega,h9⟩⟩));rw[Hz.out]at HG2;go_quiet (fail);go_wp2_with fail;go_roundw
                case rel=>exact⟨k+1,z,by go_num,by omega,HG2,znd (.inr ⟨by omega,by omega,by rw[Nat.add_sub_cancel,List.getElem?_eq_getElem hlk2,Hz.out]⟩),znd (HE.out.drewN _)⟩
                case measure=>(simp[intOf]<;>omega)
           ·obtain rfl:k=gn:=by omega
            have HR:=znd (show GrP N g from zpB.2 ⟨by rw[<-Hgn.out];have:=H2.out;omega,HG1.out.2 (by rw[Hgn.out,List.drop_length];trivial)⟩);have hwt:IntKind.i64.wrap (grS (l.grs.take i)+(k:Int))=grS (l.grs.take (i+1)):=by
             rw[Hsm.out];refine zcs ⟨Hsb.out.1,?_⟩;have h9:=Hsb.out.2;rw[List.length_take]at h9;omega
            go_wp2_with fail;go_roundw
            case rel=>exact⟨i+1,rfl,by go_num,by omega,znd (zoC HP.out hlt2 (by rw[<-Hg.out];exact HR.out)),HE⟩
            case measure=>(simp[intOf]<;>omega)
        ·obtain rfl:i=ng:=by omega
         have HP2:=znd (show∀v∈l.grs,GrP N v by have:=HP.out;rw[HL.out.g,List.take_length]at this;exact this);have Hve:=znd (show grS (l.grs.take i)=grS l.grs by rw[HL.out.g,List.take_length]);rw[Hve.out];go_wp2_with fail;go_ret3;exact⟨.inl ⟨⟨⟨(zoy HL.out.k).2 (by have:=H0.out;have:=Hsum.out;omega),HZ.out⟩,⟨(zoy HL.out.r).2 (by have:=H0.out;have:=Hsum.out;omega),(zoy HL.out.b).2 (by have:=H0.out;have:=Hsum.out;omega)⟩,fun h9=>by have h8:=(zoy HL.out.g).1 h9;have:=H1.out;omega,HP2.out⟩,rfl⟩,HE.out.bel⟩
    ·have HZ:=znd (show¬zr4 l from fun h9=>absurd (HS.out.2 h9) (by decide));go_wp2_with fail;go_ret3;exact Beh10.no (fun hP=>HZ.out hP.p.2) HE.out.bel
theorem zr0 (w:World) (n:Nat) (hn:n<=20) (h1n:1<=n) (l:LaV) (N:Int) (h:LaD n l w) (hs:LaT l) (nr nb nk ng:Nat) (HL:Hid (Lens l nr nb nk ng)):Calls Tryz.prog 49 #[lA l nr nb nk ng,.int .i64 N] w fun e w'=>Beh10 (Fits w l N) (zoP l N) (zoU l) e/\Below w.heap.size w w':=by
 unfold zoP zoU;by_cases k1:l.kind=1
 ·have hiff:AffP w l N↔Fits w l N:=⟨fun h=>.inl ⟨k1,h⟩,fun h=>by rcases h with⟨-,h⟩|⟨h,-⟩|⟨h,-⟩|⟨h,-⟩<;>first|exact h|omega⟩;rw[if_pos k1,if_pos k1,<-HL.out.r];exact(zuM w n hn h1n l N h hs nr nb nk ng HL k1).mono fun e w' he=>⟨he.1.iff hiff,he.2⟩
 ·by_cases k2:l.kind=2
  ·have hiff:ConvP w l N↔Fits w l N:=⟨fun h=>.inr (.inl ⟨k2,h⟩),fun h=>by rcases h with⟨h,-⟩|⟨-,h⟩|⟨h,-⟩|⟨h,-⟩<;>first|exact h|omega⟩;rw[if_neg k1,if_neg k1,if_pos k2,if_pos k2];exact(zv3 w n hn h1n l N h hs nr nb nk ng HL k2).mono fun e w' he=>⟨he.1.iff hiff,he.2⟩
  ·by_cases k3:l.kind=3
   ·have hiff:(zoF l/\l.rows=[]/\l.bias=[]/\l.grs=[])↔Fits w l N:=⟨fun h=>.inr (.inr (.inl ⟨k3,h⟩)),fun h=>by rcases h with⟨h,-⟩|⟨h,-⟩|⟨-,h⟩|⟨h,-⟩<;>first|exact h|omega⟩;rw[if_neg k1,if_neg k1,if_neg k2,if_neg k2,if_pos k3,if_pos k3];exact(zuR w n hn h1n l N h hs nr nb nk ng HL k3).mono fun e w' he=>⟨he.1.iff hiff,he.2⟩
   ·rw[if_neg k1,if_neg k1,if_neg k2,if_neg k2,if_neg k3,if_neg k3,<-HL.out.g];by_cases k4:l.kind=4
    ·have hiff:PoolP l N↔Fits w l N:=⟨fun h=>.inr (.inr (.inr ⟨k4,h⟩)),fun h=>by rcases h with⟨h,-⟩|⟨h,-⟩|⟨h,-⟩|⟨-,h⟩<;>first|exact h|omega⟩;exact(zuU w n hn h1n l N h hs nr nb nk ng HL k4).mono fun e w' he=>⟨he.1.iff hiff,he.2⟩
    ·refine(zvt w n hn h1n l N h hs nr nb nk ng HL (by omega)).mono fun e w' he=>?_;obtain⟨⟨h1,-⟩|⟨-,a,b,rfl⟩,hb⟩:=he
     ·exact h1.elim
     ·exact Beh10.no (fun h9=>by rcases h9 with⟨h,-⟩|⟨h,-⟩|⟨h,-⟩|⟨h,-⟩<;>omega) hb

theorem Beh10.yes {P:Prop} {u t:Int} {e:Ending} (h:Beh10 P u t e) (hP:P):e=.returned (.tuple #[.int .i64 u,.int .i64 t,.bool true]):=by
 rcases h with⟨-,h⟩|⟨h,-⟩
 ·exact h
 ·exact absurd hP h
theorem Beh10.not {P:Prop} {u t:Int} {e:Ending} (h:Beh10 P u t e) (hP:¬P):∃a b,e=.returned (.tuple #[.int .i64 a,.int .i64 b,.bool false]):=by
 rcases h with⟨h,-⟩|⟨-,h⟩
 ·exact absurd h hP
 ·exact h
structure NeT (f:NeV):Prop where
 n:f.las.length<=100000
 la:∀l∈f.las,LaT l
theorem NeT.s {f:NeV} (h:NeT f):NeS f:=⟨h.n,fun l hl=>(h.la l hl).toLaS⟩
set_option maxRecDepth 100000 in
theorem zwt (w:World) (n:Nat) (hn:n<=20) (h1n:1<=n) (f:NeV) (h:NeD n f w) (hs:NeT f) (nl:Nat) (hnl:nl=f.las.length):Calls Tryz.prog 28 #[.agg #[.int .i64 f.inputs,.slice f.A nl f.c]] w (SizRes f w):=by
 have Hl:=znd hnl;have Hs:=znd hs;have Hw:=znd h;have sl1:=h.sl;rw[<-hnl]at sl1;have hsz1:=zpP;have hszi:=zcX;have hadd:=zaa;have hnlb:nl<=100000:=by have:=hs.n;omega
 obtain⟨W0,hW0⟩:∃W0,W0=(w.alloc (.cells #[.int .i64 f.inputs,.slice f.A nl f.c] 24)):=⟨_,rfl⟩;have HE:=znd (Env.lay1 (Env.start (h.old)) hW0);subst hW0;have c:=Env.c1 HE.out;clear h hs hnl;go_enter Tryz.func28,Tryz.ntmps28;go_upto_region 1 with fail;by_cases q0:f.inputs<1
 ·have H0:=znd q0;go_wp2_with fail;go_ret2;exact SizRes.err (by decide) (.inl ⟨fun h=>by have:=h.1;have:=H0.out;omega,rfl⟩) HE.out.bel
 ·have H0:=znd q0;by_cases q1:f.inputs>64
  ·have H1:=znd q1;go_wp2_with fail;go_ret2;exact SizRes.err (by decide) (.inl ⟨fun h=>by have:=h.2.1;have:=H1.out;omega,rfl⟩) HE.out.bel
  ·have H1:=znd q1;by_cases q2:16<nl
   ·have H2:=znd q2;go_wp2_with fail;go_ret2;exact SizRes.err (by decide) (.inl ⟨fun h=>by have:=h.2.2;have:=H2.out;have:=Hl.out;omega,rfl⟩) HE.out.bel
   ·have H2:=znd q2;have Hz:=znd (show zrD f from by have:=H0.out;have:=H1.out;have:=H2.out;have:=Hl.out;unfold zrD;omega);go_upto_region 7 with fail;clear q0 q1 q2;have HG:=znd ((GL.start HE.out).addb 3 #[.int .i64 f.inputs]);have hsw:(w.alloc (.cells #[.int .i64 f.inputs,.slice f.A nl f.c] 24)).heap.size=w.heap.size+1:=by simp
    rw[hsw]at HG;clear hsw HE c;go_loopw [4,5,6,7] (fun ov uv sv iv wr=>∃(Ao:Option Addr) (co i:Nat) (us:List Int) (N s:Int),ov=.slice Ao us.length co/\uv=.int .i64 N/\sv=.int .i64 s/\iv=.int .i64 (i:Int)/\i<=nl/\Hid (SzI w f i N s us)/\Hid (GL w [⟨3,1,.slice Ao us.length co,us.map zoA⟩] (fun V=>(∀b∈[(⟨w.heap.size,24,#[.int .i64 f.inputs,.slice f.A nl f.c]⟩:Bo)],Blk V b.g b.t b.cs)/\NeD n f V) (fun _=>True) wr)) (fun _ _ _ iv _=>nl-(intOf iv).toNat)
    case atStart=>exact⟨_,_,0,[f.inputs],f.inputs,0,rfl,rfl,rfl,rfl,Nat.zero_le _,znd (SzI.start w f Hz.out),HG⟩
    case round=>
     clear HG;obtain⟨Ao,co,i,us,N,s,rfl,rfl,rfl,rfl,hi,HI,HG⟩:=hrel;have cf:=Blk.cb (HG.out.o.1 _ (List.mem_singleton_self _));by_cases hlt:i<nl
     ·have hlt2:i<f.las.length:=by rw[<-Hl.out];exact hlt
      have HE:=znd HG.out.env;have cl:=HE.out.o.1.2.lac i hlt2;have HY:=znd (fun h1 h2=>SzI.next HI.out hlt2 h1 (Hs.out.la _ (List.getElem_mem hlt2)).toLaS h2);have HN:=znd (fun h1=>SzI.no HI.out hlt2 h1);have HB:=znd (fun h1 h2=>SzI.big HI.out hlt2 h1 h2);have Hbb:=znd (fun(h1:Fits w (f.las[i]'hlt2) N)=>zva (w:=w) (l:=f.las[i]'hlt2) h1 (Hs.out.la _ (List.getElem_mem hlt2)).toLaS HI.out.N);have HLd:=znd (show LaD n f.las[i] w from Hw.out.ok _ (List.getElem_mem hlt2));obtain⟨l,hl⟩:∃l,l=f.las[i]:=⟨_,rfl⟩;rw[<-hl]at cl HY HN HB Hbb HLd;have Hm:=znd (show l∈f.las by rw[hl];exact List.getElem_mem hlt2);clear hl;go_wp2_with fail;refine(zr0 _ n hn h1n l N (HE.out.o.1.2.ok l Hm.out) (Hs.out.la l Hm.out) _ _ _ _ (znd (Lens.of l))).mono ?_;rintro e w1 ⟨hr,hb⟩;have HFS:=znd (Fits.same (n:=N) HLd.out HG.out.bel);replace HE:=znd (Env.call HE.out hb);clear hb cl cf;by_cases hF:Fits w l N
      ·have HF:=znd hF;have he:=hr.yes (HFS.out.2 hF);subst he;clear hF hr;have hbb:=Hbb.out HF.out;have hI:=HI.out.s;obtain⟨u,hu⟩:∃u,u=zoP l N:=⟨_,rfl⟩;obtain⟨t,ht⟩:∃t,t=zoU l:=⟨_,rfl⟩;rw[<-hu,<-ht]at hbb HY HB⊢;have w1:IntKind.i64.wrap (s+t)=s+t:=zcs (by omega);clear hu ht hbb hI;go_upto_region 14 with fail;by_cases b0:u>256
       ·have H9:=znd (HB.out HF.out (.inl b0));go_wp2_with fail;go_ret2;exact SizRes.err (by decide) (.inr ⟨Hz.out,H9.out⟩) (Below.after HG.out.bel HE.out.bel)
       ·by_cases b1:s+t>16384
        ·have H9:=znd (HB.out HF.out (.inr b1));go_wp2_with fail;go_ret2;exact SizRes.err (by decide) (.inr ⟨Hz.out,H9.out⟩) (Below.after HG.out.bel HE.out.bel)
        ·have H9:=znd (HY.out HF.out (by omega));have hus:=HI.out.len;have hi16:=H2.out;obtain⟨A',c',w8,hrun,hG⟩:=GL.appI HG.out HE.out u (by omega);have Hrun:=znd hrun;have HG2:=znd hG;clear hrun hG hus hi16;go_wp2_with (at_builtin;refine zac rfl (.tmp 60) (.tmp 62) 58 _ _ _ rfl rfl rfl Hrun.out ?_);clear Hrun;go_wp2_with fail;go_roundw
         case rel=>exact⟨A',c',i+1,us++[u],u,s+t,by simp,rfl,rfl,by go_num,by omega,H9,znd (HG2.out.imp (fun _ h=>h) (fun _ _=>trivial))⟩
         case measure=>(simp[intOf]<;>omega)
      ·have HF:=znd hF;obtain⟨a9,b9,he⟩:=hr.not (fun h9=>hF (HFS.out.1 h9));subst he;clear hF hr;have H9:=znd (HN.out HF.out);go_wp2_with fail;go_ret2;exact SizRes.err (by decide) (.inr ⟨Hz.out,H9.out⟩) (Below.after HG.out.bel HE.out.bel)
     ·obtain rfl:i=nl:=by omega
      have hI:=HI.out;have hll:=Hl.out;rw[hll]at hI;have HD:=znd hI.done;clear hI hll;obtain⟨A',c',hv,hc,hr⟩:=HG.out.tell (cells:=zoA) (ok:=okI) (l:=us) (fun V _ _ _=>trivial);obtain⟨rfl,rfl⟩:Ao=A'/\co=c':=by simpa using hv
      have Hr:=znd hr;have Hbel:=znd HG.out.bel;clear hr hv HG;go_wp2_with fail;go_ret2;exact⟨Ao,co,us,0,rfl,.inr ⟨Hz.out,HD.out.1⟩,fun _=>HD.out.2,fun h9=>absurd rfl h9,hc,Hr.out,Hbel.out⟩
end Go.Proofs.YtegfiemlnnpidaaGreatDoor
