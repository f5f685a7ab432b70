/-
 ratio.Text; tripwirelaw04.is. strings.Cut at "/"; ratio.Parse. ratio.Parse.
-/
import Derived.Test.YtegfiemlnnpidaaGreatDoorSL
import Derived.Test.YtegfiemlnnpidaaGreatDoorBackM
import Derived.Test.YtegfiemlnnpidaaGreatDoorShelf
import Derived.Test.YtegfiemlnnpidaaGreatDoorRQ
import Derived.Lib.CutLaws
import Derived.Deep.DeepMust
namespace Go.Proofs.YtegfiemlnnpidaaGreatDoor
set_option maxHeartbeats 4000000
open Go.RowKit

theorem zsW {W:World} {i:IV} {z:Int} {n:Nat} (h:IntD i z n W) (hn:n<=1048576) (ht:Tab W):
 Calls Tryz.prog 124 #[iA i] W fun e w'=>e=.returned (strV (intText (decide (z<0)) z.natAbs))/\Below W.heap.size W w':=by
 obtain⟨l,hk,hr,hx,rfl⟩:=h.ex;have h1:=h.le;have h2:=ztU W i.neg i.A i.c l (by omega) hr hx ht;have e:intText i.neg (val B64 l)=intText (decide (iv i.neg (val B64 l)<0)) (iv i.neg (val B64 l)).natAbs:=by
  rw[zad];unfold intText;by_cases h0:val B64 l=0
  ·rw[if_pos h0,if_pos h0]
  ·rw[if_neg h0,if_neg h0];have:i.neg=decide (iv i.neg (val B64 l)<0):=by unfold iv;cases i.neg<;>simp<;>omega
   rw[<-this]
 rw[<-hk,e]at h2;exact h2
def zoT (q:Rat):List UInt8:=intText (decide (q.num<0)) q.num.natAbs++(if q.den=1 then[] else 47::intText false q.den)
theorem zw0 (n:Nat):B64^n<=10^(20*n):=by
 have h1:B64^n<=(10^20)^n:=Nat.pow_le_pow_left (by decide) _;rw[<-Nat.pow_mul]at h1;exact h1
theorem zpW {neg:Bool} {v n:Nat} (h:v<B64^n) (hn:0<n):(intText neg v).length<=20*n+1:=by
 have h1:=zsd (k:=20*n) (Nat.lt_of_lt_of_le h (zw0 n)) (by omega);unfold intText
 split
 ·simp
 ·split<;>simp<;>omega

set_option maxRecDepth 100000 in
theorem zt1 (w:World) (r:RV) (q:Rat) (n:Nat) (hn:n<=1048576) (h1n:1<=n) (h:RatD r q n w) (hT:Tz w) (ht:Tab w) (hd:q.den=1):
 Calls Tryz.prog 83 #[rA r] w fun e w'=>e=.returned (strV (zoT q))/\Below w.heap.size w w':=by
 have hsz:=h.sz h1n;have HLn:=znd hsz.1;have HLd:=znd (show(dn q).natAbs<B64^n from by unfold dn;split<;>first|exact Nat.pow_pos za4|exact hsz.2);obtain⟨T1,hT1⟩:∃T1:ByteArray,T1=⟨(intText (decide (q.num<0)) q.num.natAbs).toArray⟩:=⟨_,rfl⟩;have hs1:T1.size<=20*n+1:=by rw[hT1,zoM];exact zpW hsz.1 h1n
 have HF:=znd (show strV (zoT q)=.string T1 from by unfold zoT;rw[if_pos hd,List.append_nil,hT1])
 have Htx1:=znd (fun(W:World) (i:IV) (h1:IntN i q.num W) (h2:Tab W)=>(show Calls Tryz.prog 124 #[.agg (cI i)] W fun e w'=>e=.returned (.string T1)/\Below W.heap.size W w' from by
  have h3:=zsW (h1.ofLt HLn.out) (by omega) h2;rw[hT1];exact h3))
 obtain⟨W0,hW0⟩:∃W0,W0=(w.alloc (.cells (cR r) 55)):=⟨_,rfl⟩;obtain⟨p0,pb⟩:=lay1 hW0;have HBa:=znd p0;have Hbel:=znd pb;have Hx:=znd (Rests.al1 (h.old) hW0);have HT:=znd (Rests.al1 (hT.old) hW0);have Ht:=znd (Rests.al1 (ht.old) hW0);clear p0 pb;subst hW0;clear h hT ht hT1 hsz;have Hd:=znd hd;clear hd;unfold rA;go_enter Tryz.func83,Tryz.ntmps83;go_wp2_with fail;refine(zaG _ r q n (by omega) h1n (by first|exact Hx.out.now|exact Hx.out.drew.now) (by first|exact HT.out.now|exact HT.out.drew.now)).mono ?_;rintro e w1 ⟨rr,rfl,hrr,hb1⟩;have hgl:=HBa.out.lt;replace HBa:=znd (Blk.below (by exact HBa.out) hb1 (by exact HBa.out.lt));obtain⟨sw1HBa0,sw1HBa1,sw1HBa2,sw1HBa3⟩:=Blk.c4 HBa.out;obtain⟨fw1HBa0,fw1HBa1,fw1HBa2,fw1HBa3⟩:=Blk.f4 HBa.out;replace Ht:=znd (Rests.below (φ:=Tab) (by first|exact Ht.out|exact Ht.out.drew) hb1);replace Hbel:=znd (Below.after (by first|exact Hbel.out|exact Below.drew Hbel.out) hb1);have Hrr:=znd (hrr.mono (G:=(w.heap.size+1<=·)) (fun b hb=>Nat.le_trans hgl hb));clear hrr hgl;clear hb1;have hk:=(dn_k Hrr.out.now);have hk0:((rr.den.k:Int))=0:=by have hk1:=Hd.out;omega
 clear hk;go_wp2_with fail;replace HBa:=znd (((((HBa.out).set_ 0 (.bool rr.num.neg)).set_ 1 (.slice rr.num.A rr.num.k rr.num.c)).set_ 2 (.bool rr.den.neg)).set_ 3 (.slice rr.den.A rr.den.k rr.den.c));replace Ht:=znd (((((Ht.out).set (a:=⟨w.heap.size,0,none⟩) (by simp) (.bool rr.num.neg)).set (a:=⟨w.heap.size,1,none⟩) (by simp) (.slice rr.num.A rr.num.k rr.num.c)).set (a:=⟨w.heap.size,2,none⟩) (by simp) (.bool rr.den.neg)).set (a:=⟨w.heap.size,3,none⟩) (by simp) (.slice rr.den.A rr.den.k rr.den.c));replace Hrr:=znd (((((Hrr.out).set (a:=⟨w.heap.size,0,none⟩) (by simp) (.bool rr.num.neg)).set (a:=⟨w.heap.size,1,none⟩) (by simp) (.slice rr.num.A rr.num.k rr.num.c)).set (a:=⟨w.heap.size,2,none⟩) (by simp) (.bool rr.den.neg)).set (a:=⟨w.heap.size,3,none⟩) (by simp) (.slice rr.den.A rr.den.k rr.den.c));replace Hbel:=znd (((((Hbel.out).setCell (p:=⟨w.heap.size,0,none⟩) (by simp) (.bool rr.num.neg)).setCell (p:=⟨w.heap.size,1,none⟩) (by simp) (.slice rr.num.A rr.num.k rr.num.c)).setCell (p:=⟨w.heap.size,2,none⟩) (by simp) (.bool rr.den.neg)).setCell (p:=⟨w.heap.size,3,none⟩) (by simp) (.slice rr.den.A rr.den.k rr.den.c));have vHBa0:World.cell? _ ⟨w.heap.size,0,none⟩=some (.bool rr.num.neg):=HBa.out.cell 0;have vHBa1:World.cell? _ ⟨w.heap.size,1,none⟩=some (.slice rr.num.A rr.num.k rr.num.c):=HBa.out.cell 1;have vHBa2:World.cell? _ ⟨w.heap.size,2,none⟩=some (.bool rr.den.neg):=HBa.out.cell 2;have vHBa3:World.cell? _ ⟨w.heap.size,3,none⟩=some (.slice rr.den.A rr.den.k rr.den.c):=HBa.out.cell 3;refine(Htx1.out _ rr.num (RatN.num (by first|exact Hrr.out.now|exact Hrr.out.drew.now)) (by first|exact Ht.out.now|exact Ht.out.drew.now)).mono ?_;rintro e w2 ⟨rfl,hb2⟩;replace HBa:=znd (Blk.below (by exact HBa.out) hb2 (by exact HBa.out.lt));obtain⟨sw2HBa0,sw2HBa1,sw2HBa2,sw2HBa3⟩:=Blk.c4 HBa.out;obtain⟨fw2HBa0,fw2HBa1,fw2HBa2,fw2HBa3⟩:=Blk.f4 HBa.out;replace Ht:=znd (Rests.below (φ:=Tab) (by first|exact Ht.out|exact Ht.out.drew) hb2);replace Hrr:=znd (Rests.below (φ:=RatN rr q) (by first|exact Hrr.out|exact Hrr.out.drew) hb2);replace Hbel:=znd (Below.after (by first|exact Hbel.out|exact Below.drew Hbel.out) hb2);clear hb2;go_wp2_with fail;go_ret;exact⟨by rw[HF.out];rfl,Hbel.out⟩

set_option maxRecDepth 100000 in
theorem zso (w:World) (r:RV) (q:Rat) (n:Nat) (hn:n<=1048576) (h1n:1<=n) (h:RatD r q n w) (hT:Tz w) (ht:Tab w) (hd:q.den≠1):
 Calls Tryz.prog 83 #[rA r] w fun e w'=>e=.returned (strV (zoT q))/\Below w.heap.size w w':=by
 have hsz:=h.sz h1n;have HLn:=znd hsz.1;have HLd:=znd (show(dn q).natAbs<B64^n from by unfold dn;split<;>first|exact Nat.pow_pos za4|exact hsz.2);obtain⟨T1,hT1⟩:∃T1:ByteArray,T1=⟨(intText (decide (q.num<0)) q.num.natAbs).toArray⟩:=⟨_,rfl⟩;have hs1:T1.size<=20*n+1:=by rw[hT1,zoM];exact zpW hsz.1 h1n
 obtain⟨T2,hT2⟩:∃T2:ByteArray,T2=⟨(intText false q.den).toArray⟩:=⟨_,rfl⟩;have hs2:T2.size<=20*n+1:=by rw[hT2,zoM];exact zpW hsz.2 h1n
 have hdn:dn q=(q.den:Int):=by unfold dn;rw[if_neg hd]
 have HF:=znd (show strV (zoT q)=.string (T1++(⟨#[47]⟩++T2))from by
  unfold zoT;rw[if_neg hd,hT1,hT2];show Value.string _=Value.string _
  congr 1)
 have Htx2:=znd (fun(W:World) (i:IV) (h1:IntN i (dn q) W) (h2:Tab W)=>(show Calls Tryz.prog 124 #[.agg (cI i)] W fun e w'=>e=.returned (.string T2)/\Below W.heap.size W w' from by
  have h3:=zsW (h1.ofLt HLd.out) (by omega) h2;rw[hdn,decide_eq_false (by omega)]at h3;rw[hT2];exact h3))
 have hc1:=fun(W:World)=>run_string_add_sum (P:=Tryz.prog) W ⟨#[47]⟩ T2 (by rw[show(⟨#[47]⟩:ByteArray).size=1 from rfl];omega);have hc2:=fun(W:World)=>run_string_add_sum (P:=Tryz.prog) W T1 (⟨#[47]⟩++T2) (by rw[ByteArray.size_append,show(⟨#[47]⟩:ByteArray).size=1 from rfl];omega);have ha2:((⟨#[47]⟩:ByteArray)++T2).size=1+T2.size:=by rw[ByteArray.size_append];rfl
 have Htx1:=znd (fun(W:World) (i:IV) (h1:IntN i q.num W) (h2:Tab W)=>(show Calls Tryz.prog 124 #[.agg (cI i)] W fun e w'=>e=.returned (.string T1)/\Below W.heap.size W w' from by
  have h3:=zsW (h1.ofLt HLn.out) (by omega) h2;rw[hT1];exact h3))
 obtain⟨W0,hW0⟩:∃W0,W0=(w.alloc (.cells (cR r) 55)):=⟨_,rfl⟩;obtain⟨p0,pb⟩:=lay1 hW0;have HBa:=znd p0;have Hbel:=znd pb;have Hx:=znd (Rests.al1 (h.old) hW0);have HT:=znd (Rests.al1 (hT.old) hW0);have Ht:=znd (Rests.al1 (ht.old) hW0);clear p0 pb;subst hW0;clear h hT ht hT1 hT2 hdn hsz;have Hd:=znd hd;clear hd;unfold rA;go_enter Tryz.func83,Tryz.ntmps83;go_wp2_with fail;refine(zaG _ r q n (by omega) h1n (by first|exact Hx.out.now|exact Hx.out.drew.now) (by first|exact HT.out.now|exact HT.out.drew.now)).mono ?_;rintro e w1 ⟨rr,rfl,hrr,hb1⟩;have hgl:=HBa.out.lt;replace HBa:=znd (Blk.below (by exact HBa.out) hb1 (by exact HBa.out.lt));obtain⟨sw1HBa0,sw1HBa1,sw1HBa2,sw1HBa3⟩:=Blk.c4 HBa.out;obtain⟨fw1HBa0,fw1HBa1,fw1HBa2,fw1HBa3⟩:=Blk.f4 HBa.out;replace Ht:=znd (Rests.below (φ:=Tab) (by first|exact Ht.out|exact Ht.out.drew) hb1);replace Hbel:=znd (Below.after (by first|exact Hbel.out|exact Below.drew Hbel.out) hb1);have Hrr:=znd (hrr.mono (G:=(w.heap.size+1<=·)) (fun b hb=>Nat.le_trans hgl hb));clear hrr hgl;clear hb1;have hk:=(dn_k Hrr.out.now);have hk0:(0:Int)<(rr.den.k:Int):=by have hk1:=Hd.out;omega
 clear hk;go_wp2_with fail;replace HBa:=znd (((((HBa.out).set_ 0 (.bool rr.num.neg)).set_ 1 (.slice rr.num.A rr.num.k rr.num.c)).set_ 2 (.bool rr.den.neg)).set_ 3 (.slice rr.den.A rr.den.k rr.den.c));replace Ht:=znd (((((Ht.out).set (a:=⟨w.heap.size,0,none⟩) (by simp) (.bool rr.num.neg)).set (a:=⟨w.heap.size,1,none⟩) (by simp) (.slice rr.num.A rr.num.k rr.num.c)).set (a:=⟨w.heap.size,2,none⟩) (by simp) (.bool rr.den.neg)).set (a:=⟨w.heap.size,3,none⟩) (by simp) (.slice rr.den.A rr.den.k rr.den.c));replace Hrr:=znd (((((Hrr.out).set (a:=⟨w.heap.size,0,none⟩) (by simp) (.bool rr.num.neg)).set (a:=⟨w.heap.size,1,none⟩) (by simp) (.slice rr.num.A rr.num.k rr.num.c)).set (a:=⟨w.heap.size,2,none⟩) (by simp) (.bool rr.den.neg)).set (a:=⟨w.heap.size,3,none⟩) (by simp) (.slice rr.den.A rr.den.k rr.den.c));replace Hbel:=znd (((((Hbel.out).setCell (p:=⟨w.heap.size,0,none⟩) (by simp) (.bool rr.num.neg)).setCell (p:=⟨w.heap.size,1,none⟩) (by simp) (.slice rr.num.A rr.num.k rr.num.c)).setCell (p:=⟨w.heap.size,2,none⟩) (by simp) (.bool rr.den.neg)).setCell (p:=⟨w.heap.size,3,none⟩) (by simp) (.slice rr.den.A rr.den.k rr.den.c));have vHBa0:World.cell? _ ⟨w.heap.size,0,none⟩=some (.bool rr.num.neg):=HBa.out.cell 0;have vHBa1:World.cell? _ ⟨w.heap.size,1,none⟩=some (.slice rr.num.A rr.num.k rr.num.c):=HBa.out.cell 1;have vHBa2:World.cell? _ ⟨w.heap.size,2,none⟩=some (.bool rr.den.neg):=HBa.out.cell 2;have vHBa3:World.cell? _ ⟨w.heap.size,3,none⟩=some (.slice rr.den.A rr.den.k rr.den.c):=HBa.out.cell 3;refine(Htx1.out _ rr.num (RatN.num (by first|exact Hrr.out.now|exact Hrr.out.drew.now)) (by first|exact Ht.out.now|exact Ht.out.drew.now)).mono ?_;rintro e w2 ⟨rfl,hb2⟩;replace HBa:=znd (Blk.below (by exact HBa.out) hb2 (by exact HBa.out.lt));obtain⟨sw2HBa0,sw2HBa1,sw2HBa2,sw2HBa3⟩:=Blk.c4 HBa.out;obtain⟨fw2HBa0,fw2HBa1,fw2HBa2,fw2HBa3⟩:=Blk.f4 HBa.out;replace Ht:=znd (Rests.below (φ:=Tab) (by first|exact Ht.out|exact Ht.out.drew) hb2);replace Hrr:=znd (Rests.below (φ:=RatN rr q) (by first|exact Hrr.out|exact Hrr.out.drew) hb2);replace Hbel:=znd (Below.after (by first|exact Hbel.out|exact Below.drew Hbel.out) hb2);clear hb2;go_wp2_with fail;refine(Htx2.out _ rr.den (RatN.den (by first|exact Hrr.out.now|exact Hrr.out.drew.now)) (by first|exact Ht.out.now|exact Ht.out.drew.now)).mono ?_;rintro e w3 ⟨rfl,hb3⟩;replace Hbel:=znd (Below.after (by first|exact Hbel.out|exact Below.drew Hbel.out) hb3);clear hb3;go_wp2_with fail;go_ret;exact⟨by rw[HF.out];rfl,Hbel.out⟩

theorem zxu (w:World) (r:RV) (q:Rat) (n:Nat) (hn:n<=1048576) (h1n:1<=n) (h:RatD r q n w) (hT:Tz w) (ht:Tab w):
 Calls Tryz.prog 83 #[rA r] w fun e w'=>e=.returned (strV (zoT q))/\Below w.heap.size w w':=by
 by_cases hd:q.den=1
 ·exact zt1 w r q n hn h1n h hT ht hd
 ·exact zso w r q n hn h1n h hT ht hd

theorem lenK {v k:Nat} (h:v<10^k) (hk:k<=600):v<B64^100:=Nat.lt_trans h (zte 100 (by decide) (by omega))
theorem zrv (s:List UInt8):(parseN s).2.2<B64^100:=by
 unfold parseN;by_cases h1:numB (Lib.trimPrefix s [45]) (Lib.hasPrefix s [45])=false
 ·simp only[if_pos h1];exact Nat.pow_pos za4
 ·simp only[if_neg h1];by_cases h2:600<(Lib.trimPrefix s [45]).length
  ·simp only[if_pos h2];exact Nat.pow_pos za4
  ·simp only[if_neg h2];have h3:numB (Lib.trimPrefix s [45]) (Lib.hasPrefix s [45])=true:=by simpa using h1
   unfold numB at h3;simp only[Bool.and_eq_true,List.all_eq_true]at h3;exact lenK (zqU _ h3.1.2) (Nat.not_lt.1 h2)
theorem zpZ (s:List UInt8):(parseN s).1=0\/(parseN s).1=3\/(parseN s).1=11:=by
 unfold parseN;simp only
 split
 ·simp
 ·split<;>simp
def pz (p:Nat×Bool×Nat):Int:=iv p.2.1 p.2.2
def zw6 (k:Nat) (z:Int) (w:World) (e:Ending) (w':World):Prop:=
 ∃i:IV,e=.returned (.tuple #[.agg (cI i),.int .i64 (k:Nat)])/\IntD i z 100 w'/\Below w.heap.size w w'
def parseR (s:List UInt8):Nat×Rat:=
 let c:=Lib.cut s [47]
 let bot:=if c.2.2 then c.2.1 else[49]
 let p:=parseN c.1
 let d:=parseN bot
 if p.1=11\/d.1=11\/Lib.hasPrefix bot [45]=true then(11,0) else if p.1≠0 then(p.1,0) else if d.1≠0 then(d.1,0) else if pz d=0 then(10,0) else(0,Rat.divInt (pz p) (pz d))

end Go.Proofs.YtegfiemlnnpidaaGreatDoor
