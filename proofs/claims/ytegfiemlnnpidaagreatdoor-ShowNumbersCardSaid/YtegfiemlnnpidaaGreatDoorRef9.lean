/-
 tripwireref04: Parse. tripwireref09: letter, part, Tokens.
-/
import Derived.Test.YtegfiemlnnpidaaGreatDoorRef7
import Derived.Test.YtegfiemlnnpidaaGreatDoorRefP
import Derived.Test.YtegfiemlnnpidaaGreatDoorQP
import Derived.Test.YtegfiemlnnpidaaGreatDoorTT
namespace Go.Proofs.YtegfiemlnnpidaaGreatDoor
set_option maxHeartbeats 16000000
open Go.RowKit

def slash:List UInt8->Nat
 |[]=>0
 |b::l=>if b=47 then 0 else slash l+1
theorem zuz (l:List UInt8):slash l<=l.length:=by
 induction l with
 |nil=>simp[slash]
 |cons b l ih=>unfold slash;split<;>simp<;>omega
theorem zrs (l:List UInt8):Lib.index l [47]=if slash l<l.length then(slash l:Int) else -1:=by
 induction l with
 |nil=>simp[Lib.index,slash]
 |cons b l ih=>
  unfold Lib.index slash;by_cases h:b=47
  ·subst h;simp[List.isPrefixOf]
  ·have h':([47]:List UInt8).isPrefixOf (b::l)=false:=by simp[List.isPrefixOf];exact fun e=>h e.symm
   rw[if_neg (by rw[h'];decide),if_neg h,ih];by_cases h2:slash l<l.length
   ·rw[if_pos h2,if_neg (by first|(simp;done)|(simp;omega)),if_pos (by simpa using h2)];push_cast;rfl
   ·rw[if_neg h2,if_pos (by decide),if_neg (by simpa using h2)]
theorem zqj (l:List UInt8):Lib.cut l [47]=if slash l<l.length then(l.take (slash l),l.drop (slash l+1),true) else(l,[],false):=by
 unfold Lib.cut;rw[zrs];by_cases h:slash l<l.length
 ·simp[h]
 ·simp[h]
theorem zsC {l:List UInt8} {k:Nat} (h:k<l.length):k+slash (l.drop k)=if l[k]=47 then k else k+1+slash (l.drop (k+1)):=by
 rw[List.drop_eq_getElem_cons h]
 conv=>lhs;unfold slash
 split<;>omega
def finR (p d:Nat×Bool×Nat):Nat×Rat:=if p.1=11\/d.1=11 then(11,0) else if p.1≠0 then(p.1,0) else if d.1≠0 then(d.1,0) else if pz d=0 then(10,0) else(0,Rat.divInt (pz p) (pz d))
theorem zsO {l:List UInt8} (h:¬slash l<l.length):parseR l=finR (parseN l) (parseN [49]):=by
 unfold parseR finR;rw[zqj,if_neg h];simp[Lib.hasPrefix,List.isPrefixOf]
theorem zsz {l:List UInt8} (h:slash l<l.length) (h2:Lib.hasPrefix (l.drop (slash l+1)) [45]=true):parseR l=(11,0):=by
 unfold parseR;rw[zqj,if_pos h];simp[h2]
theorem zqw {l:List UInt8} (h:slash l<l.length) (h2:Lib.hasPrefix (l.drop (slash l+1)) [45]=false):parseR l=finR (parseN (l.take (slash l))) (parseN (l.drop (slash l+1))):=by
 unfold parseR finR;rw[zqj,if_pos h];simp[h2]
theorem zq5 {l:List UInt8} (h:Lib.hasPrefix l [45]=false):0<=pz (parseN l):=by
 unfold pz parseN;rw[h];simp only
 split
 ·simp[iv]
 ·split<;>simp[iv]<;>omega
theorem zqd (s:ByteArray) (W:World) (hs:s.size<=1048576):Calls Tryz.prog 154 #[.string s] W (zw6 (parseN s.data.toList).1 (pz (parseN s.data.toList)) W):=by
 refine(zs7 s W hs).mono ?_;rintro e w' ⟨A,c,rfl,hc,hr,hb⟩;exact⟨⟨(parseN s.data.toList).2.1,A,(digs B64 (parseN s.data.toList).2.2).length,c⟩,rfl,⟨⟨_,rfl,hr,zbi (by decide) _,by rw[zar (by decide)];rfl⟩,hc,zbG (zrv _)⟩,hb⟩
theorem zut (s:ByteArray) (a:Nat):(s.extract 0 a).data.toList=s.data.toList.take a:=by
 rw[ByteArray.data_extract,Array.toList_extract];simp[List.extract]
theorem zs1 (s:ByteArray) (a:Nat):(s.extract a s.size).data.toList=s.data.toList.drop a:=by
 rw[ByteArray.data_extract,Array.toList_extract];simp only[List.extract];exact List.take_of_length_le (by simp)
theorem zuT (l:List UInt8) (a:Nat):Lib.hasPrefix (l.drop a) [45]=decide (∃h:a<l.length,l[a]=45):=by
 by_cases h:a<l.length
 ·rw[List.drop_eq_getElem_cons h];have e:Lib.hasPrefix (l[a]::l.drop (a+1)) [45]=(45==l[a]):=by simp[Lib.hasPrefix,List.isPrefixOf]
  rw[e,Bool.eq_iff_iff,decide_eq_true_eq,beq_iff_eq];exact⟨fun e=>⟨h,e.symm⟩,fun⟨_,e⟩=>e.symm⟩
 ·rw[List.drop_eq_nil_of_le (by omega)];simp[Lib.hasPrefix,List.isPrefixOf,h]
set_option maxRecDepth 100000 in
theorem zpM (w:World) (s:ByteArray) (hs:s.size<=1048576):
 Calls Tryz.prog 108 #[.string s] w (RetRE (parseR s.data.toList).2 (parseR s.data.toList).1 w):=by
 have HE:=znd (lyZ (Rests.pure trivial w _));have c:=Env.c1 HE.out;go_enter Tryz.func108,Tryz.ntmps108;go_wp2_with fail;go_loopw [4,5] (fun av iv wr=>∃k:Nat,k<=s.size/\iv=.int .i64 ((k:Int)-1)/\av=.int .i64 ((k+slash (s.data.toList.drop k):Nat):Int)/\wr=w.alloc (.cells cZ 55)) (fun _ iv _=>(intOf iv+1).toNat)
 case atStart=>exact⟨s.size,Nat.le_refl _,by go_num,by rw[List.drop_eq_nil_of_le (by simp)];simp[slash],rfl⟩
 case round=>
  obtain⟨k,hk,rfl,rfl,rfl⟩:=hrel;by_cases h0:k=0
  ·subst h0;have hsl:slash s.data.toList<=s.size:=by have:=zuz s.data.toList;rwa [<-Lib.size_eq s]at this
   have HA:=znd (show 0+slash (s.data.toList.drop 0)=slash s.data.toList by simp);rw[HA.out];clear HA;obtain⟨a,ha⟩:∃a,a=slash s.data.toList:=⟨_,rfl⟩;rw[<-ha]at hsl⊢;have Ha:=znd ha;clear ha hk;have Hp:=znd (fun w=>zqd (s.extract 0 a) w (by rw[ByteArray.size_extract];omega));rw[zut]at Hp;obtain⟨p,hp⟩:∃p,p=parseN (s.data.toList.take a):=⟨_,rfl⟩;have HPC:=znd (zpZ (s.data.toList.take a));rw[<-hp]at Hp HPC;have Hpp:=znd hp;clear hp;go_wp2_with fail;refine(Hp.out _).mono ?_;rintro e w1 ⟨i1,rfl,hi1,hb⟩;replace HE:=znd ((HE.out.call hb).addD hi1 (by simp));clear hb hi1 c Hp;go_wp2_with fail;obtain⟨W2,g6,hW2,hg6,HE⟩:=Env.al HE.out 53 (cI i1);rw[hW2,hg6];clear hW2 hg6;refine(zoY _ 1 (by decide) (by decide)).mono ?_;rintro e w3 ⟨k2,rfl,hk,hb⟩;replace HE:=znd (Env.rx HE.out hk hb);clear hk hb;go_upto_if 35 with fail;obtain⟨W4,g8,hW4,hg8,HE⟩:=Env.al HE.out 53 (cI k2);rw[hW4,hg8];clear hW4 hg8;have c:=Env.c3 HE.out;have dd:=Env.d3 HE.out;go_cut [9] (fun fv wx=>∃(d:Nat×Bool×Nat) (k3:IV),fv=.int .i64 (d.1:Nat)/\Hid (parseR s.data.toList=finR p d/\0<=pz d/\(d.1=0\/d.1=3\/d.1=11))/\Hid (Env w [⟨g8,53,(cI k3)⟩,⟨g6,53,(cI i1)⟩,⟨w.heap.size,55,cZ⟩] (fun V=>IntD k3 (pz d) 100 V/\IntD i1 (pz p) 100 V) (fun _=>True) wx))
   case first=>
    by_cases hlt:a<s.size
    ·have Hlt:=znd (show slash s.data.toList<s.data.toList.length by rw[<-Ha.out,<-Lib.size_eq s];exact hlt);have hpre:=zuT s.data.toList (a+1);by_cases h1:a+1<s.size
     ·by_cases h45:s[a+1].toNat=45
      ·have HQ:=znd (zsz Hlt.out (by rw[<-Ha.out,hpre];exact decide_eq_true ⟨by have:=Lib.size_eq s;omega,UInt8.toNat_inj.1 (show s[a+1].toNat=(45:UInt8).toNat from h45)⟩));clear hpre;go_wp2_with fail;have hE:=HE.out.put4_2 (.bool false) (.slice none 0 0) (.bool false) (.slice none 0 0);replace c:=Env.c3 hE;exact bodyPost_ret (v:=.tuple #[.agg cZ,.int .i64 11]) (by simp[results,Tryz.results108,go_sem,c]) rfl (by rw[HQ.out];exact hE.retRE (r:=⟨⟨false,none,0,0⟩,⟨false,none,0,0⟩⟩) fun V _=>zbc V)
      ·have HF:=znd (zqd (s.extract (a+1) s.size) · (by rw[ByteArray.size_extract];omega));rw[zs1]at HF;have hpf:Lib.hasPrefix (s.data.toList.drop (a+1)) [45]=false:=by rw[hpre];exact decide_eq_false (fun⟨q,e⟩=>h45 (congrArg UInt8.toNat e))
       have HQ:=znd (zqw Hlt.out (by rw[<-Ha.out];exact hpf));rw[<-Ha.out,<-Hpp.out]at HQ;have HN:=znd (zq5 hpf);have HC:=znd (zpZ (s.data.toList.drop (a+1)));generalize parseN (s.data.toList.drop (a+1))=d at*;clear hpre hpf;go_wp2_with fail;refine(HF.out _).mono ?_;rintro e w5 ⟨i2,rfl,hi2,hb⟩;replace HE:=znd ((HE.out.call hb).addD hi2 (by simp));replace c:=Env.c3 HE.out;clear hb hi2 HF;go_wp2_with fail
       go_meet
       exact⟨d,i2,rfl,znd ⟨HQ.out,HN.out,HC.out⟩,znd ((HE.out.put2 _ _).imp (fun _ h=>⟨h.1,h.2.1⟩) fun _ _=>trivial)⟩
     ·have HF:=znd (zqd (s.extract (a+1) s.size) · (by rw[ByteArray.size_extract];omega));rw[zs1]at HF;have hpf:Lib.hasPrefix (s.data.toList.drop (a+1)) [45]=false:=by rw[hpre];exact decide_eq_false (fun⟨q,e⟩=>h1 (by have:=Lib.size_eq s;omega))
      have HQ:=znd (zqw Hlt.out (by rw[<-Ha.out];exact hpf));rw[<-Ha.out,<-Hpp.out]at HQ;have HN:=znd (zq5 hpf);have HC:=znd (zpZ (s.data.toList.drop (a+1)));generalize parseN (s.data.toList.drop (a+1))=d at*;clear hpre hpf;go_wp2_with fail;refine(HF.out _).mono ?_;rintro e w5 ⟨i2,rfl,hi2,hb⟩;replace HE:=znd ((HE.out.call hb).addD hi2 (by simp));replace c:=Env.c3 HE.out;clear hb hi2 HF;go_wp2_with fail
      go_meet
      exact⟨d,i2,rfl,znd ⟨HQ.out,HN.out,HC.out⟩,znd ((HE.out.put2 _ _).imp (fun _ h=>⟨h.1,h.2.1⟩) fun _ _=>trivial)⟩
    ·have HQ:=znd (zsO (l:=s.data.toList) (by rw[<-Ha.out];have:=Lib.size_eq s;omega));have HP1:=znd (show p=parseN s.data.toList by rw[Hpp.out,List.take_of_length_le (by have:=Lib.size_eq s;omega)]);rw[<-HP1.out]at HQ;go_wp2_with fail
     go_meet
     exact⟨parseN [49],k2,rfl,znd ⟨HQ.out,by decide,by decide⟩,znd ((HE.out.sink.imp (fun _ h=>⟨h.1.1.ofLt (by decide),h.2.1⟩) fun _ _=>trivial))⟩
   case rest=>
   clear HE c Hpp Ha hsl;obtain⟨d,k3,rfl,HQ,HE⟩:=hcut;have c:=Env.c3 HE.out;obtain⟨HQ1,HN,HC⟩:=HQ.out;replace HQ1:=znd HQ1;replace HN:=znd HN;have HQ2:=znd (show finR p d=if p.1=11\/d.1=11 then(11,0) else if p.1≠0 then(p.1,0) else if d.1≠0 then(d.1,0) else if pz d=0 then(10,0) else(0,Rat.divInt (pz p) (pz d))from rfl);clear HQ;rcases HPC.out with hp|hp|hp<;>rcases HC with hd|hd|hd<;>rw[hp,hd]<;>rw[hp,hd]at HQ2<;>clear hp hd
   ·by_cases h0:pz d=0
    ·have HQ3:=znd (HQ1.out.trans (HQ2.out.trans (show _=((10:Nat),(0:Rat)) by simp[h0])));have hsg:((pz d).sign==0)=true:=by rw[h0];rfl
     have Hh:=znd h0;clear h0;go_wp2_with fail;refine(zov _ k3 (pz d) 100 (by decide) HE.out.o.1).mono ?_;rintro e w6 ⟨rfl,hb⟩;replace HE:=znd (HE.out.call hb);replace c:=Env.c3 HE.out;clear hb;go_wp2_with fail;have hE:=HE.out.put4_2 (.bool false) (.slice none 0 0) (.bool false) (.slice none 0 0);replace c:=Env.c3 hE;exact bodyPost_ret (v:=.tuple #[.agg cZ,.int .i64 10]) (by simp[results,Tryz.results108,go_sem,c]) rfl (by rw[HQ3.out];exact hE.retRE (r:=⟨⟨false,none,0,0⟩,⟨false,none,0,0⟩⟩) fun V _=>zbc V)
    ·have HQ3:=znd (HQ1.out.trans (HQ2.out.trans (show _=((0:Nat),Rat.divInt (pz p) (pz d)) by simp[h0])));have hsg:((pz d).sign==0)=false:=by simpa[Int.sign_eq_zero_iff_zero] using h0
     have Hh:=znd (show 0<pz d by have:=HN.out;omega);clear h0;go_wp2_with fail;refine(zov _ k3 (pz d) 100 (by decide) HE.out.o.1).mono ?_;rintro e w6 ⟨rfl,hb⟩;replace HE:=znd (HE.out.call hb);replace c:=Env.c3 HE.out;clear hb;go_wp2_with fail;refine(zp3 _ i1 k3 (pz p) (pz d) 100 (by decide) (HE.out.wd.o.2) (HE.out.wd.o.1) Hh.out).mono ?_;rintro e w7 ⟨r,rfl,hk,hb⟩;replace HE:=znd (Env.rx HE.out hk hb);replace c:=Env.c3 HE.out;clear hk hb;go_wp2_with fail;have hE:=HE.out.put4_2 (.bool r.num.neg) (.slice r.num.A r.num.k r.num.c) (.bool r.den.neg) (.slice r.den.A r.den.k r.den.c);replace c:=Env.c3 hE;exact bodyPost_ret (v:=.tuple #[.agg (cR r),.int .i64 0]) (by simp[results,Tryz.results108,go_sem,c]) rfl (by rw[HQ3.out];exact hE.retRE fun _ h=>h.1)
   ·have HQ3:=znd (HQ1.out.trans (HQ2.out.trans (show _=((3:Nat),(0:Rat)) by simp)));go_wp2_with fail;have hE:=HE.out.put4_2 (.bool false) (.slice none 0 0) (.bool false) (.slice none 0 0);replace c:=Env.c3 hE;exact bodyPost_ret (v:=.tuple #[.agg cZ,.int .i64 3]) (by simp[results,Tryz.results108,go_sem,c]) rfl (by rw[HQ3.out];exact hE.retRE (r:=⟨⟨false,none,0,0⟩,⟨false,none,0,0⟩⟩) fun V _=>zbc V)
   rotate_left
   ·have HQ3:=znd (HQ1.out.trans (HQ2.out.trans (show _=((3:Nat),(0:Rat)) by simp)));go_wp2_with fail;have hE:=HE.out.put4_2 (.bool false) (.slice none 0 0) (.bool false) (.slice none 0 0);replace c:=Env.c3 hE;exact bodyPost_ret (v:=.tuple #[.agg cZ,.int .i64 3]) (by simp[results,Tryz.results108,go_sem,c]) rfl (by rw[HQ3.out];exact hE.retRE (r:=⟨⟨false,none,0,0⟩,⟨false,none,0,0⟩⟩) fun V _=>zbc V)
   ·have HQ3:=znd (HQ1.out.trans (HQ2.out.trans (show _=((3:Nat),(0:Rat)) by simp)));go_wp2_with fail;have hE:=HE.out.put4_2 (.bool false) (.slice none 0 0) (.bool false) (.slice none 0 0);replace c:=Env.c3 hE;exact bodyPost_ret (v:=.tuple #[.agg cZ,.int .i64 3]) (by simp[results,Tryz.results108,go_sem,c]) rfl (by rw[HQ3.out];exact hE.retRE (r:=⟨⟨false,none,0,0⟩,⟨false,none,0,0⟩⟩) fun V _=>zbc V)
   rotate_left
   rotate_left
   rotate_left
   rotate_left
   all_goals
    have HQ3:=znd (HQ1.out.trans (HQ2.out.trans (show _=((11:Nat),(0:Rat)) by simp)));go_wp2_with fail;have hE:=HE.out.put4_2 (.bool false) (.slice none 0 0) (.bool false) (.slice none 0 0);replace c:=Env.c3 hE;exact bodyPost_ret (v:=.tuple #[.agg cZ,.int .i64 11]) (by simp[results,Tryz.results108,go_sem,c]) rfl (by rw[HQ3.out];exact hE.retRE (r:=⟨⟨false,none,0,0⟩,⟨false,none,0,0⟩⟩) fun V _=>zbc V)
  ·obtain⟨m,rfl⟩:∃m,k=m+1:=⟨k-1,by omega⟩;have hm:m<s.size:=by omega
   have HS:=znd (zsC (l:=s.data.toList) (k:=m) (by rwa [<-Lib.size_eq s]));by_cases h47:s[m].toNat=47
   ·go_wp2_with fail;go_roundw
    case rel=>exact⟨m,by omega,by go_num,by rw[HS.out,if_pos (show s.data.toList[m]=47 from UInt8.toNat_inj.1 (show s[m].toNat=(47:UInt8).toNat from h47))];go_num,by first|rfl|trivial⟩
    case measure=>(simp[intOf]<;>omega)
   ·go_wp2_with fail;go_roundw
    case rel=>exact⟨m,by omega,by go_num,by rw[HS.out,if_neg (show¬s.data.toList[m]=47 from fun e=>h47 (congrArg UInt8.toNat e))],by first|rfl|trivial⟩
    case measure=>(simp[intOf]<;>omega)

structure TtJ (s:ByteArray) (T:Nat×Nat×List Tk) (k m:Nat) (r:Bool) (ps:List (Tk×RV)):Prop where
 le:k<=s.size
 ln:m<=1+k
 ct:ps.length<=k
 eq:T=glue (ps.map Prod.fst) (toks parseR (s.size+1) (skipG r (s.data.toList.drop k) m).1 (skipG r (s.data.toList.drop k) m).2)
theorem TtJ.start (s:ByteArray):TtJ s (toks parseR (s.size+1) s.data.toList 1) 0 1 false []:=by
 refine⟨Nat.zero_le _,Nat.le_refl _,Nat.le_refl _,?_⟩;rw[List.drop_zero];have e:toks parseR (s.size+1) (skipG false s.data.toList 1).1 (skipG false s.data.toList 1).2=toks parseR (s.size+1) s.data.toList 1:=zpE (by rw[zpD]);rw[e];have hz:=zr6 (P:=parseR) (s.size+1) s.data.toList 1;generalize toks parseR (s.size+1) s.data.toList 1=T at*;unfold glue;obtain⟨a,b,c⟩:=T;simp only at hz
 split
 ·rename_i h0
  simp at h0;simp[h0,hz h0]
 ·rfl
theorem TtJ.line {s:ByteArray} {T:Nat×Nat×List Tk} {k m:Nat} {r:Bool} {ps:List (Tk×RV)} (h:TtJ s T k m r ps) (hk:k<s.size) (hb:s[k]=10):TtJ s T (k+1) (m+1) false ps:=by
 have e:skipG r (s.data.toList.drop k) m=skipG false (s.data.toList.drop (k+1)) (m+1):=by
  rw[zpC hk];conv=>lhs;unfold skipG;rw[if_pos hb]
 have:=h.ln;have:=h.ct;exact⟨by omega,by omega,by omega,by rw[<-e];exact h.eq⟩
theorem TtJ.blank {s:ByteArray} {T:Nat×Nat×List Tk} {k m:Nat} {r:Bool} {ps:List (Tk×RV)} (h:TtJ s T k m r ps) (hk:k<s.size) (hb:s[k]≠10) (hq:(r||zl3 s[k]||s[k]==35)=true):TtJ s T (k+1) m (r||s[k]==35) ps:=by
 have e:skipG r (s.data.toList.drop k) m=skipG (r||s[k]==35) (s.data.toList.drop (k+1)) m:=by
  rw[zpC hk];conv=>lhs;unfold skipG;rw[if_neg hb,if_pos hq]
 have:=h.ln;have:=h.ct;exact⟨by omega,by omega,by omega,by rw[<-e];exact h.eq⟩
theorem TtJ.toI {s:ByteArray} {T:Nat×Nat×List Tk} {k m:Nat} {r:Bool} {ps:List (Tk×RV)} (h:TtJ s T k m r ps) (hk:k<s.size) (hb:s[k]≠10) (hq:(r||zl3 s[k]||s[k]==35)=false):TtI s T k m ps:=by
 have hr:r=false:=by revert hq;cases r<;>simp
 subst hr;have e:skipG false (s.data.toList.drop k) m=(s.data.toList.drop k,m):=by
  rw[zpC hk];conv=>lhs;unfold skipG;rw[if_neg hb,if_neg (by rw[hq];decide)]
 refine⟨e,h.le,h.ln,h.ct,?_⟩;rw[h.eq,e,zpQ (s.size+1-k) (s.size+1) _ _ (by simp;omega) (by simp;omega)]
theorem TtJ.next {s:ByteArray} {T:Nat×Nat×List Tk} {k m en:Nat} {ps:List (Tk×RV)} {r:RV} (h:TtI s T k m ps) (hk:k<s.size) (he:(zp0 s k hk).1=0) (hd:(zp0 s k hk).2.2=s.data.toList.drop en) (hgt:k<en) (hle:en<=s.size):
 TtJ s T en m false (ps++[(⟨(zp0 s k hk).2.1.kind,(zp0 s k hk).2.1.s,(zp0 s k hk).2.1.x,m⟩,r)]):=by
 have hl:=h.ln;have hc:=h.ct;refine⟨hle,by omega,by simp;omega,?_⟩;rw[h.tok hk,if_pos he,hd,zvA (zsP s k hk)];have e:toks parseR (s.size+1) (skipG false (s.data.toList.drop en) m).1 (skipG false (s.data.toList.drop en) m).2=toks parseR (s.size-k) (s.data.toList.drop en) m:=by
  have h1:=zqP false (s.data.toList.drop en) m;have h2:(s.data.toList.drop en).length=s.size-en:=by simp
  rw[zpQ (s.size+1) (s.size-k) _ _ (by omega) (by omega)];exact zpE (by rw[zpD])
 rw[e];generalize toks parseR (s.size-k) (s.data.toList.drop en) m=R;unfold glue zn1;by_cases h0:R.1=0<;>simp[h0]
theorem TtJ.done {s:ByteArray} {T:Nat×Nat×List Tk} {k m:Nat} {r:Bool} {ps:List (Tk×RV)} (h:TtJ s T k m r ps) (hk:¬k<s.size):T=(0,0,ps.map Prod.fst++[⟨1,[],0,m⟩]):=by
 rw[h.eq,List.drop_eq_nil_of_le (by simp;omega)]
 cases r<;>rfl
theorem Tt.app2 {w W:World} {v:Value} {ps:List (Tk×RV)} (h:Tt w W v ps) (kd m:Nat) (x:ByteArray) (q:Rat) (r:RV) (hr:Rests W (fun b=>w.heap.size+1<=b/\some b≠v.ownBlock) (RatN r q)) (hl:ps.length+1<=1000000):
 ∃v' w',(Builtin.append_ #[110,110] 110 #[v,.slice (some ⟨W.heap.size,0,none⟩) 1 1]).run Tryz.prog (W.alloc (.cells #[.int .u8 (kd:Int),.string x,.bool r.num.neg,.slice r.num.A r.num.k r.num.c,.bool r.den.neg,.slice r.den.A r.den.k r.den.c,.int .i64 (m:Nat)] 118))=.ok v' w'/\Tt w w' v' (ps++[(⟨kd,x.data.toList,q,m⟩,r)]):=h.app ⟨kd,x.data.toList,q,m⟩ r hr hl

set_option maxRecDepth 100000 in
theorem zpe (b:UInt8) (w:World):
 Calls Tryz.prog 106 #[.int .u8 (b.toNat:Int)] w fun e w'=>e=.returned (.bool (zm0 b))/\Below w.heap.size w w':=by
 rw[zvi];generalize b.toNat=n;by_cases h1:97<=n
 ·have t3:(97:Int)<=(n:Int):=by omega
  by_cases h2:n<=122
  ·have t4:(n:Int)<=(122:Int):=by omega
   rw[decide_eq_true h1,decide_eq_true h2];clear h1 h2;go_enter Tryz.func106,Tryz.ntmps106;go_wp2_with fail;go_ret;exact⟨rfl,Below.refl _ _⟩
  ·have t4:¬(n:Int)<=(122:Int):=by omega
   rw[decide_eq_true h1,decide_eq_false h2];clear h1 h2;go_enter Tryz.func106,Tryz.ntmps106;go_wp2_with fail;go_ret;exact⟨rfl,Below.refl _ _⟩
 ·have t3:¬(97:Int)<=(n:Int):=by omega
  rw[decide_eq_false h1];clear h1;go_enter Tryz.func106,Tryz.ntmps106;go_wp2_with fail;go_ret;exact⟨rfl,Below.refl _ _⟩

theorem ztr (b:UInt8):zfd b=decide ((48<=b.toNat/\b.toNat<=57)\/b.toNat=45\/b.toNat=47):=by
 rw[zpN,Bool.eq_iff_iff];have e:digB b=(decide (48<=b.toNat)&&decide (b.toNat<=57)):=rfl;rw[e];simp;omega
set_option maxRecDepth 100000 in
theorem zpb (b:UInt8) (w:World):
 Calls Tryz.prog 107 #[.int .u8 (b.toNat:Int)] w fun e w'=>e=.returned (.bool (zfd b))/\Below w.heap.size w w':=by
 rw[ztr];generalize b.toNat=n;by_cases h1:48<=n/\n<=57
 ·rw[decide_eq_true (.inl h1)];have t3:(48:Int)<=(n:Int):=by omega
  have t4:(n:Int)<=57:=by omega
  clear h1;go_enter Tryz.func107,Tryz.ntmps107;go_wp2_with fail;go_ret;exact⟨rfl,Below.refl _ _⟩
 ·by_cases h2:n=45
  ·subst h2;go_enter Tryz.func107,Tryz.ntmps107;go_wp2_with fail;go_ret;exact⟨rfl,Below.refl _ _⟩
  ·by_cases h3:n=47
   ·subst h3;go_enter Tryz.func107,Tryz.ntmps107;go_wp2_with fail;go_ret;exact⟨rfl,Below.refl _ _⟩
   ·rw[decide_eq_false (by omega)];have t1:((n:Int)==45)=false:=by simp;omega
    have t2:((n:Int)==47)=false:=by simp;omega
    by_cases h4:48<=n
    ·have t3:(48:Int)<=(n:Int):=by omega
     have t4:¬(n:Int)<=57:=by omega
     clear h1 h2 h3 h4;go_enter Tryz.func107,Tryz.ntmps107;go_wp2_with fail;go_ret;exact⟨rfl,Below.refl _ _⟩
    ·have t3:¬(48:Int)<=(n:Int):=by omega
     clear h1 h2 h3 h4;go_enter Tryz.func107,Tryz.ntmps107;go_wp2_with fail;go_ret;exact⟨rfl,Below.refl _ _⟩

theorem zq3 {b:UInt8} {n:UInt8} (h:b.toNat=n.toNat):b=n:=UInt8.toNat_inj.1 h
theorem TtJ.blankF {s:ByteArray} {T:Nat×Nat×List Tk} {k m:Nat} {ps:List (Tk×RV)} (h:TtJ s T k m false ps) (hk:k<s.size) (hb:s[k]=32\/s[k]=9\/s[k]=13):TtJ s T (k+1) m false ps:=by
 have e:(s[k]==35)=false:=by rcases hb with e|e|e<;>rw[e]<;>rfl
 have:=h.blank hk (by rcases hb with e|e|e<;>rw[e]<;>decide) (by rcases hb with e|e|e<;>rw[e]<;>rfl)
 rwa [e]at this
theorem TtJ.hash {s:ByteArray} {T:Nat×Nat×List Tk} {k m:Nat} {ps:List (Tk×RV)} (h:TtJ s T k m false ps) (hk:k<s.size) (hb:s[k]=35):TtJ s T (k+1) m true ps:=by
 have:=h.blank hk (by rw[hb];decide) (by rw[hb];rfl)
 rwa [show(s[k]==35)=true by rw[hb];rfl]at this
theorem zs6 {b:UInt8} (h:b.toNat≠10/\b.toNat≠32/\b.toNat≠9/\b.toNat≠13/\b.toNat≠35):b≠10/\(false||zl3 b||b==35)=false:=by
 obtain⟨h1,h2,h3,h4,h5⟩:=h;have f:∀n:UInt8,b.toNat≠n.toNat->(b==n)=false:=fun n hn=>by rw[beq_eq_false_iff_ne];intro e;rw[e]at hn;exact hn rfl
 refine⟨fun e=>h1 (by rw[e];rfl),?_⟩;unfold zl3;rw[f 32 h2,f 9 h3,f 13 h4,f 35 h5];rfl
theorem zs3 {b:UInt8} (h:zfd b=true) (hn:b.toNat≠47):(digB b||decide ((b.toNat:Int)=45))=true:=by
 rw[zpN]at h;have:decide ((b.toNat:Int)=47)=false:=decide_eq_false (by omega)
 rwa [this,Bool.or_false]at h
theorem zvz {b:UInt8} (h:zfd b=false\/b.toNat=47):(digB b||decide ((b.toNat:Int)=45))=false:=by
 rcases h with h|h
 ·rw[zpN]at h;revert h
  cases digB b<;>cases decide ((b.toNat:Int)=45)<;>simp
 ·have:b=47:=zq3 h;subst this;decide
theorem zpl {b:UInt8}:zmi b=decide (b.toNat=123\/b.toNat=125\/b.toNat=91\/b.toNat=93\/b.toNat=58\/b.toNat=44):=by
 have f:∀n:UInt8,(b==n)=decide (b.toNat=n.toNat):=fun n=>by rw[Bool.eq_iff_iff];simp[UInt8.toNat_inj]
 unfold zmi;rw[f 123,f 125,f 91,f 93,f 58,f 44,Bool.eq_iff_iff];simp[or_assoc]

set_option maxRecDepth 100000 in
theorem zqR (s:ByteArray) (w:World) (hs:s.size<=262144):
 Calls Tryz.prog 69 #[.string s] w (zrG (toks parseR (s.size+1) s.data.toList 1) w):=by
 have H0:=znd (Tt.start w);have HI0:=znd (TtJ.start s);have t0:¬(262144:Int)<(s.size:Int):=by omega
 generalize hTT:toks parseR (s.size+1) s.data.toList 1=T at*;clear hTT;go_enter Tryz.func69,Tryz.ntmps69;go_wp2_with fail;go_loopw [4,5,6,7] (fun ov lv rv av wr=>∃v k m r ps,v=ov/\lv=.int .i64 (m:Nat)/\rv=.bool r/\av=.int .i64 (k:Nat)/\k<=s.size/\m<=1+k/\Hid (TtJ s T k m r ps)/\Hid (Tt w wr v ps)) (fun _ _ _ av _=>s.size-(intOf av).toNat)
 case atStart=>exact⟨_,0,1,false,[],rfl,rfl,rfl,rfl,Nat.zero_le _,Nat.le_refl _,HI0,H0⟩
 case round=>
  clear HI0 H0;obtain⟨v,k,m,r,ps,rfl,rfl,rfl,rfl,hk,hm,hJ,hO⟩:=hrel;by_cases hlt:k<s.size
  ·by_cases h10:s[k].toNat=10
   ·go_wp2_with fail;go_roundw
    case rel=>exact⟨v,k+1,m+1,false,ps,rfl,by first|rfl|go_num,rfl,by go_num,by omega,by omega,znd (hJ.out.line hlt (zq3 h10)),hO⟩
    case measure=>(simp[intOf]<;>omega)
   ·have t10:((s[k].toNat:Int)==10)=false:=by simp;omega
    cases r
    ·by_cases hq:s[k].toNat=32\/s[k].toNat=9\/s[k].toNat=13\/s[k].toNat=35
     ·rcases hq with hq|hq|hq|hq
      ·go_wp2_with fail;go_roundw
       case rel=>exact⟨v,k+1,m,false,ps,rfl,by first|rfl|go_num,rfl,by go_num,by omega,by omega,znd (hJ.out.blankF hlt (.inl (zq3 hq))),hO⟩
       case measure=>(simp[intOf]<;>omega)
      ·go_wp2_with fail;go_roundw
       case rel=>exact⟨v,k+1,m,false,ps,rfl,by first|rfl|go_num,rfl,by go_num,by omega,by omega,znd (hJ.out.blankF hlt (.inr (.inl (zq3 hq)))),hO⟩
       case measure=>(simp[intOf]<;>omega)
      ·go_wp2_with fail;go_roundw
       case rel=>exact⟨v,k+1,m,false,ps,rfl,by first|rfl|go_num,rfl,by go_num,by omega,by omega,znd (hJ.out.blankF hlt (.inr (.inr (zq3 hq)))),hO⟩
       case measure=>(simp[intOf]<;>omega)
      ·go_wp2_with fail;go_roundw
       case rel=>exact⟨v,k+1,m,true,ps,rfl,by first|rfl|go_num,rfl,by go_num,by omega,by omega,znd (hJ.out.hash hlt (zq3 hq)),hO⟩
       case measure=>(simp[intOf]<;>omega)
     ·obtain⟨q1,q2⟩:=zs6 (b:=s[k]) ⟨h10,by omega,by omega,by omega,by omega⟩;have HI:=znd (hJ.out.toI hlt q1 q2);have t32:((s[k].toNat:Int)==32)=false:=by simp;omega
      have t9:((s[k].toNat:Int)==9)=false:=by simp;omega
      have t13:((s[k].toNat:Int)==13)=false:=by simp;omega
      have t35:((s[k].toNat:Int)==35)=false:=by simp;omega
      clear q1 q2 hq hJ h10;by_cases hL:zm0 s[k]=true
      ·go_wp2_with fail;refine(zpe s[k] _).mono ?_;rintro E w1 ⟨rfl,hb⟩;have HO:=znd (hO.out.after hb);clear hb;rw[hL];go_wp2_with fail;go_loopw [9] (fun ev wr=>∃e:Nat,ev=.int .i64 (e:Nat)/\k<e/\e<=s.size/\Hid (endF zm0 s e=endF zm0 s k)/\Hid (Tt w wr v ps)) (fun ev _=>s.size-(intOf ev).toNat)
       case atStart=>exact⟨k+1,by go_num,by omega,by omega,znd (by rw[zpX hlt,if_pos hL]),HO⟩
       case round=>
        clear HO;obtain⟨e,rfl,hke,hes,HE,HO⟩:=hrel;by_cases he:e<s.size
        ·by_cases hl2:zm0 s[e]=true
         ·have HE2:=znd (show endF zm0 s (e+1)=endF zm0 s k by rw[<-HE.out,zpX he,if_pos hl2]);go_wp2_with fail;refine(zpe s[e] _).mono ?_;rintro E w3 ⟨rfl,hb⟩;replace HO:=znd (HO.out.after hb);clear hb;rw[hl2];go_wp2_with fail;go_roundw
          case rel=>exact⟨e+1,by go_num,by omega,by omega,HE2,HO⟩
          case measure=>(simp[intOf]<;>omega)
         ·have hl3:zm0 s[e]=false:=by simpa using hl2
          have Hen:=znd (show endF zm0 s k=e by rw[<-HE.out,zpX he,if_neg hl2]);clear hl2 HE;go_wp2_with fail;refine(zpe s[e] _).mono ?_;rintro E w3 ⟨rfl,hb⟩;replace HO:=znd (HO.out.after hb);rw[hl3];clear hb hl3;have HT:=znd (zs2 hlt hL);rw[Hen.out]at HT;have HN:=znd (show TtJ s T e m false _ from by have h:=TtJ.next (r:=za9) HI.out hlt (by rw[HT.out]) (by rw[HT.out]) (by omega) (by omega);rw[HT.out]at h;exact h);obtain⟨v',w',hrun,hO'⟩:=HO.out.app2 2 m (s.extract k e) 0 za9 ⟨zbX _,fun _ _=>zbX _⟩ (by have:=HI.out.ct;omega);have Hrun:=znd hrun;replace HO:=znd hO';clear hrun hO';go_wp2_with (at_builtin;refine zac rfl (.tmp 69) (.tmp 76) 110 _ _ _ rfl rfl rfl Hrun.out ?_);clear Hrun;go_wp2_with fail;go_roundw
          case rel=>exact⟨v',e,m,false,_,rfl,rfl,rfl,by go_num,by omega,by omega,HN,HO⟩
          case measure=>(simp[intOf]<;>omega)
        ·have Hen:=znd (show endF zm0 s k=e by rw[<-HE.out,zrW he]);clear HE;have HT:=znd (zs2 hlt hL);rw[Hen.out]at HT;have HN:=znd (show TtJ s T e m false _ from by have h:=TtJ.next (r:=za9) HI.out hlt (by rw[HT.out]) (by rw[HT.out]) (by omega) (by omega);rw[HT.out]at h;exact h);obtain⟨v',w',hrun,hO'⟩:=HO.out.app2 2 m (s.extract k e) 0 za9 ⟨zbX _,fun _ _=>zbX _⟩ (by have:=HI.out.ct;omega);have Hrun:=znd hrun;replace HO:=znd hO';clear hrun hO';go_wp2_with (at_builtin;refine zac rfl (.tmp 69) (.tmp 76) 110 _ _ _ rfl rfl rfl Hrun.out ?_);clear Hrun;go_wp2_with fail;go_roundw
         case rel=>exact⟨v',e,m,false,_,rfl,rfl,rfl,by go_num,by omega,by omega,HN,HO⟩
         case measure=>(simp[intOf]<;>omega)
      ·have hN0:zm0 s[k]=false:=by simpa using hL
       clear hL;go_wp2_with fail;refine(zpe s[k] _).mono ?_;rintro E w1 ⟨rfl,hb⟩;have HO:=znd (hO.out.after hb);clear hb hO;rw[hN0];by_cases hL:zfd s[k]=true/\s[k].toNat≠47
       ·obtain⟨hL,h47⟩:=hL;have t47:((s[k].toNat:Int) != 47)=true:=by simp;omega
        go_wp2_with fail;refine(zpb s[k] _).mono ?_;rintro E w2 ⟨rfl,hb⟩;replace HO:=znd (HO.out.after hb);clear hb;rw[hL];go_wp2_with fail;go_loopw [9] (fun ev wr=>∃e:Nat,ev=.int .i64 (e:Nat)/\k<e/\e<=s.size/\Hid (endF zfd s e=endF zfd s k)/\Hid (Tt w wr v ps)) (fun ev _=>s.size-(intOf ev).toNat)
        case atStart=>exact⟨k+1,by go_num,by omega,by omega,znd (by rw[zpX hlt,if_pos hL]),HO⟩
        case round=>
         clear HO;obtain⟨e,rfl,hke,hes,HE,HO⟩:=hrel;by_cases he:e<s.size
         ·by_cases hl2:zfd s[e]=true
          ·have HE2:=znd (show endF zfd s (e+1)=endF zfd s k by rw[<-HE.out,zpX he,if_pos hl2]);go_wp2_with fail;refine(zpb s[e] _).mono ?_;rintro E w3 ⟨rfl,hb⟩;replace HO:=znd (HO.out.after hb);clear hb;rw[hl2];go_wp2_with fail;go_roundw
           case rel=>exact⟨e+1,by go_num,by omega,by omega,HE2,HO⟩
           case measure=>(simp[intOf]<;>omega)
          ·have hl3:zfd s[e]=false:=by simpa using hl2
           have Hen:=znd (show endF zfd s k=e by rw[<-HE.out,zpX he,if_neg hl2]);clear hl2 HE;go_wp2_with fail;refine(zpb s[e] _).mono ?_;rintro E w3 ⟨rfl,hb⟩;replace HO:=znd (HO.out.after hb);rw[hl3];clear hb hl3;have HT:=znd (zt0 hlt hN0 (zs3 hL h47));rw[Hen.out]at HT;have HP:=znd (fun w=>zpM w (s.extract k e) (by rw[ByteArray.size_extract];omega));generalize parseR (s.extract k e).data.toList=pq at*;go_wp2_with fail;refine(HP.out _).mono ?_;rintro E w5 ⟨r,rfl,hr,hb⟩;have hbx:=HO.out.box.lt;have hsz:=hb.size;have Hr:=znd (show Rests w5 (fun b=>w.heap.size+1<=b/\some b≠v.ownBlock) (RatN r pq.2)from hr.mono fun b hb'=>⟨by omega,fun e=>by have:=(HO.out.tok.own.lt b e.symm).2;omega⟩);replace HO:=znd (HO.out.after hb);clear hr hb hbx hsz HP;go_upto_region 25 with fail;have HB:=znd (Blk.new w5 55 (cR r));replace HO:=znd (HO.out.after (Below.of_alloc w5 (.cells (cR r) 55)));replace Hr:=znd (Hr.out.alloc (.cells (cR r) 55));generalize w5.alloc (.cells (cR r) 55)=W6 at*;generalize w5.heap.size=g6 at*;obtain⟨c0,c1,c2,c3⟩:=Blk.c4 HB.out;by_cases h11:pq.1=11
           ·have HF:=znd (show T=(20,m,[]) by have h:=HI.out.fault hlt (by rw[HT.out,if_pos h11];show(20:Nat)≠0;decide);rwa [HT.out,if_pos h11]at h);have t11:((pq.1:Int)==11)=true:=by rw[h11];rfl
            clear h11 HT Hr HB c0 c1 c2 c3;obtain⟨f0,f1⟩:=Blk.f2 HO.out.box;obtain⟨x0,x1⟩:=Blk.c2 HO.out.box;go_wp2_with fail;rw[zpv]
            exact bodyPost_ret (v:=.tuple #[.slice none 0 0,.agg #[.int .i64 20,.int .i64 m]]) (by simp[results,Tryz.results69,go_sem,zpt HO.out.box,zpw HO.out.box]) rfl
             ⟨_,[],by rw[HF.out]<;>rfl,by rw[HF.out];rfl,TokO.nil_ _ _,fun _=>rfl,zoV HO.out.below (Nat.le_refl _)⟩
           ·have t11:((pq.1:Int)==11)=false:=by simp;omega
            rw[if_neg h11]at HT;by_cases h0:pq.1=0
            ·have t0':((pq.1:Int) != 0)=false:=by rw[h0];rfl
             rw[h0]at HT;have HN:=znd (show TtJ s T e m false _ from by have h:=TtJ.next (r:=r) HI.out hlt (by rw[HT.out]) (by rw[HT.out]) (by omega) (by omega);rw[HT.out]at h;exact h);clear h0 h11;obtain⟨v',w',hrun,hO'⟩:=HO.out.app2 3 m ⟨#[]⟩ pq.2 r Hr.out (by have:=HI.out.ct;omega);have Hrun:=znd hrun;replace HO:=znd hO';clear hrun hO';go_wp2_with (at_builtin;refine zac rfl (.tmp 111) (.tmp 115) 110 _ _ _ rfl rfl rfl Hrun.out ?_);clear Hrun;go_wp2_with fail;go_roundw
             case rel=>exact⟨v',e,m,false,_,rfl,rfl,rfl,by go_num,by omega,by omega,HN,HO⟩
             case measure=>(simp[intOf]<;>omega)
            ·have t0':((pq.1:Int) != 0)=true:=by simpa using h0
             have HF:=znd (show T=(pq.1,m,[]) by have h:=HI.out.fault hlt (by rw[HT.out];exact h0);rwa [HT.out]at h);clear h11 h0 HT Hr HB c0 c1 c2 c3;obtain⟨f0,f1⟩:=Blk.f2 HO.out.box;obtain⟨x0,x1⟩:=Blk.c2 HO.out.box;go_wp2_with fail;rw[zpv]
             exact bodyPost_ret (v:=.tuple #[.slice none 0 0,.agg #[.int .i64 pq.1,.int .i64 m]]) (by simp[results,Tryz.results69,go_sem,zpt HO.out.box,zpw HO.out.box]) rfl
              ⟨_,[],by rw[HF.out]<;>rfl,by rw[HF.out];rfl,TokO.nil_ _ _,fun _=>rfl,zoV HO.out.below (Nat.le_refl _)⟩
         ·have Hen:=znd (show endF zfd s k=e by rw[<-HE.out,zrW he]);clear HE;have HT:=znd (zt0 hlt hN0 (zs3 hL h47));rw[Hen.out]at HT;have HP:=znd (fun w=>zpM w (s.extract k e) (by rw[ByteArray.size_extract];omega));generalize parseR (s.extract k e).data.toList=pq at*;go_wp2_with fail;refine(HP.out _).mono ?_;rintro E w5 ⟨r,rfl,hr,hb⟩;have hbx:=HO.out.box.lt;have hsz:=hb.size;have Hr:=znd (show Rests w5 (fun b=>w.heap.size+1<=b/\some b≠v.ownBlock) (RatN r pq.2)from hr.mono fun b hb'=>⟨by omega,fun e=>by have:=(HO.out.tok.own.lt b e.symm).2;omega⟩);replace HO:=znd (HO.out.after hb);clear hr hb hbx hsz HP;go_upto_region 25 with fail;have HB:=znd (Blk.new w5 55 (cR r));replace HO:=znd (HO.out.after (Below.of_alloc w5 (.cells (cR r) 55)));replace Hr:=znd (Hr.out.alloc (.cells (cR r) 55));generalize w5.alloc (.cells (cR r) 55)=W6 at*;generalize w5.heap.size=g6 at*;obtain⟨c0,c1,c2,c3⟩:=Blk.c4 HB.out;by_cases h11:pq.1=11
          ·have HF:=znd (show T=(20,m,[]) by have h:=HI.out.fault hlt (by rw[HT.out,if_pos h11];show(20:Nat)≠0;decide);rwa [HT.out,if_pos h11]at h);have t11:((pq.1:Int)==11)=true:=by rw[h11];rfl
           clear h11 HT Hr HB c0 c1 c2 c3;obtain⟨f0,f1⟩:=Blk.f2 HO.out.box;obtain⟨x0,x1⟩:=Blk.c2 HO.out.box;go_wp2_with fail;rw[zpv]
           exact bodyPost_ret (v:=.tuple #[.slice none 0 0,.agg #[.int .i64 20,.int .i64 m]]) (by simp[results,Tryz.results69,go_sem,zpt HO.out.box,zpw HO.out.box]) rfl
            ⟨_,[],by rw[HF.out]<;>rfl,by rw[HF.out];rfl,TokO.nil_ _ _,fun _=>rfl,zoV HO.out.below (Nat.le_refl _)⟩
          ·have t11:((pq.1:Int)==11)=false:=by simp;omega
           rw[if_neg h11]at HT;by_cases h0:pq.1=0
           ·have t0':((pq.1:Int) != 0)=false:=by rw[h0];rfl
            rw[h0]at HT;have HN:=znd (show TtJ s T e m false _ from by have h:=TtJ.next (r:=r) HI.out hlt (by rw[HT.out]) (by rw[HT.out]) (by omega) (by omega);rw[HT.out]at h;exact h);clear h0 h11;obtain⟨v',w',hrun,hO'⟩:=HO.out.app2 3 m ⟨#[]⟩ pq.2 r Hr.out (by have:=HI.out.ct;omega);have Hrun:=znd hrun;replace HO:=znd hO';clear hrun hO';go_wp2_with (at_builtin;refine zac rfl (.tmp 111) (.tmp 115) 110 _ _ _ rfl rfl rfl Hrun.out ?_);clear Hrun;go_wp2_with fail;go_roundw
            case rel=>exact⟨v',e,m,false,_,rfl,rfl,rfl,by go_num,by omega,by omega,HN,HO⟩
            case measure=>(simp[intOf]<;>omega)
           ·have t0':((pq.1:Int) != 0)=true:=by simpa using h0
            have HF:=znd (show T=(pq.1,m,[]) by have h:=HI.out.fault hlt (by rw[HT.out];exact h0);rwa [HT.out]at h);clear h11 h0 HT Hr HB c0 c1 c2 c3;obtain⟨f0,f1⟩:=Blk.f2 HO.out.box;obtain⟨x0,x1⟩:=Blk.c2 HO.out.box;go_wp2_with fail;rw[zpv]
            exact bodyPost_ret (v:=.tuple #[.slice none 0 0,.agg #[.int .i64 pq.1,.int .i64 m]]) (by simp[results,Tryz.results69,go_sem,zpt HO.out.box,zpw HO.out.box]) rfl
             ⟨_,[],by rw[HF.out]<;>rfl,by rw[HF.out];rfl,TokO.nil_ _ _,fun _=>rfl,zoV HO.out.below (Nat.le_refl _)⟩
       ·have hnn:=zvz (b:=s[k]) (by by_cases hp:zfd s[k]=true;exact .inr (Decidable.byContradiction fun h=>hL ⟨hp,h⟩);exact .inl (by simpa using hp));have HNN:=znd hnn;clear hnn;by_cases hp:zfd s[k]=true
        ·have h47:s[k].toNat=47:=Decidable.byContradiction fun h=>hL ⟨hp,h⟩
         have HF:=znd (show T=(20,m,[]) by
          have h:=HI.out.fault hlt (by rw[zq8 hlt hN0 HNN.out (by rw[zpl,h47];decide)];show(20:Nat)≠0;decide)
          rwa [zq8 hlt hN0 HNN.out (by rw[zpl,h47];decide)]at h)
         clear hL HI HNN;replace h47:=znd h47;go_wp2_with fail;refine(zpb s[k] _).mono ?_;rintro E w2 ⟨rfl,hb⟩;replace HO:=znd (HO.out.after hb);clear hb;rw[hp];clear hp;replace h47:=h47.out;obtain⟨f0,f1⟩:=Blk.f2 HO.out.box;obtain⟨x0,x1⟩:=Blk.c2 HO.out.box;go_wp2_with fail;rw[zpv]
         exact bodyPost_ret (v:=.tuple #[.slice none 0 0,.agg #[.int .i64 20,.int .i64 m]]) (by simp[results,Tryz.results69,go_sem,zpt HO.out.box,zpw HO.out.box]) rfl
          ⟨_,[],by rw[HF.out]<;>rfl,by rw[HF.out];rfl,TokO.nil_ _ _,fun _=>rfl,zoV HO.out.below (Nat.le_refl _)⟩
        ·replace hp:zfd s[k]=false:=by simpa using hp
         clear hL;by_cases hs:s[k].toNat=123\/s[k].toNat=125\/s[k].toNat=91\/s[k].toNat=93\/s[k].toNat=58\/s[k].toNat=44
         ·have HT:=znd (zu8 hlt hN0 HNN.out (by rw[zpl];exact decide_eq_true hs));have HN:=znd (show TtJ s T (k+1) m false _ from by have h:=TtJ.next (r:=za9) HI.out hlt (by rw[HT.out]) (by rw[HT.out]) (by omega) (by omega);rw[HT.out]at h;exact h);clear HNN;replace hs:=znd hs;go_wp2_with fail;refine(zpb s[k] _).mono ?_;rintro E w2 ⟨rfl,hb⟩;replace HO:=znd (HO.out.after hb);clear hb;rw[hp];replace hs:=hs.out;rcases hs with hs|hs|hs|hs|hs|hs
          all_goals
           obtain⟨v',w',hrun,hO'⟩:=HO.out.app2 4 m (s.extract k (k+1)) 0 za9 ⟨zbX _,fun _ _=>zbX _⟩ (by have:=HI.out.ct;omega);have Hrun:=znd hrun;replace HO:=znd hO';clear hrun hO';go_wp2_with (at_builtin;refine zac rfl (.tmp 139) (.tmp 146) 110 _ _ _ rfl rfl rfl Hrun.out ?_);clear Hrun;go_wp2_with fail;go_roundw
           case rel=>exact⟨v',k+1,m,false,_,rfl,rfl,rfl,by go_num,by omega,by omega,HN,HO⟩
           case measure=>(simp[intOf]<;>omega)
         ·have HF:=znd (show T=(20,m,[]) by
           have h:=HI.out.fault hlt (by rw[zq8 hlt hN0 HNN.out (by rw[zpl];exact decide_eq_false hs)];show(20:Nat)≠0;decide)
           rwa [zq8 hlt hN0 HNN.out (by rw[zpl];exact decide_eq_false hs)]at h)
          clear HI HNN;have s1:((s[k].toNat:Int)==123)=false:=by simp;omega
          have s2:((s[k].toNat:Int)==125)=false:=by simp;omega
          have s3:((s[k].toNat:Int)==91)=false:=by simp;omega
          have s4:((s[k].toNat:Int)==93)=false:=by simp;omega
          have s5:((s[k].toNat:Int)==58)=false:=by simp;omega
          have s6:((s[k].toNat:Int)==44)=false:=by simp;omega
          clear hs;go_wp2_with fail;refine(zpb s[k] _).mono ?_;rintro E w2 ⟨rfl,hb⟩;replace HO:=znd (HO.out.after hb);clear hb;rw[hp];obtain⟨f0,f1⟩:=Blk.f2 HO.out.box;obtain⟨x0,x1⟩:=Blk.c2 HO.out.box;go_wp2_with fail;rw[zpv]
          exact bodyPost_ret (v:=.tuple #[.slice none 0 0,.agg #[.int .i64 20,.int .i64 m]]) (by simp[results,Tryz.results69,go_sem,zpt HO.out.box,zpw HO.out.box]) rfl
           ⟨_,[],by rw[HF.out]<;>rfl,by rw[HF.out];rfl,TokO.nil_ _ _,fun _=>rfl,zoV HO.out.below (Nat.le_refl _)⟩
    ·have h10':s[k]≠10:=fun e=>h10 (by rw[e];rfl);have HB:=znd (show TtJ s T (k+1) m true ps from hJ.out.blank hlt h10' rfl);clear h10 h10' hJ;go_wp2_with fail;go_roundw
     case rel=>exact⟨v,k+1,m,true,ps,rfl,by first|rfl|go_num,rfl,by go_num,by omega,by omega,HB,hO⟩
     case measure=>(simp[intOf]<;>omega)
  ·have HF:=znd (hJ.out.done hlt);have hct:=hJ.out.ct;clear hJ;obtain⟨v',w',hrun,hO'⟩:=hO.out.app2 1 m ⟨#[]⟩ 0 za9 ⟨zbX _,fun _ _=>zbX _⟩ (by omega);have Hrun:=znd hrun;replace hO:=znd hO';obtain⟨f0,f1⟩:=Blk.f2 hO.out.box;obtain⟨x0,x1⟩:=Blk.c2 hO.out.box;clear hrun hO';go_wp2_with (at_builtin;refine zac rfl (.tmp 151) (.tmp 154) 110 _ _ _ rfl rfl rfl Hrun.out ?_);rw[zpv]
   exact bodyPost_ret (v:=.tuple #[v',.agg #[.int .i64 0,.int .i64 0]]) (by simp[results,Tryz.results69,go_sem,zpt hO.out.box,zpw hO.out.box]) rfl
    ⟨v',_,by rw[HF.out];rfl,by rw[HF.out];simp,((hO.out.tok.set_ (a:=⟨w.heap.size,0,none⟩) (Nat.lt_succ_self _) _).set_ (a:=⟨w.heap.size,1,none⟩) (Nat.lt_succ_self _) _).mono (Nat.le_succ _),fun h=>absurd (by rw[HF.out]) h,zoV hO.out.below (Nat.le_refl _)⟩
set_option maxRecDepth 100000 in
theorem zra (s:ByteArray) (w:World) (h:262144<s.size):
 Calls Tryz.prog 69 #[.string s] w (zrG (3,0,[]) w):=by
 have H0:=znd (Tt.start w);have t:(262144:Int)<(s.size:Int):=by omega
 obtain⟨f0,f1⟩:=Blk.f2 H0.out.box;obtain⟨x0,x1⟩:=Blk.c2 H0.out.box;clear h;go_enter Tryz.func69,Tryz.ntmps69;have HN:=Blk.new w 73 #[.int .i64 3,.int .i64 0];go_wp2_with fail
 exact bodyPost_ret (v:=.tuple #[.slice none 0 0,.agg #[.int .i64 3,.int .i64 0]]) (by simp[results,Tryz.results69,go_sem,HN.cell 0,HN.cell 1]) rfl
  ⟨_,[],rfl,rfl,TokO.nil_ _ _,fun _=>rfl,Below.of_alloc _ _⟩
theorem zx3 (s:ByteArray) (w:World):Calls Tryz.prog 69 #[.string s] w (zrG (zdR parseR s.data.toList) w):=by
 unfold zdR;have e:s.data.toList.length=s.size:=by simp
 rw[e]
 split
 ·exact zra s w (by assumption)
 ·exact zqR s w (by omega)
end Go.Proofs.YtegfiemlnnpidaaGreatDoor
