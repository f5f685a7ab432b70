/-
 tripwireref01: cmp, sub, twice, over digits of 8 bits. tripwireref01: Cmp, Sub, Bits. tripwireref01: DivMod. tripwireref01: Shr by one. tripwireref01: Shl. tripwireref01: Gcd.
-/
import Derived.Test.YtegfiemlnnpidaaGreatDoorRefE
import Derived.Test.YtegfiemlnnpidaaGreatDoorLimF
import Derived.Test.YtegfiemlnnpidaaGreatDoorVal
import Derived.Test.YtegfiemlnnpidaaGreatDoorGcdM
import Derived.Deep.DeepCutAuto
namespace Go.Proofs.YtegfiemlnnpidaaGreatDoor
set_option maxHeartbeats 8000000
open Go.RowKit

set_option maxRecDepth 100000 in
theorem zqe (w:World) (A B:Option Addr) (c d:Nat) (l m:List Nat) (hl:l.length<=16777216) (_hm:m.length<=16777216) (ha:Rd w .i64 A l) (hb:Rd w .i64 B m)
 (hx:∀x∈l,x<256) (hy:∀x∈m,x<256) (tl:Tidy l) (tm:Tidy m):
 Calls Tryz.prog 222 #[.slice A l.length c,.slice B m.length d] w fun e w'=>e=.returned (.int .i64 (cmpN (val 256 l) (val 256 m)))/\∃n,w'=w.drewN n:=by
 have hsa:=ha.sl;have hsb:=hb.sl;have h1:=zoR;by_cases hne:l.length=m.length
 ·have hq:((l.length:Int) != (m.length:Int))=false:=by simp[hne]
  have Ha:=znd ha;have Hb:=znd hb;have Hx:=znd hx;have Hy:=znd hy;have Hvl:=znd (zaD 256 l);have Hvm:=znd (zaD 256 m);rw[<-hne]at Hvm;have Hn:=znd hne;clear ha hb hx hy tl tm;generalize hn:l.length=n at*;generalize hn':m.length=n' at*;have Hnl:=znd hn;have Hnm:=znd hn';clear hn hn' hne;go_enter Tryz.func222,Tryz.ntmps222;go_wp2_with fail;go_loopw [5] (fun i wr=>∃k:Nat,k<=n/\i=.int .i64 ((k:Int)-1)/\Hid (∀j,k<=j->j<n->nth l j=nth m j)/\∃q,wr=w.drewN q) (fun i _=>(intOf i+1).toNat)
  case atStart=>exact⟨n,Nat.le_refl _,rfl,(show∀j,n<=j->j<n->nth l j=nth m j from fun j h1 h2=>by omega),0,rfl⟩
  case round=>
   obtain⟨k,hk,rfl,hs,q,rfl⟩:=hrel;rcases k with _|k
   ·have Hr:=znd (show cmpN (val 256 l) (val 256 m)=0 by rw[<-Hvl.out,<-Hvm.out,zbq 256 l m n (fun j hj=>hs.out j (by omega) hj),zcS]);go_wp2_with fail;go_ret;exact⟨zc6 Hr.out.symm,_,rfl⟩
   ·have hca:=Ha.out.cell k (by rw[Hnl.out];omega);have hcb:=Hb.out.cell k (by rw[Hnm.out,<-Hn.out];omega);have e1:((k+1:Nat):Int)-1=(k:Int):=by omega
    have i2:(k:Int)<n:=by omega
    have i3:(k:Int)<n':=by rw[<-Hn.out];omega
    rw[e1];rcases Nat.lt_trichotomy (nth l k) (nth m k)with hxy|hxy|hxy
    ·have Hr:Hid (cmpN (val 256 l) (val 256 m)=-1):=znd (by
      rw[<-zcJ hxy,<-Hvl.out,<-Hvm.out];exact(zmm (by decide) Hx.out Hy.out n k (by omega) (fun j h1 h2=>hs.out j (by omega) h2) (by omega)).symm)
     have t1:(nth l k:Int)<(nth m k:Int):=by omega
     clear hxy hs;generalize nth l k=x at*;generalize nth m k=y at*;go_wp2_with fail;go_quiet (fail);go_wp2_with fail;go_ret;exact⟨zc6 Hr.out.symm,zdX ⟨_,rfl⟩ ⟨_,rfl⟩⟩
    ·have hs':Hid (∀j,k<=j->j<n->nth l j=nth m j):=(show∀j,k<=j->j<n->nth l j=nth m j from fun j h1 h2=>by
      by_cases e:j=k
      ·rw[e];exact hxy
      ·exact hs.out j (by omega) h2)
     rw[<-hxy]at hcb;clear hxy hs;generalize nth l k=x at*;go_wp2_with fail;go_quiet (fail);go_wp2_with fail;go_quiet (fail);go_wp2_with fail;go_roundw
     case rel=>exact⟨k,by omega,rfl,hs',_,rfl⟩
     case measure=>simp[intOf]
    ·have Hr:Hid (cmpN (val 256 l) (val 256 m)=1):=znd (by
      rw[<-zcN hxy,<-Hvl.out,<-Hvm.out];exact(zmm (by decide) Hx.out Hy.out n k (by omega) (fun j h1 h2=>hs.out j (by omega) h2) (by omega)).symm)
     have t1:¬(nth l k:Int)<(nth m k:Int):=by omega
     have t2:(nth m k:Int)<(nth l k:Int):=by omega
     clear hxy hs;generalize nth l k=x at*;generalize nth m k=y at*;go_wp2_with fail;go_quiet (fail);go_wp2_with fail;go_quiet (fail);go_wp2_with fail;go_ret;exact⟨zc6 Hr.out.symm,zdX (zdX ⟨_,rfl⟩ ⟨_,rfl⟩) ⟨_,rfl⟩⟩
 ·have hq:((l.length:Int) != (m.length:Int))=true:=by simp;omega
  rcases Nat.lt_or_gt_of_ne hne with h|h
  ·have Hr:=znd (zcJ (zaP (b:=256) (by decide) hx tm h));have t1:(l.length:Int)<(m.length:Int):=by omega
   clear ha hb hx hy tl tm hne h;go_enter Tryz.func222,Tryz.ntmps222;go_wp2_with fail;go_ret;exact⟨zc6 Hr.out.symm,0,rfl⟩
  ·have Hr:=znd (zcN (zaP (b:=256) (by decide) hy tl h));have t1:¬(l.length:Int)<(m.length:Int):=by omega
   clear ha hb hx hy tl tm hne h;go_enter Tryz.func222,Tryz.ntmps222;go_wp2_with fail;go_ret;exact⟨zc6 Hr.out.symm,0,rfl⟩

structure RsInv (w wr:World) (pv:Value) (xs ys o:List Nat) (i br:Nat):Prop where
 own:Own wr w.heap.size 3 .i64 pv o
 below:Below w.heap.size w wr
 len:o.length=i
 lt:∀x∈o,x<256
 br1:br<=1
 eq:valT 256 o i+valT 256 ys i=valT 256 xs i+256^i*br
def difD (a b br:Nat):Nat:=if a<b+br then a+256-b-br else a-b-br
def difB (a b br:Nat):Nat:=if a<b+br then 1 else 0
theorem RsInv.next {w wr w':World} {pv v':Value} {xs ys o:List Nat} {i br:Nat} (h:RsInv w wr pv xs ys o i br) (hx:∀x∈xs,x<256) (hy:∀x∈ys,x<256)
 (ho:Own w' w.heap.size 3 .i64 v' (o++[difD (nth xs i) (nth ys i) br])) (hb:Below w.heap.size w w'):
 RsInv w w' v' xs ys (o++[difD (nth xs i) (nth ys i) br]) (i+1) (difB (nth xs i) (nth ys i) br):=by
 have b1:=zak (b:=256) (by decide) hx i;have b2:=zak (b:=256) (by decide) hy i;have hc:=h.br1;have hd:difD (nth xs i) (nth ys i) br<256:=by unfold difD;split<;>omega
 have he:difD (nth xs i) (nth ys i) br+nth ys i+br=nth xs i+256*difB (nth xs i) (nth ys i) br:=by unfold difD difB;split<;>omega
 refine⟨ho,hb,by simp[h.len],?_,by unfold difB;split<;>omega,?_⟩
 ·intro x hx;rcases List.mem_append.1 hx with hx|hx
  ·exact h.lt x hx
  ·simp at hx;omega
 ·have e:=h.eq;have s1:=zqc 256 o (difD (nth xs i) (nth ys i) br);rw[h.len]at s1;rw[s1,valT,valT,Nat.pow_succ];generalize difD (nth xs i) (nth ys i) br=q at*;generalize difB (nth xs i) (nth ys i) br=r at*;generalize nth xs i=a at*;generalize nth ys i=b at*;generalize 256^i=p at*;clear h hx hy ho hb hd b1 b2 hc;have e2:p*q+p*b+p*br=p*a+p*256*r:=by
   have:=congrArg (p*·) he;simp only[Nat.mul_add]at this;rw[Nat.mul_assoc];omega
  omega
theorem RsInv.done {w wr:World} {pv:Value} {xs ys o:List Nat} {br:Nat} (h:RsInv w wr pv xs ys o xs.length br) (hle:val 256 ys<=val 256 xs) (hl:ys.length<=xs.length):val 256 o=val 256 xs-val 256 ys:=by
 have e:=h.eq;have h1:=zaD 256 xs;have h2:valT 256 ys xs.length=val 256 ys:=zbl 256 ys _ (Nat.le_trans (zay _) hl);have h3:valT 256 o xs.length=val 256 o:=by rw[<-h.len];exact zaD 256 o
 have h4:=zdo h.lt;rw[h.len]at h4;rw[h1,h2,h3]at e;have h5:=h.br1;have h6:br=0:=by
  refine Decidable.byContradiction fun hne=>?_;have:br=1:=by omega
  rw[this,Nat.mul_one]at e;omega
 rw[h6,Nat.mul_zero]at e;omega

set_option maxRecDepth 100000 in
theorem zrd (w:World) (A B:Option Addr) (c d:Nat) (xs ys:List Nat) (hlx2:xs.length<=16777216) (hly:ys.length<=xs.length) (ha:Rd w .i64 A xs) (hb:Rd w .i64 B ys)
 (hx:∀x∈xs,x<256) (hy:∀x∈ys,x<256) (hle:val 256 ys<=val 256 xs):
 Calls Tryz.prog 223 #[.slice A xs.length c,.slice B ys.length d] w (RetL .i64 (digs 256 (val 256 xs-val 256 ys)) w):=by
 have hsa:=ha.sl;have hsb:=hb.sl;have h1:=zoR;have Ha:=znd ha;have Hb:=znd hb;have Hx:=znd hx;have Hy:=znd hy;have Hle:=znd hle;clear ha hb hx hy hle;go_enter Tryz.func223,Tryz.ntmps223;go_wp2_with fail;go_loopw [5,6,7] (fun pv bv iv wr=>∃(i br:Nat) (o:List Nat),i<=xs.length/\iv=.int .i64 i/\bv=.int .i64 br/\RsInv w wr pv xs ys o i br) (fun _ _ iv _=>xs.length-(intOf iv).toNat)
 case atStart=>exact⟨0,0,[],Nat.zero_le _,rfl,rfl,Own.nil_ _ _ _ _,Below.refl _ _,rfl,by simp,by omega,rfl⟩
 case round=>
  obtain⟨i,br,o,hi,rfl,rfl,hI⟩:=hrel;by_cases hlt:i<xs.length
  ·have hc1:=hI.br1;have hcx:=(Ha.out.below hI.below (Nat.le_refl _)).cell i hlt;have hbx:=zak (b:=256) (by decide) Hx.out i;have hby:=zak (b:=256) (by decide) Hy.out i;obtain⟨v',w',hrun,ho',hb',-,-⟩:=hI.own.app (P:=Tryz.prog) (t:=58) Tryz.underlying58 zoX rfl (difD (nth xs i) (nth ys i) br) (by rw[hI.len];omega) (by rw[hI.len];simp only[maxLen];omega) hI.below.size;have Hrun:=znd hrun;have HN:=znd (hI.next Hx.out Hy.out ho' (hI.below.trans hb'));clear hrun ho' hb';by_cases h1y:i<ys.length
   ·have hcy:=(Hb.out.below hI.below (Nat.le_refl _)).cell i h1y;have ty:(i:Int)<(ys.length:Int):=by omega
    clear hI;by_cases hn:nth xs i<nth ys i+br
    ·have r1:(nth xs i:Int)-(br:Int)-(nth ys i:Int)<0:=by omega
     have r2:(nth xs i:Int)-(br:Int)-(nth ys i:Int)+256=((difD (nth xs i) (nth ys i) br:Nat):Int):=by unfold difD;rw[if_pos hn];omega
     have r3:difB (nth xs i) (nth ys i) br=1:=by unfold difB;rw[if_pos hn]
     rw[r3]at HN;clear hn r3;generalize difD (nth xs i) (nth ys i) br=dd at*;generalize nth xs i=xx at*;generalize nth ys i=yy at*;go_wp2_with (at_builtin;refine zac rfl (.tmp 35) (.tmp 37) 58 _ _ _ rfl rfl rfl Hrun.out ?_);go_roundw
     case rel=>exact⟨i+1,1,_,by omega,by go_num,rfl,HN.out⟩
     case measure=>simp[intOf];omega
    ·have r1:¬(nth xs i:Int)-(br:Int)-(nth ys i:Int)<0:=by omega
     have r2:(nth xs i:Int)-(br:Int)-(nth ys i:Int)=((difD (nth xs i) (nth ys i) br:Nat):Int):=by unfold difD;rw[if_neg hn];omega
     have r3:difB (nth xs i) (nth ys i) br=0:=by unfold difB;rw[if_neg hn]
     rw[r3]at HN;clear hn r3;generalize difD (nth xs i) (nth ys i) br=dd at*;generalize nth xs i=xx at*;generalize nth ys i=yy at*;go_wp2_with (at_builtin;refine zac rfl (.tmp 35) (.tmp 37) 58 _ _ _ rfl rfl rfl Hrun.out ?_);go_roundw
     case rel=>exact⟨i+1,0,_,by omega,by go_num,rfl,HN.out⟩
     case measure=>simp[intOf];omega
   ·have ty:¬(i:Int)<(ys.length:Int):=by omega
    have hy0:nth ys i=0:=by simp[nth,List.getD,show ys.length<=i by omega]
    rw[hy0]at HN Hrun;clear hI;by_cases hn:nth xs i<0+br
    ·have r1:(nth xs i:Int)-(br:Int)<0:=by omega
     have r2:(nth xs i:Int)-(br:Int)+256=((difD (nth xs i) 0 br:Nat):Int):=by unfold difD;rw[if_pos hn];omega
     have r3:difB (nth xs i) 0 br=1:=by unfold difB;rw[if_pos hn]
     rw[r3]at HN;clear hn r3;generalize difD (nth xs i) 0 br=dd at*;generalize nth xs i=xx at*;go_wp2_with (at_builtin;refine zac rfl (.tmp 35) (.tmp 37) 58 _ _ _ rfl rfl rfl Hrun.out ?_);go_roundw
     case rel=>exact⟨i+1,1,_,by omega,by go_num,rfl,HN.out⟩
     case measure=>simp[intOf];omega
    ·have r1:¬(nth xs i:Int)-(br:Int)<0:=by omega
     have r2:(nth xs i:Int)-(br:Int)=((difD (nth xs i) 0 br:Nat):Int):=by unfold difD;rw[if_neg hn];omega
     have r3:difB (nth xs i) 0 br=0:=by unfold difB;rw[if_neg hn]
     rw[r3]at HN;clear hn r3;generalize difD (nth xs i) 0 br=dd at*;generalize nth xs i=xx at*;go_wp2_with (at_builtin;refine zac rfl (.tmp 35) (.tmp 37) 58 _ _ _ rfl rfl rfl Hrun.out ?_);go_roundw
     case rel=>exact⟨i+1,0,_,by omega,by go_num,rfl,HN.out⟩
     case measure=>simp[intOf];omega
  ·obtain rfl:i=xs.length:=by omega
   have hv:=hI.done Hle.out hly;obtain⟨A3,c3,rfl,hc3,-,hr3,hf3⟩:=hI.own.form;have ht:=zb5 (b:=256) (by decide) hI.lt;rw[hv]at ht;have Htr:=znd (zpL wr A3 c3 o (by rw[hI.len];omega) hc3 hr3);rw[ht]at Htr;have Hr:Hid (Rd wr .i64 A3 (digs 256 (val 256 xs-val 256 ys))):=znd (by rw[<-ht];exact hr3.take _);have hlt2:(digs 256 (val 256 xs-val 256 ys)).length<=o.length:=by rw[<-ht,za5];exact zay _
   have Hfr:Hid (Fr w.heap.size A3 (digs 256 (val 256 xs-val 256 ys))):=znd (fun j hj=>hf3 j (by omega));have Hbl:=znd hI.below;have Hc:=znd (show(digs 256 (val 256 xs-val 256 ys)).length<=c3 by omega);clear hI hr3 hf3 hc3 ht hv hlt2;generalize digs 256 (val 256 xs-val 256 ys)=R at*;go_wp2_with fail;refine Htr.out.mono ?_;rintro e w4 ⟨rfl,rfl⟩;go_wp2_with fail;go_ret;exact⟨A3,c3,rfl,Hc.out,Hr.out,Hbl.out,Hfr.out⟩

structure RtInv (w wr:World) (pv:Value) (xs o:List Nat) (i bt b0:Nat):Prop where
 own:Own wr w.heap.size 3 .i64 pv o
 below:Below w.heap.size w wr
 len:o.length=i
 lt:∀x∈o,x<256
 bt1:bt<=1
 eq:valT 256 o i+256^i*bt=2*valT 256 xs i+b0
theorem RtInv.next {w wr w':World} {pv v':Value} {xs o:List Nat} {i bt b0:Nat} (h:RtInv w wr pv xs o i bt b0) (hx:∀x∈xs,x<256)
 (ho:Own w' w.heap.size 3 .i64 v' (o++[(2*nth xs i+bt)%256])) (hb:Below w.heap.size w w'):
 RtInv w w' v' xs (o++[(2*nth xs i+bt)%256]) (i+1) ((2*nth xs i+bt)/256) b0:=by
 have b1:=zak (b:=256) (by decide) hx i;have hc:=h.bt1;refine⟨ho,hb,by simp[h.len],?_,by omega,?_⟩
 ·intro x hx;rcases List.mem_append.1 hx with hx|hx
  ·exact h.lt x hx
  ·simp at hx;omega
 ·have e:=h.eq;have s1:=zqc 256 o ((2*nth xs i+bt)%256);rw[h.len]at s1;rw[s1,valT,Nat.pow_succ];have d:=Nat.div_add_mod (2*nth xs i+bt) 256;generalize (2*nth xs i+bt)/256=q at*;generalize (2*nth xs i+bt)%256=r at*;generalize nth xs i=a at*;generalize 256^i=p at*;clear h hx ho hb;grind

set_option maxRecDepth 100000 in
theorem zpU (w:World) (A:Option Addr) (c b0:Nat) (xs:List Nat) (hl:xs.length<=16777216) (ha:Rd w .i64 A xs) (hx:∀x∈xs,x<256) (hb0:b0<=1):
 Calls Tryz.prog 221 #[.slice A xs.length c,.int .i64 b0] w (RetL .i64 (digs 256 (2*val 256 xs+b0)) w):=by
 have hsa:=ha.sl;have h1:=zoR;have Ha:=znd ha;have Hx:=znd hx;clear ha hx;go_enter Tryz.func221,Tryz.ntmps221;go_wp2_with fail;go_loopw [1,5,6] (fun bv pv iv wr=>∃(i bt:Nat) (o:List Nat),i<=xs.length/\iv=.int .i64 i/\bv=.int .i64 bt/\RtInv w wr pv xs o i bt b0) (fun _ _ iv _=>xs.length-(intOf iv).toNat)
 case atStart=>exact⟨0,b0,[],Nat.zero_le _,rfl,rfl,Own.nil_ _ _ _ _,Below.refl _ _,rfl,by simp,hb0,by simp[valT]⟩
 case round=>
  obtain⟨i,bt,o,hi,rfl,rfl,hI⟩:=hrel;have hc1:=hI.bt1;by_cases hlt:i<xs.length
  ·have hcx:=(Ha.out.below hI.below (Nat.le_refl _)).cell i hlt;have hbx:=zak (b:=256) (by decide) Hx.out i;obtain⟨v',w',hrun,ho',hb',-,-⟩:=hI.own.app (P:=Tryz.prog) (t:=58) Tryz.underlying58 zoX rfl ((2*nth xs i+bt)%256) (by rw[hI.len];omega) (by rw[hI.len];simp only[maxLen];omega) hI.below.size;have Hrun:=znd hrun;have HN:=znd (hI.next Hx.out ho' (hI.below.trans hb'));have r1:(2*(nth xs i:Int)+(bt:Int))%256=(((2*nth xs i+bt)%256:Nat):Int):=by omega
   have r2:(2*(nth xs i:Int)+(bt:Int))/256=(((2*nth xs i+bt)/256:Nat):Int):=by omega
   clear hrun ho' hb' hI;generalize (2*nth xs i+bt)%256=rr at*;generalize (2*nth xs i+bt)/256=qq at*;generalize nth xs i=xx at*;go_wp2_with (at_builtin;refine zac rfl (.tmp 21) (.tmp 24) 58 _ _ _ rfl rfl rfl Hrun.out ?_);go_roundw
   case rel=>exact⟨i+1,qq,_,by omega,by go_num,by first|rfl|rw[r2],HN.out⟩
   case measure=>simp[intOf];omega
  ·obtain rfl:i=xs.length:=by omega
   obtain⟨v',w',hrun,ho',hb',-,-⟩:=hI.own.app (P:=Tryz.prog) (t:=58) Tryz.underlying58 zoX rfl bt (by rw[hI.len];omega) (by rw[hI.len];simp only[maxLen];omega) hI.below.size;have hlt3:∀x∈o++[bt],x<256:=by
    intro x hx;rcases List.mem_append.1 hx with hx|hx
    ·exact hI.lt x hx
    ·simp at hx;omega
   have hv:val 256 (o++[bt])=2*val 256 xs+b0:=by
    have e:=hI.eq;rw[zaD]at e;rw[zbA,hI.len,<-e];have:valT 256 o xs.length=val 256 o:=by rw[<-hI.len];exact zaD 256 o
    rw[this];simp[val]
   obtain⟨A3,c3,rfl,hc3,-,hr3,hf3⟩:=ho'.form;have ht:=zb5 (b:=256) (by decide) hlt3;rw[hv]at ht;have hol:(o++[bt]).length=xs.length+1:=by simp[hI.len]
   have Htr:=znd (zpL w' A3 c3 (o++[bt]) (by omega) hc3 hr3);rw[ht]at Htr;have Hr:Hid (Rd w' .i64 A3 (digs 256 (2*val 256 xs+b0))):=znd (by rw[<-ht];exact hr3.take _);have hlt2:(digs 256 (2*val 256 xs+b0)).length<=(o++[bt]).length:=by rw[<-ht,za5];exact zay _
   have Hfr:Hid (Fr w.heap.size A3 (digs 256 (2*val 256 xs+b0))):=znd (fun j hj=>hf3 j (by omega));have Hbl:=znd (hI.below.trans hb');have Hc:=znd (show(digs 256 (2*val 256 xs+b0)).length<=c3 by omega);have Hrun:=znd hrun;clear hI hr3 hf3 hc3 ht hv hlt2 hlt3 ho' hb' hrun hol;generalize (o++[bt]).length=nn at*;generalize digs 256 (2*val 256 xs+b0)=R at*;go_wp2_with (at_builtin;refine zac rfl (.tmp 28) (.tmp 30) 58 _ _ _ rfl rfl rfl Hrun.out ?_);refine Htr.out.mono ?_;rintro e w4 ⟨rfl,rfl⟩;go_wp2_with fail;go_ret;exact⟨A3,c3,rfl,Hc.out,Hr.out,Hbl.out,Hfr.out⟩

set_option maxRecDepth 100000 in
theorem zq0 (w:World) (A B:Option Addr) (c d:Nat) (l m:List Nat) (hl:l.length<=1000000) (hm:m.length<=1000000) (ha:Rd w .u64 A l) (hb:Rd w .u64 B m)
 (hx:∀x∈l,x<B64) (hy:∀x∈m,x<B64):
 Calls Tryz.prog 218 #[.slice A l.length c,.slice B m.length d] w fun e w'=>e=.returned (.int .i64 (cmpN (val B64 l) (val B64 m)))/\Below w.heap.size w w':=by
 have hlx:=zoz hx;have hly:=zoz hy;have Hs1:=znd (zox w A c l (by omega) ha hx);have Hb:=znd hb;have Hy:=znd hy;clear ha hx hb hy;go_enter Tryz.func218,Tryz.ntmps218;go_wp2_with fail;refine Hs1.out.mono ?_;rintro e w1 ⟨A1,c1,rfl,-,hr1,hb1,-⟩;have Hb1:=znd hb1;have Hr1:=znd hr1;have Hs2:=znd (zox w1 B d m (by omega) (Hb.out.below hb1 (Nat.le_refl _)) Hy.out);clear hb1 hr1 Hs1;go_wp2_with fail;refine Hs2.out.mono ?_;rintro e w2 ⟨A2,c2,rfl,-,hr2,hb2,-⟩;have hc:=zqe w2 A1 A2 c1 c2 (digs 256 (val B64 l)) (digs 256 (val B64 m)) (by omega) (by omega) (Hr1.out.below hb2 (Nat.le_refl _)) hr2 (zbi (by decide) _) (zbi (by decide) _) (digs_tidy (by decide) _) (digs_tidy (by decide) _);rw[zar (by decide),zar (by decide)]at hc;have Hc:=znd hc;have Hb2:=znd (Hb1.out.trans (hb2.mono Hb1.out.size));clear hr2 hb2 hc Hs2 hlx hly Hr1 Hb1;generalize digs 256 (val B64 l)=xs at*;generalize digs 256 (val B64 m)=ys at*;go_wp2_with fail;refine Hc.out.mono ?_;rintro e w3 ⟨rfl,q,rfl⟩;go_wp2_with fail;go_ret;exact⟨rfl,Below.drewN Hb2.out q⟩

set_option maxRecDepth 100000 in
theorem zpV (w:World) (A B:Option Addr) (c d:Nat) (l m:List Nat) (hl:l.length<=1000000) (hm:m.length<=1000000) (ha:Rd w .u64 A l) (hb:Rd w .u64 B m)
 (hx:∀x∈l,x<B64) (hy:∀x∈m,x<B64):
 Calls Tryz.prog 219 #[.slice A l.length c,.slice B m.length d] w (RetL .u64 (digs B64 (val B64 l-val B64 m)) w):=by
 have hlx:=zoz hx;have hly:=zoz hy;have Hs1:=znd (zox w A c l (by omega) ha hx);have Hb:=znd hb;have Hy:=znd hy;clear ha hx hb hy;go_enter Tryz.func219,Tryz.ntmps219;go_wp2_with fail;refine Hs1.out.mono ?_;rintro e w1 ⟨A1,c1,rfl,-,hr1,hb1,-⟩;have Hb1:=znd hb1;have Hr1:=znd hr1;have Hs2:=znd (zox w1 B d m (by omega) (Hb.out.below hb1 (Nat.le_refl _)) Hy.out);clear hb1 hr1 Hs1;go_wp2_with fail;refine Hs2.out.mono ?_;rintro e w2 ⟨A2,c2,rfl,-,hr2,hb2,-⟩;have hrx:=Hr1.out.below hb2 (Nat.le_refl _);have hc:=zqe w2 A1 A2 c1 c2 (digs 256 (val B64 l)) (digs 256 (val B64 m)) (by omega) (by omega) hrx hr2 (zbi (by decide) _) (zbi (by decide) _) (digs_tidy (by decide) _) (digs_tidy (by decide) _);rw[zar (by decide),zar (by decide)]at hc;have Hc:=znd hc;have Hb2:=znd (Hb1.out.trans (hb2.mono Hb1.out.size));have Hrx:=znd hrx;have Hry:=znd hr2;have hlx2:(digs 256 (val B64 l)).length<=8000000:=by omega
 clear hr2 hb2 hc Hs2 hlx hly Hr1 Hb1 hrx;by_cases hlt:val B64 l<val B64 m
 ·have Hz:=znd (show digs B64 (val B64 l-val B64 m)=[] by rw[show val B64 l-val B64 m=0 from by omega];rfl);rw[zcJ hlt]at Hc;clear hlt hlx2 Hrx Hry;generalize digs 256 (val B64 l)=xs at*;generalize digs 256 (val B64 m)=ys at*;go_wp2_with fail;refine Hc.out.mono ?_;rintro e w3 ⟨rfl,q,rfl⟩;go_wp2_with fail;go_ret;rw[Hz.out];exact⟨none,0,rfl,Nat.le_refl _,Rd.nil_ _ _,Below.drewN Hb2.out q,Fr.none_ _ _⟩
 ·have hle:val B64 m<=val B64 l:=by omega
  have hll:(digs 256 (val B64 m)).length<=(digs 256 (val B64 l)).length:=by
   refine zfw (by decide) (Nat.lt_of_le_of_lt hle ?_);have:=zdo (zbi (b:=256) (by decide) (val B64 l))
   rwa [zar (by decide)]at this
  have tz:¬cmpN (val B64 l) (val B64 m)<0:=by unfold cmpN;split;omega;split<;>decide
  have Hsb:=znd (fun q=>zrd (w2.drewN q) A1 A2 c1 c2 (digs 256 (val B64 l)) (digs 256 (val B64 m)) (by omega) hll (Hrx.out.drewN q) (Hry.out.drewN q) (zbi (by decide) _) (zbi (by decide) _) (by rw[zar (by decide),zar (by decide)];exact hle));rw[zar (by decide),zar (by decide)]at Hsb;have hdl:(digs 256 (val B64 l-val B64 m)).length<=16777216:=by
   refine Nat.le_trans (zfw (by decide) (Nat.lt_of_le_of_lt (Nat.sub_le _ _) ?_)) (Nat.le_trans hlx2 (by decide));have:=zdo (zbi (b:=256) (by decide) (val B64 l))
   rwa [zar (by decide)]at this
  have Hlg:=znd (fun(W:World) (A':Option Addr) (c':Nat) (hc':(digs 256 (val B64 l-val B64 m)).length<=c') (hr:Rd W .i64 A' (digs 256 (val B64 l-val B64 m)))=>zoG W A' c' (digs 256 (val B64 l-val B64 m)) hdl hc' hr (zbi (by decide) _));rw[zar (by decide)]at Hlg;clear hlt hle hll hlx2 Hrx Hry hdl;generalize digs 256 (val B64 l-val B64 m)=rs at*;generalize digs 256 (val B64 l)=xs at*;generalize digs 256 (val B64 m)=ys at*;generalize cmpN (val B64 l) (val B64 m)=z at*;go_wp2_with fail;refine Hc.out.mono ?_;rintro e w3 ⟨rfl,q,rfl⟩;go_wp2_with fail;refine(Hsb.out q).mono ?_;rintro e w4 ⟨A4,c4,rfl,hc4,hr4,hb4,-⟩;have hb5:=(Below.drewN Hb2.out q).trans (hb4.mono (Below.drewN Hb2.out q).size);have Hb5:=znd hb5;have Hl2:=znd (Hlg.out w4 A4 c4 hc4 hr4);clear hc4 hr4 hb4 hb5 Hsb Hlg;go_wp2_with fail;refine Hl2.out.mono ?_;rintro e w5 ⟨A5,c5,rfl,hc5,hr5,hb5,hf5⟩;have HC:=znd hc5;have HR:=znd hr5;have HB:=znd hb5;have HF:=znd hf5;clear hc5 hr5 hb5 hf5;go_wp2_with fail;go_ret;exact⟨A5,c5,rfl,HC.out,HR.out,Hb5.out.trans (HB.out.mono Hb5.out.size),fun j hj=>Nat.le_trans Hb5.out.size (HF.out j hj)⟩

set_option maxRecDepth 100000 in
theorem zrE (w:World) (A:Option Addr) (c:Nat) (l:List Nat) (hl:l.length<=1000000) (ha:Rd w .u64 A l) (hx:∀x∈l,x<B64):
 Calls Tryz.prog 182 #[.slice A l.length c] w fun e w'=>∃n:Nat,e=.returned (.int .i64 n)/\(n=0↔val B64 l=0)/\Below w.heap.size w w':=by
 have hlx:=zoz hx;have h1:=zoR;have Hs1:=znd (zox w A c l (by omega) ha hx);clear ha hx;go_enter Tryz.func182,Tryz.ntmps182;go_wp2_with fail;refine Hs1.out.mono ?_;rintro e w1 ⟨A1,c1,rfl,-,hr1,hb1,-⟩;have Hb1:=znd hb1;have Hr1:=znd hr1;have hsl:=hr1.sl;clear hb1 hr1 Hs1;by_cases h0:val B64 l=0
 ·have hd:digs 256 (val B64 l)=[]:=by rw[h0];rfl
  have H0:=znd h0;rw[hd]at hsl⊢;clear h0 hd Hr1;go_wp2_with fail;go_ret;exact⟨0,rfl,⟨fun _=>H0.out,fun _=>rfl⟩,Hb1.out⟩
 ·have hne:digs 256 (val B64 l)≠[]:=fun e=>h0 ((zaT (by decide)).1 e);have hpos:=List.length_pos_iff.2 hne;have htd:=digs_tidy (b:=256) (by decide) (val B64 l);have hlt:=zbi (b:=256) (by decide) (val B64 l);have hcell:=Hr1.out.cell ((digs 256 (val B64 l)).length-1) (by omega);have hx1:=zak (b:=256) (by decide) hlt ((digs 256 (val B64 l)).length-1);have hx0:0<nth (digs 256 (val B64 l)) ((digs 256 (val B64 l)).length-1):=by
   rcases htd with h|⟨x,hx,hx0⟩
   ·exact absurd h hne
   ·have e:nth (digs 256 (val B64 l)) ((digs 256 (val B64 l)).length-1)=x:=by
     rw[List.getLast?_eq_getElem?]at hx;simp[nth,List.getD,hx]
    rw[e];omega
  have H0:=znd h0;clear h0 hne htd hlt;generalize nth (digs 256 (val B64 l)) ((digs 256 (val B64 l)).length-1)=x at*;generalize hL:(digs 256 (val B64 l)).length=L at*;obtain⟨L,rfl⟩:∃k,L=k+1:=⟨L-1,by omega⟩;have i1:((L+1:Nat):Int)-1=(L:Int):=by omega
  have i2:L+1-1=L:=by omega
  rw[i2]at hcell;clear hL hpos Hr1 i2;go_wp2_with fail;go_loopw [4,5] (fun nv dv wr=>∃n d:Nat,nv=.int .i64 n/\dv=.int .i64 d/\n+d<=8*L+256/\(0<d\/0<n)/\wr=w1) (fun _ dv _=>(intOf dv).toNat)
  case atStart=>exact⟨8*L,x,by first|rfl|(congr 1;omega),rfl,by omega,.inl hx0,rfl⟩
  case round=>
   obtain⟨n,d,rfl,rfl,hnd,hor,rfl⟩:=hrel;by_cases hd:0<d
   ·have t1:(0:Int)<(d:Int):=by omega
    have t2:(d:Int)/2=((d/2:Nat):Int):=by omega
    have hn2:n+1+d/2<=8*L+256:=by omega
    have hm:d/2<d:=by omega
    generalize d/2=d2 at*;clear hor;go_wp2_with fail;go_roundw
    case rel=>exact⟨n+1,d2,by go_num,by first|rfl|rw[t2],hn2,.inr (Nat.succ_pos _),by first|rfl|trivial⟩
    case measure=>simp[intOf];omega
   ·have t1:¬(0:Int)<(d:Int):=by omega
    have hn0:0<n:=by omega
    clear hor;go_wp2_with fail;go_ret;exact⟨n,rfl,⟨fun e=>by omega,fun e=>absurd e H0.out⟩,Hb1.out⟩

def bitOf (x p:Nat):Nat:=x/2^p%2
structure DvI (X Y p R:Nat) (q:List Nat) (n:Nat):Prop where
 len:q.length=n
 lt:∀x∈q,x<256
 quo:val 256 q=X/2^p/Y*2^p
 rem:R=X/2^p%Y
theorem DvI.start {X Y n:Nat} (h:X<256^n):DvI X Y (8*n) 0 (List.replicate n 0) n:=by
 have e:X/2^(8*n)=0:=by
  refine Nat.div_eq_of_lt ?_
  rwa [Nat.pow_mul]
 refine⟨by simp,fun x hx=>by rw[List.eq_of_mem_replicate hx];decide,?_,by rw[e];simp⟩;rw[e,Nat.zero_div,Nat.zero_mul]
 induction n with
 |zero=>rfl
 |succ n ih=>rw[List.replicate_succ,val,show val 256 (List.replicate n 0)=0 from ?_]
             clear ih h e
             induction n with
             |zero=>rfl
             |succ n ih=>rw[List.replicate_succ,val,ih]
theorem zuj (X p:Nat):X/2^p=2*(X/2^(p+1))+bitOf X p:=by
 unfold bitOf;rw[Nat.pow_succ,<-Nat.div_div_eq_div_mul];omega
theorem zre {xs:List Nat} (hx:∀x∈xs,x<256) (i:Nat) (hi:i<=xs.length):val 256 xs/256^i=val 256 (xs.drop i):=by
 have h1:val 256 xs=val 256 (xs.take i)+256^i*val 256 (xs.drop i):=by
  conv=>lhs;rw[<-List.take_append_drop i xs,zbA]
  rw[List.length_take,Nat.min_eq_left hi]
 have h2:=zdo (b:=256) (xs:=xs.take i) (fun x hx'=>hx x (List.mem_of_mem_take hx'));rw[List.length_take,Nat.min_eq_left hi]at h2;rw[h1,Nat.add_mul_div_left _ _ (Nat.pow_pos (by decide)),Nat.div_eq_of_lt h2,Nat.zero_add]
theorem zpT {xs:List Nat} (hx:∀x∈xs,x<256) (i:Nat) (hi:i<xs.length):∃m,val 256 xs/256^i=nth xs i+256*m:=by
 rw[zre hx i (Nat.le_of_lt hi),List.drop_eq_getElem_cons hi];exact⟨val 256 (xs.drop (i+1)),by simp[val,nth,List.getD,hi]⟩
theorem lt8 {b:Nat} (h:b<8):b=0\/b=1\/b=2\/b=3\/b=4\/b=5\/b=6\/b=7:=by omega
theorem zsL {xs:List Nat} (hx:∀x∈xs,x<256) (i b:Nat) (hi:i<xs.length) (hb:b<8):bitOf (val 256 xs) (8*i+b)=nth xs i/2^b%2:=by
 obtain⟨m,hm⟩:=zpT hx i hi;unfold bitOf;rw[Nat.pow_add,Nat.pow_mul,<-Nat.div_div_eq_div_mul,hm];generalize nth xs i=x;rcases lt8 hb with rfl|rfl|rfl|rfl|rfl|rfl|rfl|rfl<;>simp<;>omega
theorem zrP {X Y p R:Nat} (hY:0<Y) (hR:R=X/2^(p+1)%Y):
 (2*R+bitOf X p<Y->X/2^p/Y=2*(X/2^(p+1)/Y)/\X/2^p%Y=2*R+bitOf X p)/\
 (¬2*R+bitOf X p<Y->X/2^p/Y=2*(X/2^(p+1)/Y)+1/\X/2^p%Y=2*R+bitOf X p-Y):=by
 have h1:=zuj X p;have hb:bitOf X p<2:=Nat.mod_lt _ (by decide);generalize X/2^(p+1)=T at*;generalize bitOf X p=b at*;have h2:=Nat.div_add_mod T Y;have h3:=Nat.mod_lt T hY;rw[h1];rw[<-hR]at h2 h3;generalize T/Y=k at*;have e:2*T+b=(2*R+b)+Y*(2*k):=by rw[<-h2,Nat.mul_add,Nat.mul_left_comm];omega
 rw[e];refine⟨fun h=>⟨?_,?_⟩,fun h=>⟨?_,?_⟩⟩
 ·rw[Nat.add_mul_div_left _ _ hY,Nat.div_eq_of_lt h,Nat.zero_add]
 ·rw[Nat.add_mul_mod_self_left,Nat.mod_eq_of_lt h]
 ·rw[Nat.add_mul_div_left _ _ hY];have:(2*R+b)/Y=1:=by
   rw[show 2*R+b=(2*R+b-Y)+Y*1 from by omega,Nat.add_mul_div_left _ _ hY,Nat.div_eq_of_lt (by omega)]
  omega
 ·rw[Nat.add_mul_mod_self_left,Nat.mod_eq_sub_mod (by omega),Nat.mod_eq_of_lt (by omega)]
theorem DvI.no {X Y R i b n:Nat} {q:List Nat} (h:DvI X Y (8*i+b+1) R q n) (hY:0<Y) (hlt:2*R+bitOf X (8*i+b)<Y):DvI X Y (8*i+b) (2*R+bitOf X (8*i+b)) q n:=by
 obtain⟨e1,e2⟩:=(zrP hY h.rem).1 hlt;refine⟨h.len,h.lt,?_,e2.symm⟩;rw[h.quo,e1,Nat.pow_succ];generalize 2^(8*i+b)=t;generalize X/(t*2)/Y=k;rw[Nat.mul_comm t 2,<-Nat.mul_assoc,Nat.mul_comm k 2]
theorem DvI.room {X Y R i b n:Nat} {q:List Nat} (h:DvI X Y (8*i+b+1) R q n) (hi:i<n) (hb:b<8):nth q i+2^b<256:=by
 have hi':i<q.length:=by rw[h.len];exact hi
 obtain⟨m,hm⟩:=zpT h.lt i hi';have hq:=h.quo;have hx:=zak (b:=256) (by decide) h.lt i;rw[show 8*i+b+1=(b+1)+8*i from by omega,Nat.pow_add,Nat.pow_mul 2 8 i,<-Nat.mul_assoc]at hq;rw[hq,show(2:Nat)^8=256 from rfl,Nat.mul_div_cancel _ (Nat.pow_pos (by decide))]at hm;generalize X/(2^(b+1)*256^i)/Y=k at*;have hx':nth q i<256:=hx;generalize nth q i=x at*;clear hq hx h;rcases lt8 hb with rfl|rfl|rfl|rfl|rfl|rfl|rfl|rfl<;>simp at hm⊢<;>omega
theorem DvI.yes {X Y R i b n:Nat} {q:List Nat} (h:DvI X Y (8*i+b+1) R q n) (hY:0<Y) (hi:i<n) (hb:b<8) (hlt:¬2*R+bitOf X (8*i+b)<Y):
 DvI X Y (8*i+b) (2*R+bitOf X (8*i+b)-Y) (q.set i (nth q i+2^b)) n:=by
 obtain⟨e1,e2⟩:=(zrP hY h.rem).2 hlt;have hr:=h.room hi hb;have hi':i<q.length:=by rw[h.len];exact hi
 refine⟨by simp[h.len],fun x hx=>?_,?_,e2.symm⟩
 ·rcases List.mem_or_eq_of_mem_set hx with hx|rfl
  ·exact h.lt x hx
  ·exact hr
 ·have hv:=zsS (b:=256) (l:=q) (p:=i) (x:=nth q i+2^b) hi';rw[h.quo,Nat.mul_add]at hv;have e3:256^i*2^b=2^(8*i+b):=by rw[Nat.pow_add,Nat.pow_mul]
  rw[e3]at hv;rw[e1,Nat.add_mul,Nat.one_mul,Nat.pow_succ];rw[Nat.pow_succ]at hv;generalize 2^(8*i+b)=t at*;generalize X/(t*2)/Y=k at*;have e4:k*(t*2)=2*k*t:=by rw[Nat.mul_comm t 2,<-Nat.mul_assoc,Nat.mul_comm k 2]
  rw[e4]at hv;omega
theorem DvI.done {X Y R n:Nat} {q:List Nat} (h:DvI X Y 0 R q n):val 256 q=X/Y/\R=X%Y:=by
 have h1:=h.quo;have h2:=h.rem;simp at h1 h2;exact⟨h1,h2⟩

theorem zw2 {x y:Int} (h:¬x=y):(x==y)=false:=by simpa using h
theorem zuS (x b:Nat) (hx:x<256):bits .and .i64 ((x:Int)/2^b) 1=((x/2^b%2:Nat):Int):=by
 have h:∀v:Fin 256,bits .and .i64 (v.val:Int) 1=((v.val%2:Nat):Int):=by decide+kernel
 have e:(x:Int)/2^b=((x/2^b:Nat):Int):=by simp
 rw[e];exact h ⟨x/2^b,Nat.lt_of_le_of_lt (Nat.div_le_self _ _) hx⟩
theorem DvI.remlt {X Y p R n:Nat} {q:List Nat} (h:DvI X Y p R q n) (hY:0<Y):R<Y:=by rw[h.rem];exact Nat.mod_lt _ hY
theorem zuo (x b:Nat) (hb:b<8) (h:x+2^b<256):wrap64 ((x:Int)+wrap64 (2^b))=((x+2^b:Nat):Int):=by
 rcases lt8 hb with rfl|rfl|rfl|rfl|rfl|rfl|rfl|rfl<;>simp[wrap64]at h⊢<;>omega
theorem zvJ {W:World} {A:Option Addr} {l:List Nat} {k:IntKind} (h:Rd W k A l) {a:Addr} (hf:Fr (a.block+1) A l) (v:Value):Rd (W.setCell a v) k A l:=
 ⟨h.sl,fun i hi=>by
  rw[World.cell?_setCell_other _ _ _ _ (fun e=>by have:=hf i hi;rw[<-e]at this;omega)];exact h.cell i hi⟩
def zvU (p q:List Nat) (w:World) (e:Ending) (w':World):Prop:=
 ∃A c A' c',e=.returned (.tuple #[.slice A p.length c,.slice A' q.length c'])/\p.length<=c/\q.length<=c'/\Rd w' .u64 A p/\Rd w' .u64 A' q/\Below w.heap.size w w'/\Fr w.heap.size A p/\Fr w.heap.size A' q
structure DvW (w wr:World) (X Y p R g n:Nat) (q:List Nat) (A:Option Addr):Prop where
 inv:DvI X Y p R q n
 blk:Blk wr g 3 (ints .i64 q)
 rd:Rd wr .i64 A (digs 256 R)
 below:Below g w wr
set_option maxRecDepth 100000 in
theorem zsw (w:World) (A B:Option Addr) (c d:Nat) (l m:List Nat) (hl:l.length<=1000000) (hm:m.length<=1000000) (ha:Rd w .u64 A l) (hb:Rd w .u64 B m)
 (hx:∀x∈l,x<B64) (hy:∀x∈m,x<B64) (hY:val B64 m≠0):
 Calls Tryz.prog 184 #[.slice A l.length c,.slice B m.length d] w (zvU (digs B64 (val B64 l/val B64 m)) (digs B64 (val B64 l%val B64 m)) w):=by
 have hlx:=zoz hx;have hly:=zoz hy;have h1:=zoR;have Hs1:=znd (zox w A c l (by omega) ha hx);have Hb:=znd hb;have Hy:=znd hy;clear ha hx hb hy;go_enter Tryz.func184,Tryz.ntmps184;go_wp2_with fail;refine Hs1.out.mono ?_;rintro e w1 ⟨A1,c1,rfl,-,hr1,hb1,-⟩;have Hb1:=znd hb1;have Hr1:=znd hr1;have Hs2:=znd (zox w1 B d m (by omega) (Hb.out.below hb1 (Nat.le_refl _)) Hy.out);clear hb1 hr1 Hs1;go_wp2_with fail;refine Hs2.out.mono ?_;rintro e w2 ⟨A2,c2,rfl,-,hr2,hb2,-⟩;have Hrx:=znd (Hr1.out.below hb2 (Nat.le_refl _));have Hry:=znd hr2;have Hb2:=znd (Hb1.out.trans (hb2.mono Hb1.out.size));have hyne:0<(digs 256 (val B64 m)).length:=List.length_pos_iff.2 (fun e=>hY ((zaT (by decide)).1 e));have ty:(((digs 256 (val B64 m)).length:Int)==0)=false:=zw2 (by omega);clear hr2 hb2 Hs2 Hr1 Hb1;have Hvx:=znd (zar (b:=256) (by decide) (val B64 l));have Hvy:=znd (zar (b:=256) (by decide) (val B64 m));have Hxl:=znd (zbi (b:=256) (by decide) (val B64 l));have Hyl:=znd (zbi (b:=256) (by decide) (val B64 m));have Hyt:=znd (digs_tidy (b:=256) (by decide) (val B64 m));have Hst:=znd (DvI.start (Y:=val B64 m) (n:=(digs 256 (val B64 l)).length) (by have:=zdo Hxl.out;rwa [Hvx.out]at this:val B64 l<256^(digs 256 (val B64 l)).length));have hYp:0<val B64 m:=Nat.pos_of_ne_zero hY;have hlx2:(digs 256 (val B64 l)).length<=8000000:=by omega
 have hly2:(digs 256 (val B64 m)).length<=8000000:=by omega
 have Hrn:=znd (fun(R:Nat) (h:R<val B64 m)=>(by
  have h2:=zdo (zbi (b:=256) (by decide) (val B64 m));rw[Hvy.out]at h2;exact zfw (by decide) (Nat.lt_trans h h2):(digs 256 R).length<=(digs 256 (val B64 m)).length))
 clear hlx hly hyne;generalize digs 256 (val B64 l)=xs at*;generalize digs 256 (val B64 m)=ys at*;have hsx:=Hrx.out.sl;have hmk:=fun W=>run_make_row' (P:=Tryz.prog) 58 3 (.int .i64 0) 8 Tryz.underlying58 zoX rfl .i64 .i64 xs.length (by omega) (by omega) W
 have HO0:=znd (show DvW w2 (w2.alloc (.cells (madeCells #[.int .i64 0] xs.length) 3)) (val B64 l) (val B64 m) (8*xs.length) 0 w2.heap.size xs.length (List.replicate xs.length 0) none from
  ⟨Hst.out,by rw[<-zbE];exact Blk.new _ _ _,Rd.nil_ _ _,Below.of_alloc _ _⟩)
 go_wp2_with fail;go_loopw [9,10] (fun rv iv wr=>∃(k R c':Nat) (A':Option Addr) (q:List Nat),k<=xs.length/\iv=.int .i64 ((k:Int)-1)/\rv=.slice A' (digs 256 R).length c'/\(digs 256 R).length<=c'/\Hid (DvW w2 wr (val B64 l) (val B64 m) (8*k) R w2.heap.size xs.length q A')) (fun _ iv _=>(intOf iv+1).toNat)
 case atStart=>exact⟨xs.length,0,0,none,_,Nat.le_refl _,rfl,rfl,Nat.le_refl _,HO0⟩
 case round=>
  clear HO0 Hst hmk;obtain⟨k,R,c',A',q,hk,rfl,rfl,hc',HO⟩:=hrel;obtain⟨wo,rfl⟩:∃wo:World,wo=wr:=⟨_,rfl⟩;rcases k with _|i
  ·obtain⟨hq,hR⟩:=HO.out.inv.done;have Hlq:=znd (zoG wo (some ⟨w2.heap.size,0,none⟩) xs.length q (by rw[HO.out.inv.len];omega) (by rw[HO.out.inv.len];exact Nat.le_refl _) (Rd.of_blk HO.out.blk) HO.out.inv.lt);rw[hq,HO.out.inv.len]at Hlq;have hRl:=Hrn.out R (HO.out.inv.remlt hYp);have Hlr:=znd (fun W (hW:Below wo.heap.size wo W)=>zoG W A' c' (digs 256 R) (by omega) hc' (HO.out.rd.below hW (Nat.le_refl _)) (zbi (by decide) _));rw[zar (by decide),hR]at Hlr;have Hbl:=znd (Hb2.out.trans (HO.out.below.mono Hb2.out.size));rw[<-hR]at Hlr;have HRe:=znd hR;clear hq hR hRl HO;go_wp2_with fail;refine Hlq.out.mono ?_;rintro e w4 ⟨A4,c4,rfl,hc4,hr4,hb4,hf4⟩;have Hl2:=znd (Hlr.out w4 hb4);have HC4:=znd hc4;have HR4:=znd hr4;have HB4:=znd hb4;have HF4:=znd hf4;clear hc4 hr4 hb4 hf4 Hlq Hlr;go_wp2_with fail;refine Hl2.out.mono ?_;rintro e w5 ⟨A5,c5,rfl,hc5,hr5,hb5,hf5⟩;have HC5:=znd hc5;have HR5:=znd hr5;have HB5:=znd hb5;have HF5:=znd hf5;clear hc5 hr5 hb5 hf5;go_wp2_with fail;go_ret2;rw[<-HRe.out];have hb6:=Hbl.out.trans (HB4.out.mono Hbl.out.size);exact⟨A4,c4,A5,c5,rfl,HC4.out,HC5.out,HR4.out.below HB5.out (Nat.le_refl _),HR5.out,hb6.trans (HB5.out.mono hb6.size),fun j hj=>Nat.le_trans Hbl.out.size (HF4.out j hj),fun j hj=>Nat.le_trans hb6.size (HF5.out j hj)⟩
  ·have e1:((i+1:Nat):Int)-1=(i:Int):=by omega
   rw[e1];go_wp2_with fail;go_loopw [9,11] (fun rv bv wr=>∃(b R c':Nat) (A':Option Addr) (q:List Nat),b<=8/\bv=.int .i64 ((b:Int)-1)/\rv=.slice A' (digs 256 R).length c'/\(digs 256 R).length<=c'/\Hid (DvW w2 wr (val B64 l) (val B64 m) (8*i+b) R w2.heap.size xs.length q A')) (fun _ bv _=>(intOf bv+1).toNat)
   case atStart=>exact⟨8,R,c',A',q,Nat.le_refl _,rfl,rfl,hc',HO⟩
   case round=>
    clear HO hc';obtain⟨b,R,c',A',q,hb8,rfl,rfl,hc',HO⟩:=hrel;rcases b with _|b
    ·go_wp2_with fail;go_roundw
     case rel=>exact⟨i,R,c',A',q,by omega,rfl,rfl,hc',HO⟩
     case measure=>simp[intOf]
    ·have e2:((b+1:Nat):Int)-1=(b:Int):=by omega
     rw[e2];have hcx:=(Hrx.out.below HO.out.below (Nat.le_refl _)).cell i (by omega);have hix:i<xs.length:=by omega
     have hn256:=zak (b:=256) (by decide) Hxl.out i;have hbd:=zsL Hxl.out i b hix (by omega);rw[Hvx.out]at hbd;have hbit:=zuS (nth xs i) b hn256;rw[<-hbd]at hbit;have hB1:bitOf (val B64 l) (8*i+b)<=1:=by rw[hbd];omega
     have hRY:=HO.out.inv.remlt hYp;have hRl:=Hrn.out R hRY;have HN:=znd (HO.out.inv.no (b:=b) hYp);have HY:=znd (HO.out.inv.yes (b:=b) hYp hix (by omega));have hroom:=HO.out.inv.room (b:=b) hix (by omega);have HT:=znd (zpU wr A' c' (bitOf (val B64 l) (8*i+b)) (digs 256 R) (by omega) HO.out.rd (zbi (by decide) _) hB1);rw[zar (by decide)]at HT;have hR2:(digs 256 (2*R+bitOf (val B64 l) (8*i+b))).length<=ys.length+1:=by
      refine zfw (by decide) ?_;have h2:=zdo (b:=256) (xs:=ys) Hyl.out;rw[Hvy.out]at h2;rw[Nat.pow_succ];omega
     clear hn256 hbd hB1;generalize bitOf (val B64 l) (8*i+b)=B0 at*;go_wp2_with fail;clear hbit;refine HT.out.mono ?_;rintro e w3 ⟨A3,c3,rfl,hc3,hr3,hb3,-⟩;clear HT;have HO3:=znd (show DvI (val B64 l) (val B64 m) (8*i+(b+1)) R q xs.length/\Blk w3 w2.heap.size 3 (ints .i64 q)/\Below w2.heap.size w2 w3 from⟨HO.out.inv,HO.out.blk.below hb3 HO.out.blk.lt,HO.out.below.trans (hb3.mono HO.out.below.size)⟩);have hry3:=Hry.out.below HO3.out.2.2 (Nat.le_refl _);have hcm:=zqe w3 A3 A2 c3 c2 (digs 256 (2*R+B0)) ys (by omega) (by omega) hr3 hry3 (zbi (by decide) _) Hyl.out (digs_tidy (by decide) _) Hyt.out;rw[zar (by decide),Hvy.out]at hcm;have HC:=znd hcm;have HR3:=znd hr3;have HRy3:=znd hry3;clear hr3 hb3 hry3 hcm HO;by_cases hlt:2*R+B0<val B64 m
     ·have HD:=znd (HN.out hlt);rw[zcJ hlt]at HC;clear HN HY hlt hRY hRl hroom;generalize 2*R+B0=R2 at*;go_wp2_with fail;refine HC.out.mono ?_;rintro e w4 ⟨rfl,z,rfl⟩;go_wp2_with fail;go_roundw
      case rel=>exact⟨b,R2,c3,A3,q,by omega,rfl,rfl,hc3,znd ⟨HD.out,HO3.out.2.1.drewN z,HR3.out.drewN z,Below.drewN HO3.out.2.2 z⟩⟩
      case measure=>simp[intOf]
     ·have HD:=znd (HY.out hlt);have tz:¬cmpN (2*R+B0) (val B64 m)<0:=by unfold cmpN;split;omega;split<;>decide
      have hyl:ys.length<=(digs 256 (2*R+B0)).length:=by
       have h3:=zdo (zbi (b:=256) (by decide) (2*R+B0));rw[zar (by decide)]at h3;have h4:=zfp (b:=256) (by decide) Hyl.out Hyt.out;rw[h4,Hvy.out];exact zfw (by decide) (by omega)
      have HS:=znd (fun z=>zrd (w3.drewN z) A3 A2 c3 c2 (digs 256 (2*R+B0)) ys (by omega) hyl (HR3.out.drewN z) (HRy3.out.drewN z) (zbi (by decide) _) Hyl.out (by rw[zar (by decide),Hvy.out];omega));rw[zar (by decide),Hvy.out]at HS;clear HN HY hlt hRY hRl hyl hR2;generalize cmpN (2*R+B0) (val B64 m)=cz at*;generalize hrr:2*R+B0-val B64 m=R3 at*;clear hrr;generalize 2*R+B0=R2 at*;go_wp2_with fail;refine HC.out.mono ?_;rintro e w4 ⟨rfl,z,rfl⟩;go_wp2_with fail;refine(HS.out z).mono ?_;rintro e w5 ⟨A5,c5,rfl,hc5,hr5,hb5,hf5⟩;have HB5:=znd (HO3.out.2.1.below (Below.after (Below.drewN (Below.refl _ _) z) hb5) HO3.out.2.1.lt);have hql:i<q.length:=by rw[HO3.out.1.len];exact hix
      have hqc:=HB5.out.cell i;rw[zaC .i64 q i hql]at hqc;have hqf:=HB5.out.frozen i;clear HC HS HR3 HRy3;have hw:=zuo (nth q i) b (by omega) hroom;have HB6:=HB5.out.set_ i (.int .i64 ((nth q i+2^b:Nat):Int));rw[zbj]at HB6;have hz3:w2.heap.size<w3.heap.size:=HO3.out.2.1.lt;have HR6:=znd (zvJ (a:=⟨w2.heap.size,i,none⟩) hr5 (fun j hj=>Nat.le_trans hz3 (hf5 j hj)) (.int .i64 ((nth q i+2^b:Nat):Int)));have hb6:Below w2.heap.size w2 w5:=HO3.out.2.2.trans ((Below.after (Below.drewN (Below.refl _ _) z) hb5).mono (Nat.le_of_lt hz3));have HD6:=znd (hb6.setCell (p:=⟨w2.heap.size,i,none⟩) (Nat.le_refl _) (.int .i64 ((nth q i+2^b:Nat):Int)));replace HB6:=znd HB6;clear hr5 hb5 hf5 hb6 hz3;go_wp2_with fail;go_roundw
      case rel=>
       rw[show((nth q i:Nat):Int)+2^b=((nth q i+2^b:Nat):Int)from by simp];exact⟨b,R3,c5,A5,_,by omega,rfl,rfl,hc5,znd ⟨HD.out,HB6.out,HR6.out,HD6.out⟩⟩
      case measure=>simp[intOf]

def shD (a b:Nat):Nat:=(a+256*b)/2%256
structure ShI (w wr:World) (pv:Value) (X:Nat) (xs o:List Nat) (i:Nat):Prop where
 own:Own wr w.heap.size 3 .i64 pv o
 below:Below w.heap.size w wr
 len:o.length=i
 lt:∀x∈o,x<256
 eq:val 256 o=X/2%256^i
theorem zrK {xs:List Nat} {i:Nat} (h:xs.length<=i):nth xs i=0:=by simp[nth,List.getD,h]
theorem zv8 {xs:List Nat} (hx:∀x∈xs,x<256) (i:Nat) (hi:i<xs.length):∃m,val 256 xs/256^i=nth xs i+256*nth xs (i+1)+65536*m:=by
 obtain⟨m,hm⟩:=zpT hx i hi;by_cases h:i+1<xs.length
 ·obtain⟨m',hm'⟩:=zpT hx (i+1) h;refine⟨m',?_⟩;have e:val 256 xs/256^(i+1)=m:=by
   rw[Nat.pow_succ,<-Nat.div_div_eq_div_mul,hm];have:=zak (b:=256) (by decide) hx i;have h0:nth xs i<256:=this;omega
  rw[hm,<-e,hm'];omega
 ·refine⟨0,?_⟩;have e:val 256 (xs.drop i)=nth xs i:=by
   rw[List.drop_eq_getElem_cons hi,List.drop_eq_nil_of_le (by omega)];simp[val,nth,List.getD,hi]
  rw[zre hx i (Nat.le_of_lt hi),e,zrK (xs:=xs) (i:=i+1) (by omega)];omega
theorem ShI.next {w wr w':World} {pv v':Value} {X:Nat} {xs o:List Nat} {i:Nat} (h:ShI w wr pv X xs o i) (hX:val 256 xs=X) (hx:∀x∈xs,x<256) (hi:i<xs.length)
 (ho:Own w' w.heap.size 3 .i64 v' (o++[shD (nth xs i) (nth xs (i+1))])) (hb:Below w.heap.size w w'):ShI w w' v' X xs (o++[shD (nth xs i) (nth xs (i+1))]) (i+1):=by
 refine⟨ho,hb,by simp[h.len],?_,?_⟩
 ·intro x hx;rcases List.mem_append.1 hx with hx|hx
  ·exact h.lt x hx
  ·simp at hx;rw[hx];exact Nat.mod_lt _ (by decide)
 ·obtain⟨m,hm⟩:=zv8 hx i hi;rw[hX]at hm;have e:X/2/256^i%256=shD (nth xs i) (nth xs (i+1)):=by
   rw[Nat.div_div_eq_div_mul,Nat.mul_comm 2,<-Nat.div_div_eq_div_mul,hm];unfold shD;omega
  rw[zbA,h.len,h.eq,Nat.pow_succ,Nat.mod_mul,e];simp[val]

set_option maxRecDepth 100000 in
theorem zpf (w:World) (A:Option Addr) (c:Nat) (l:List Nat) (hl:l.length<=1000000) (ha:Rd w .u64 A l) (hx:∀x∈l,x<B64):
 Calls Tryz.prog 217 #[.slice A l.length c,.int .i64 1] w (RetL .u64 (digs B64 (val B64 l/2)) w):=by
 have hlx:=zoz hx;have h1:=zoR;have Hs1:=znd (zox w A c l (by omega) ha hx);clear ha hx;go_enter Tryz.func217,Tryz.ntmps217;go_wp2_with fail;refine Hs1.out.mono ?_;rintro e w1 ⟨A1,c1,rfl,hc1,hr1,hb1,-⟩;have Hb1:=znd hb1;have Hr1:=znd hr1;have hsl:=hr1.sl;clear hb1 hr1 Hs1;by_cases h0:val B64 l=0
 ·have hd:digs 256 (val B64 l)=[]:=by rw[h0];rfl
  have H0:=znd (show digs B64 (val B64 l/2)=[] by rw[h0];rfl);rw[hd]at hsl⊢;clear h0 hd Hr1 hc1;go_wp2_with fail;go_ret;rw[H0.out];exact⟨none,0,rfl,Nat.le_refl _,Rd.nil_ _ _,Hb1.out,Fr.none_ _ _⟩
 ·have hne:digs 256 (val B64 l)≠[]:=fun e=>h0 ((zaT (by decide)).1 e);have hpos:=List.length_pos_iff.2 hne;have Hlt:=znd (zbi (b:=256) (by decide) (val B64 l));have Hv:=znd (zar (b:=256) (by decide) (val B64 l));have hx2:(digs 256 (val B64 l)).length<=8000000:=by omega
  clear h0 hne hlx;generalize digs 256 (val B64 l)=xs at*;have t1:¬(8*(xs.length:Int)<=1):=by omega
  obtain⟨b1,o1,rfl⟩:=hsl hpos;have hsl2:Sl (some ⟨b1,o1,none⟩) xs.length:=hsl;go_upto_region 9 with fail;go_loopw [6,7] (fun pv iv wr=>∃(i:Nat) (o:List Nat),i<=xs.length/\iv=.int .i64 i/\Hid (ShI w1 wr pv (val B64 l) xs o i)) (fun _ iv _=>xs.length-(intOf iv).toNat)
  case atStart=>exact⟨0,[],Nat.zero_le _,rfl,znd ⟨Own.nil_ _ _ _ _,Below.refl _ _,rfl,by simp,by simp[val,Nat.mod_one]⟩⟩
  case round=>
   obtain⟨i,o,hi,rfl,hI⟩:=hrel;by_cases hlt:i<xs.length
   ·have hca:=(Hr1.out.below hI.out.below (Nat.le_refl _)).cell i hlt;have hbx:=zak (b:=256) (by decide) Hlt.out i;obtain⟨v',w',hrun,ho',hb',-,-⟩:=hI.out.own.app (P:=Tryz.prog) (t:=58) Tryz.underlying58 zoX rfl (shD (nth xs i) (nth xs (i+1))) (by rw[hI.out.len];omega) (by rw[hI.out.len];simp only[maxLen];omega) hI.out.below.size;have Hrun:=znd hrun;have HN:=znd (hI.out.next Hv.out Hlt.out hlt ho' (hI.out.below.trans hb'));by_cases hl2:i+1<xs.length
    ·have hcb:=(Hr1.out.below hI.out.below (Nat.le_refl _)).cell (i+1) hl2;have hby:=zak (b:=256) (by decide) Hlt.out (i+1);have r1:((nth xs i:Int)+256*(nth xs (i+1):Int))/2%256=((shD (nth xs i) (nth xs (i+1)):Nat):Int):=by unfold shD;omega
     have t2:(i:Int)+1<(xs.length:Int):=by omega
     clear hrun ho' hb' hI;generalize shD (nth xs i) (nth xs (i+1))=dd at*;generalize nth xs (i+1)=yy at*;generalize nth xs i=xx at*;go_wp2_with (at_builtin;refine zac rfl (.tmp 47) (.tmp 54) 58 _ _ _ rfl rfl rfl Hrun.out ?_);go_roundw
     case rel=>exact⟨i+1,_,by omega,by go_num,HN⟩
     case measure=>simp[intOf];omega
    ·have hy0:=zrK (xs:=xs) (i:=i+1) (by omega);rw[hy0]at Hrun HN;have r1:(nth xs i:Int)/2%256=((shD (nth xs i) 0:Nat):Int):=by unfold shD;omega
     have t2:¬(i:Int)+1<(xs.length:Int):=by omega
     clear hrun ho' hb' hI hy0;generalize shD (nth xs i) 0=dd at*;generalize nth xs i=xx at*;go_wp2_with (at_builtin;refine zac rfl (.tmp 47) (.tmp 54) 58 _ _ _ rfl rfl rfl Hrun.out ?_);go_roundw
     case rel=>exact⟨i+1,_,by omega,by go_num,HN⟩
     case measure=>simp[intOf];omega
   ·obtain rfl:i=xs.length:=by omega
    have hv:val 256 o=val B64 l/2:=by
     have h3:=hI.out.eq;have h4:=zdo Hlt.out;rw[Hv.out]at h4;rw[h3,Nat.mod_eq_of_lt (Nat.lt_of_le_of_lt (Nat.div_le_self _ _) h4)]
    obtain⟨A3,c3,rfl,hc3,-,hr3,hf3⟩:=hI.out.own.form;have hol:=hI.out.len;have Hlg:=znd (zoG wr A3 c3 o (by rw[hol];omega) hc3 hr3 hI.out.lt);rw[hv]at Hlg;have Hbl:=znd (Hb1.out.trans (hI.out.below.mono Hb1.out.size));clear hI hr3 hf3 hc3 hv hol;generalize o.length=ol at*;go_wp2_with fail;refine Hlg.out.mono ?_;rintro e w4 ⟨A4,c4,rfl,hc4,hr4,hb4,hf4⟩;have HC:=znd hc4;have HR:=znd hr4;have HB:=znd hb4;have HF:=znd hf4;clear hc4 hr4 hb4 hf4;go_wp2_with fail;go_ret;exact⟨A4,c4,rfl,HC.out,HR.out,Hbl.out.trans (HB.out.mono Hbl.out.size),fun j hj=>Nat.le_trans Hbl.out.size (HF.out j hj)⟩

theorem Own.apps {P:Program} {W:World} {B:Nat} {t e:TypeId} {k:IntKind} {bytes:Nat} {pv z:Value} {l ds:List Nat} (ht:P.underlying t=some (.slice e)) (hinfo:(P.info? e).map (fun i=>(i.zero,i.size,i.bytes))=some (some z,1,bytes)) (hz:z.cells.size=1)
 (hown:Own W B e k pv l) {b o c:Nat} (hd:Rd W k (some ⟨b,o,none⟩) ds) (hlen:(l.length+ds.length)*bytes<=140737488355328) (hl:l.length+ds.length<=maxLen) (hB:B<=W.heap.size):
 ∃v' w',(Builtin.append_ #[t,t] t #[pv,.slice (some ⟨b,o,none⟩) ds.length c]).run P W=.ok v' w'/\Own w' B e k v' (l++ds)/\Below B W w':=by
 obtain⟨i0,hi0,hz0,hz1,hz2⟩:=info_parts hinfo
 obtain⟨v',w',hrun,h2,h3,-⟩:=run_append_own (P:=P) W B t t e i0 z 1 bytes ht hi0 hz0 hz1 hz2 hz (by decide) pv l.length (vals k l) hown
  ⟨b,o,none⟩ ds.length c (vals k ds) (by simp[vals]) (fun j u hu=>by
   have hj:j<ds.length:=by have:=(List.getElem?_eq_some_iff.1 hu).1;simpa[vals] using this
   have:=hd.cell j hj;rw[za6]at this;rw[zaf,this,<-hu];simp[vals,nth,List.getD,hj]) (fun u hu=>by
   obtain⟨x,_,rfl⟩:=List.mem_map.1 hu;rfl) hl hlen hB
 have hlt:=hown.lt;refine⟨v',w',hrun,?_,?_⟩
 ·simpa[Own,vals] using h2
 ·exact(Below.refl _ _).grown h3 hB (fun b hb=>(hlt b hb).1)
theorem zsx {V:Nat} (h:0<V):(0:Nat)::digs 256 V=digs 256 (256*V):=by
 have h1:=zfp (b:=256) (l:=0::digs 256 V) (by decide) (fun x hx=>by
  rcases List.mem_cons.1 hx with rfl|hx
  ·decide
  ·exact zbi (by decide) _ x hx) (by
  rcases digs_tidy (b:=256) (by decide) V with h0|⟨x,hx,h0⟩
  ·exact absurd ((zaT (by decide)).1 h0) (by omega)
  ·right;refine⟨x,?_,h0⟩;rw[List.getLast?_cons,hx];rfl)
 rw[h1];congr 1;rw[val,zar (by decide)];omega
structure SlI (w wr:World) (X N V m L:Nat) (A:Option Addr):Prop where
 eq:V*2^m=X*2^N
 len:8*(digs 256 V).length+m<=L
 rd:Rd wr .i64 A (digs 256 V)
 below:Below w.heap.size w wr
theorem SlI.short {w wr:World} {X N V m L:Nat} {A:Option Addr} (h:SlI w wr X N V m L A) (hL:L<=8000000) (hm:m<8\/V=0) (V' m':Nat) (e:V'*2^m'=X*2^N):(digs 256 V').length<=1000001:=by
 have h1:=zdo (zbi (b:=256) (by decide) V);rw[zar (by decide)]at h1;have h2:=h.len;have h3:V'<=X*2^N:=by rw[<-e];exact Nat.le_mul_of_pos_right _ (Nat.pow_pos (by decide))
 have h4:X*2^N<256^((digs 256 V).length+1):=by
  rw[<-h.eq,Nat.pow_succ];rcases hm with hm|rfl
  ·have h5:2^m<=2^8:=Nat.pow_le_pow_right (by decide) (by omega);exact Nat.mul_lt_mul_of_lt_of_le h1 h5 (by decide)
  ·rw[Nat.zero_mul];exact Nat.mul_pos (Nat.pow_pos (by decide)) (by decide)
 exact Nat.le_trans (zfw (by decide) (Nat.lt_of_le_of_lt h3 h4)) (by omega)
set_option maxRecDepth 100000 in
theorem zqE (w:World) (A:Option Addr) (c N:Nat) (l:List Nat) (hl:l.length<=100000) (hN:N<=1048576) (ha:Rd w .u64 A l) (hx:∀x∈l,x<B64):
 Calls Tryz.prog 220 #[.slice A l.length c,.int .i64 N] w (RetL .u64 (digs B64 (val B64 l*2^N)) w):=by
 have hlx:=zoz hx;have h1:=zoR;have Hs1:=znd (zox w A c l (by omega) ha hx);have t0:¬(1048576:Int)<(N:Int):=by omega
 clear ha hx;go_enter Tryz.func220,Tryz.ntmps220;go_wp2_with fail;refine Hs1.out.mono ?_;rintro e w1 ⟨A1,c1,rfl,hc1,hr1,hb1,-⟩;have HI0:=znd (show SlI w w1 (val B64 l) N (val B64 l) N 8000000 A1 from⟨rfl,by omega,hr1,hb1⟩);clear hr1 hb1 Hs1 hlx;go_wp2_with fail;go_loopw [1,5] (fun nv xv wr=>∃(m V c':Nat) (A':Option Addr),nv=.int .i64 m/\xv=.slice A' (digs 256 V).length c'/\(digs 256 V).length<=c'/\Hid (SlI w wr (val B64 l) N V m 8000000 A')) (fun nv _ _=>(intOf nv).toNat)
 case atStart=>exact⟨N,_,c1,A1,rfl,rfl,hc1,HI0⟩
 case round=>
  clear HI0;obtain⟨m,V,c',A',rfl,rfl,hc',hI⟩:=hrel;have hlen:=hI.out.len;by_cases hgo:8<=m/\0<V
  ·obtain⟨h8,hV⟩:=hgo;have hne:digs 256 V≠[]:=fun e=>by have:=(zaT (b:=256) (by decide)).1 e;omega
   have hpos:=List.length_pos_iff.2 hne;obtain⟨b1,o1,rfl⟩:=hI.out.rd.sl hpos
   have hw0:Own (wr.alloc (.cells #[.int .i64 0] 3)) wr.heap.size 3 .i64 (.slice (some ⟨wr.heap.size,0,none⟩) 1 1) [0]:=
    ⟨rfl,.inr ⟨wr.heap.size,1,#[.int .i64 0],rfl,Nat.le_refl _,heap_alloc_new wr _,Nat.le_refl _,by simp[maxLen],rfl,rfl⟩⟩
   obtain⟨v',w',hrun,ho,hb⟩:=hw0.apps (P:=Tryz.prog) (t:=58) (c:=c') Tryz.underlying58 zoX rfl (hI.out.rd.alloc _) (by simp;omega) (by simp only[maxLen,List.length_singleton];omega) (by simp);obtain⟨A3,c3,rfl,hc3,-,hr3,-⟩:=ho.form;have hds:=zsx hV;have hcc:[0]++digs 256 V=digs 256 (256*V):=hds;rw[hcc]at hr3 hc3 hrun;have hl2:(digs 256 (256*V)).length=(digs 256 V).length+1:=by rw[<-hds];rfl
   have HN:=znd (show SlI w w' (val B64 l) N (256*V) (m-8) 8000000 A3 from⟨by
    rw[<-hI.out.eq];obtain⟨q,rfl⟩:∃q,m=q+8:=⟨m-8,by omega⟩;rw[Nat.add_sub_cancel,Nat.pow_add,show(2:Nat)^8=256 from rfl,Nat.mul_comm 256 V,Nat.mul_assoc,Nat.mul_comm 256],by omega,hr3,hI.out.below.trans (((Below.refl wr.heap.size wr).alloc (Nat.le_refl _) _).trans hb |>.mono hI.out.below.size)⟩)
   have Hrun:=znd hrun;have t8:(8:Int)<=(m:Int):=by omega
   have tl:(0:Int)<((digs 256 V).length:Int):=by omega
   have tm:(m:Int)-8=((m-8:Nat):Int):=by omega
   have hm8:m-8<m:=by omega
   have hmb:m-8<=8000000:=by omega
   clear hV hne hpos hw0 hrun ho hb hr3 hds hcc hl2 hI hlen h8;generalize m-8=m8 at*;generalize (digs 256 V).length=LV at*;go_wp2_with (at_builtin;refine zac rfl (.tmp 17) (.tmp 18) 58 _ _ _ rfl rfl rfl Hrun.out ?_);go_roundw
   case rel=>exact⟨m8,256*V,c3,A3,by first|rfl|rw[tm],rfl,hc3,HN⟩
   case measure=>simp[intOf];omega
  ·have HI:=znd hI.out;have hmb:m<=8000000:=by omega
   have HK:=znd (hI.out.short (Nat.le_refl _) (by omega));clear hI;by_cases h8:8<=m
   ·have t8:(8:Int)<=(m:Int):=by omega
    have tl0:¬(0:Int)<((digs 256 V).length:Int):=by rw[show V=0 from by omega];decide
    clear hgo h8 hlen;go_wp2_with fail;go_loopw [1,5] (fun nv xv wr=>∃(m V c':Nat) (A':Option Addr),nv=.int .i64 m/\xv=.slice A' (digs 256 V).length c'/\m<=8000000/\(digs 256 V).length<=c'/\Hid (V*2^m=val B64 l*2^N/\Rd wr .i64 A' (digs 256 V)/\Below w.heap.size w wr)) (fun nv _ _=>(intOf nv).toNat)
    case atStart=>exact⟨m,V,c',A',rfl,rfl,hmb,hc',znd ⟨HI.out.eq,HI.out.rd,HI.out.below⟩⟩
    case round=>
     clear HI hc' hmb t8 tl0;obtain⟨m,V,c',A',rfl,rfl,hmb,hc',hI⟩:=hrel;have hlen:=HK.out V m hI.out.1;by_cases hm0:0<m
     ·have tm:(0:Int)<(m:Int):=by omega
      by_cases hV:0<V
      ·have hpos:0<(digs 256 V).length:=List.length_pos_iff.2 (fun e=>by have:=(zaT (b:=256) (by decide)).1 e;omega);have tl:(0:Int)<((digs 256 V).length:Int):=by omega
       have HT:=znd (zpU wr A' c' 0 (digs 256 V) (by omega) hI.out.2.1 (zbi (by decide) _) (by decide));rw[zar (by decide),Nat.add_zero]at HT
       have HE:=znd (show 2*V*2^(m-1)=val B64 l*2^N by
        rw[<-hI.out.1];obtain⟨q,rfl⟩:∃q,m=q+1:=⟨m-1,by omega⟩;rw[Nat.add_sub_cancel,Nat.pow_succ,Nat.mul_comm 2 V,Nat.mul_assoc,Nat.mul_comm 2])
       have Hbl:=znd hI.out.2.2;have tm1:(m:Int)-1=((m-1:Nat):Int):=by omega
       have hm1:m-1<m:=by omega
       have hm2:m-1<=8000000:=by omega
       clear hI hlen hpos;generalize m-1=m1 at*;generalize 2*V=V2 at*;go_wp2_with fail;refine HT.out.mono ?_;rintro e w4 ⟨A4,c4,rfl,hc4,hr4,hb4,-⟩;have HN:=znd (And.intro HE.out (And.intro hr4 (Hbl.out.trans (hb4.mono Hbl.out.size))));clear hr4 hb4 HT HE Hbl;go_wp2_with fail;go_roundw
       case rel=>exact⟨m1,V2,c4,A4,by first|rfl|rw[tm1],rfl,hm2,hc4,HN⟩
       case measure=>simp[intOf];omega
      ·have hd:digs 256 V=[]:=by rw[show V=0 from by omega];rfl
       have hX:=znd (show val B64 l*2^N=0 by rw[<-hI.out.1,show V=0 from by omega,Nat.zero_mul]);have Hlg:=znd (zoG wr A' c' [] (by simp) (by simp) ⟨fun h=>absurd h (by simp),fun i h=>absurd h (by simp)⟩ (by simp));have Hbl:=znd hI.out.2.2;rw[hd];clear hI hlen hV hd hc' hm0;go_wp2_with fail;refine Hlg.out.mono ?_;rintro e w4 ⟨A4,c4,rfl,hc4,hr4,hb4,hf4⟩;have HC:=znd hc4;have HR:=znd hr4;have HB:=znd hb4;have HF:=znd hf4;clear hc4 hr4 hb4 hf4;go_wp2_with fail;go_ret;rw[hX.out];exact⟨A4,c4,rfl,HC.out,HR.out,Hbl.out.trans (HB.out.mono Hbl.out.size),fun j hj=>Nat.le_trans Hbl.out.size (HF.out j hj)⟩
     ·have tm:¬(0:Int)<(m:Int):=by omega
      have hVX:=hI.out.1;rw[show m=0 from by omega,Nat.pow_zero,Nat.mul_one]at hVX;have HX:=znd hVX;have Hlg:=znd (zoG wr A' c' (digs 256 V) (by omega) hc' hI.out.2.1 (zbi (by decide) _));rw[zar (by decide)]at Hlg;have Hbl:=znd hI.out.2.2;clear hI hlen hVX hm0 hc';go_wp2_with fail;refine Hlg.out.mono ?_;rintro e w4 ⟨A4,c4,rfl,hc4,hr4,hb4,hf4⟩;have HC:=znd hc4;have HR:=znd hr4;have HB:=znd hb4;have HF:=znd hf4;clear hc4 hr4 hb4 hf4;go_wp2_with fail;go_ret;rw[<-HX.out];exact⟨A4,c4,rfl,HC.out,HR.out,Hbl.out.trans (HB.out.mono Hbl.out.size),fun j hj=>Nat.le_trans Hbl.out.size (HF.out j hj)⟩
   ·have t8:¬(8:Int)<=(m:Int):=by omega
    clear hgo h8 hlen;go_wp2_with fail;go_loopw [1,5] (fun nv xv wr=>∃(m V c':Nat) (A':Option Addr),nv=.int .i64 m/\xv=.slice A' (digs 256 V).length c'/\m<=8000000/\(digs 256 V).length<=c'/\Hid (V*2^m=val B64 l*2^N/\Rd wr .i64 A' (digs 256 V)/\Below w.heap.size w wr)) (fun nv _ _=>(intOf nv).toNat)
    case atStart=>exact⟨m,V,c',A',rfl,rfl,hmb,hc',znd ⟨HI.out.eq,HI.out.rd,HI.out.below⟩⟩
    case round=>
     clear HI hc' hmb t8;obtain⟨m,V,c',A',rfl,rfl,hmb,hc',hI⟩:=hrel;have hlen:=HK.out V m hI.out.1;by_cases hm0:0<m
     ·have tm:(0:Int)<(m:Int):=by omega
      by_cases hV:0<V
      ·have hpos:0<(digs 256 V).length:=List.length_pos_iff.2 (fun e=>by have:=(zaT (b:=256) (by decide)).1 e;omega);have tl:(0:Int)<((digs 256 V).length:Int):=by omega
       have HT:=znd (zpU wr A' c' 0 (digs 256 V) (by omega) hI.out.2.1 (zbi (by decide) _) (by decide));rw[zar (by decide),Nat.add_zero]at HT
       have HE:=znd (show 2*V*2^(m-1)=val B64 l*2^N by
        rw[<-hI.out.1];obtain⟨q,rfl⟩:∃q,m=q+1:=⟨m-1,by omega⟩;rw[Nat.add_sub_cancel,Nat.pow_succ,Nat.mul_comm 2 V,Nat.mul_assoc,Nat.mul_comm 2])
       have Hbl:=znd hI.out.2.2;have tm1:(m:Int)-1=((m-1:Nat):Int):=by omega
       have hm1:m-1<m:=by omega
       have hm2:m-1<=8000000:=by omega
       clear hI hlen hpos;generalize m-1=m1 at*;generalize 2*V=V2 at*;go_wp2_with fail;refine HT.out.mono ?_;rintro e w4 ⟨A4,c4,rfl,hc4,hr4,hb4,-⟩;have HN:=znd (And.intro HE.out (And.intro hr4 (Hbl.out.trans (hb4.mono Hbl.out.size))));clear hr4 hb4 HT HE Hbl;go_wp2_with fail;go_roundw
       case rel=>exact⟨m1,V2,c4,A4,by first|rfl|rw[tm1],rfl,hm2,hc4,HN⟩
       case measure=>simp[intOf];omega
      ·have hd:digs 256 V=[]:=by rw[show V=0 from by omega];rfl
       have hX:=znd (show val B64 l*2^N=0 by rw[<-hI.out.1,show V=0 from by omega,Nat.zero_mul]);have Hlg:=znd (zoG wr A' c' [] (by simp) (by simp) ⟨fun h=>absurd h (by simp),fun i h=>absurd h (by simp)⟩ (by simp));have Hbl:=znd hI.out.2.2;rw[hd];clear hI hlen hV hd hc' hm0;go_wp2_with fail;refine Hlg.out.mono ?_;rintro e w4 ⟨A4,c4,rfl,hc4,hr4,hb4,hf4⟩;have HC:=znd hc4;have HR:=znd hr4;have HB:=znd hb4;have HF:=znd hf4;clear hc4 hr4 hb4 hf4;go_wp2_with fail;go_ret;rw[hX.out];exact⟨A4,c4,rfl,HC.out,HR.out,Hbl.out.trans (HB.out.mono Hbl.out.size),fun j hj=>Nat.le_trans Hbl.out.size (HF.out j hj)⟩
     ·have tm:¬(0:Int)<(m:Int):=by omega
      have hVX:=hI.out.1;rw[show m=0 from by omega,Nat.pow_zero,Nat.mul_one]at hVX;have HX:=znd hVX;have Hlg:=znd (zoG wr A' c' (digs 256 V) (by omega) hc' hI.out.2.1 (zbi (by decide) _));rw[zar (by decide)]at Hlg;have Hbl:=znd hI.out.2.2;clear hI hlen hVX hm0 hc';go_wp2_with fail;refine Hlg.out.mono ?_;rintro e w4 ⟨A4,c4,rfl,hc4,hr4,hb4,hf4⟩;have HC:=znd hc4;have HR:=znd hr4;have HB:=znd hb4;have HF:=znd hf4;clear hc4 hr4 hb4 hf4;go_wp2_with fail;go_ret;rw[<-HX.out];exact⟨A4,c4,rfl,HC.out,HR.out,Hbl.out.trans (HB.out.mono Hbl.out.size),fun j hj=>Nat.le_trans Hbl.out.size (HF.out j hj)⟩

theorem zuc (w:World):(sizeOf (Tryz.prog.elem 51)).run Tryz.prog w=.ok 1 w:=by kernel_rfl
theorem zp7 {a:Nat} (h:0<a):nth (digs B64 a) 0%2=a%2/\nth (digs B64 a) 0<B64/\0<(digs B64 a).length:=by
 have h1:=zar (b:=B64) (by decide) a;have h2:=zbi (b:=B64) (by decide) a
 cases hd:digs B64 a with
 |nil=>have:=(zaT (b:=B64) (by decide)).1 hd;omega
 |cons x t=>
  rw[hd]at h1 h2;have hx:=h2 x (by simp);refine⟨?_,by simpa[nth] using hx,by simp⟩;have e:nth (x::t) 0=x:=rfl;rw[e,<-h1,val];simp only[B64];omega
theorem zpd {a:Nat} (h:0<a):0<(digs B64 a).length:=(zp7 h).2.2
theorem zsa {a n:Nat} (h:a<B64^n):(digs B64 a).length<=n:=zfw (by decide) h
theorem zqr {x:Nat} (h:x%2=0):(x:Int)%2=0/\(x:Int).tmod 2=0:=⟨by omega,by rw[Int.tmod_eq_emod_of_nonneg (by omega)];omega⟩
theorem zrM {x:Nat} (h:x%2=1):(x:Int)%2=1/\(x:Int).tmod 2=1:=⟨by omega,by rw[Int.tmod_eq_emod_of_nonneg (by omega)];omega⟩
structure G2 (w wr:World) (K a b:Nat) (A B:Option Addr):Prop where
 ra:Rd wr .u64 A (digs B64 a)
 rb:Rd wr .u64 B (digs B64 b)
 below:Below w.heap.size w wr
 la:a<B64^K
 lb:b<B64^K
theorem zqD {a b:Nat} (ha:a%2=0) (hb:b%2=1):Nat.gcd (a/2) b=Nat.gcd a b:=by
 have:=zdU 1 (a/2) b hb;rw[Nat.pow_one,show 2*(a/2)=a from by omega]at this;exact this.symm
theorem zsf {a b:Nat} (ha:a%2=1) (hb:b%2=0):Nat.gcd a (b/2)=Nat.gcd a b:=by
 rw[Nat.gcd_comm a,Nat.gcd_comm a];exact zqD hb ha
theorem zsl {a b:Nat} (h:a<=b):Nat.gcd a (b-a)=Nat.gcd a b:=by
 rw[Nat.gcd_comm a,Nat.gcd_comm a];exact zjz b a h
theorem ztc {a b:Nat} (h:a=0\/b=0):Nat.gcd a b=a+b:=by
 rcases h with rfl|rfl<;>simp
theorem zvb {a t X K:Nat} (ha:2<=a) (e:a*2^t=X) (h:X<B64^K) (hK:K<=10000):t+1<=640000:=by
 have h1:2^(t+1)<=X:=by
  rw[<-e,Nat.pow_succ,Nat.mul_comm];exact Nat.mul_le_mul_right _ ha
 have h2:X<2^(64*K):=by
  rw[Nat.pow_mul];exact h
 have h3:=(Nat.pow_lt_pow_iff_right (a:=2) (by decide)).1 (Nat.lt_of_le_of_lt h1 h2);omega
set_option maxRecDepth 100000 in
theorem zsE (w:World) (A B:Option Addr) (c d K:Nat) (hK:K<=10000) (l m:List Nat) (hl:l.length<=K) (hm:m.length<=K) (ha:Rd w .u64 A l) (hb:Rd w .u64 B m)
 (hx:∀x∈l,x<B64) (hy:∀x∈m,x<B64):
 Calls Tryz.prog 183 #[.slice A l.length c,.slice B m.length d] w (RetL .u64 (digs B64 (Nat.gcd (val B64 l) (val B64 m))) w):=by
 have hlx:=zoz hx;have hly:=zoz hy;have h1:=zuc;have hX:val B64 l<B64^K:=Nat.lt_of_lt_of_le (zdo hx) (Nat.pow_le_pow_right za4 hl);have hY:val B64 m<B64^K:=Nat.lt_of_lt_of_le (zdo hy) (Nat.pow_le_pow_right za4 hm);have Hs1:=znd (zox w A c l (by omega) ha hx);have Hb:=znd hb;have Hy:=znd hy;clear ha hx hb hy;go_enter Tryz.func183,Tryz.ntmps183;go_wp2_with fail;refine Hs1.out.mono ?_;rintro e w1 ⟨A1,c1,rfl,hc1,hr1,hb1,-⟩;have Hl1:=zoG w1 A1 c1 (digs 256 (val B64 l)) (by omega) hc1 hr1 (zbi (by decide) _);rw[zar (by decide)]at Hl1;replace Hl1:=znd Hl1;have Hb1:=znd hb1;clear hc1 hr1 hb1 Hs1;go_wp2_with fail;refine Hl1.out.mono ?_;rintro e w2 ⟨A2,c2,rfl,hc2,hr2,hb2,-⟩;have Hr2:=znd hr2;have Hb2:=znd (Hb1.out.trans (hb2.mono Hb1.out.size));have Hs2:=znd (zox w2 B d m (by omega) (Hb.out.below Hb2.out (Nat.le_refl _)) Hy.out);clear hc2 hr2 hb2 Hl1 Hb1;go_wp2_with fail;refine Hs2.out.mono ?_;rintro e w3 ⟨A3,c3,rfl,hc3,hr3,hb3,-⟩;have Hl3:=zoG w3 A3 c3 (digs 256 (val B64 m)) (by omega) hc3 hr3 (zbi (by decide) _);rw[zar (by decide)]at Hl3;replace Hl3:=znd Hl3;have Hr3:=znd (Hr2.out.below hb3 (Nat.le_refl _));have Hb3:=znd (Hb2.out.trans (hb3.mono Hb2.out.size));clear hc3 hr3 hb3 Hs2 Hr2 Hb2;go_wp2_with fail;refine Hl3.out.mono ?_;rintro e w4 ⟨A4,c4,rfl,hc4,hr4,hb4,-⟩;have HG:=znd (show G2 w w4 K (val B64 l) (val B64 m) A2 A4 from⟨Hr3.out.below hb4 (Nat.le_refl _),hr4,Hb3.out.trans (hb4.mono Hb3.out.size),hX,hY⟩);clear hc4 hr4 hb4 Hl3 Hr3 Hb3 hlx hly;go_wp2_with fail
 go_loopg [5,6,7] (val B64 l) (fun gk xv yv tv wr=>∃(a b t ca cb:Nat) (A' B':Option Addr),gk=a/\xv=.slice A' (digs B64 a).length ca/\yv=.slice B' (digs B64 b).length cb/\tv=.int .i64 t/\t<=640000/\Hid (a*2^t=val B64 l/\b*2^t=val B64 m)/\Hid (G2 w wr K a b A' B'))
 case atStart=>exact⟨_,_,0,c2,c4,A2,A4,rfl,rfl,rfl,rfl,by omega,znd ⟨by simp,by simp⟩,HG⟩
 case round=>
  clear HG;obtain⟨a,b,t,ca,cb,A',B',rfl,rfl,rfl,rfl,ht,hE,hG⟩:=hrel;generalize gk=a at*;have hla:=zsa hG.out.la;have hlb:=zsa hG.out.lb;have ht1:t+1<=640000\/¬(0<a/\a%2=0):=by
   by_cases h:0<a/\a%2=0
   ·exact .inl (zvb (a:=a) (by omega) hE.out.1 hX hK)
   ·exact .inr h
  by_cases hall:0<a/\0<b/\a%2=0/\b%2=0
  ·obtain⟨h0,h0b,hx,hy⟩:=hall;have ta:(0:Int)<((digs B64 a).length:Int):=by have:=zpd h0;omega
   have tb:(0:Int)<((digs B64 b).length:Int):=by have:=zpd h0b;omega
   obtain⟨p1,p2,p3⟩:=zp7 h0;have hca:=hG.out.ra.cell 0 p3;have hsa:=hG.out.ra.sl;obtain⟨q1,q2,q3⟩:=zp7 h0b;have hcb:=hG.out.rb.cell 0 q3;have hsb:=hG.out.rb.sl;generalize nth (digs B64 a) 0=x at*;generalize nth (digs B64 b) 0=y at*;obtain⟨r1,r2⟩:=zqr (p1.trans hx);obtain⟨s1,s2⟩:=zqr (q1.trans hy);have HS1:=znd (zpf wr A' ca (digs B64 a) (by omega) hG.out.ra (zbi (by decide) _));have HS2:=znd (fun W (hW:Below wr.heap.size wr W)=>zpf W B' cb (digs B64 b) (by omega) (hG.out.rb.below hW (Nat.le_refl _)) (zbi (by decide) _));rw[zar (by decide)]at HS1 HS2
   have HE:=znd (show a/2*2^(t+1)=val B64 l/\b/2*2^(t+1)=val B64 m by
    refine⟨?_,?_⟩
    ·rw[<-hE.out.1,Nat.pow_succ,Nat.mul_comm (2^t),<-Nat.mul_assoc,show a/2*2=a from by omega]
    ·rw[<-hE.out.2,Nat.pow_succ,Nat.mul_comm (2^t),<-Nat.mul_assoc,show b/2*2=b from by omega])
   have HB:=znd hG.out.below;have HL:=znd (And.intro hG.out.la hG.out.lb);have ht2:t+1<=640000:=by rcases ht1 with h|h;exact h;exact absurd ⟨h0,hx⟩ h
   have hm1:a/2<a:=by omega
   clear p1 p2 p3 q1 q2 q3 hE hG hx hy h0 h0b hla hlb ht1;go_wp2_with fail;refine HS1.out.mono ?_;rintro e w5 ⟨A5,c5,rfl,-,hr5,hb5,-⟩;have H2:=znd (HS2.out w5 hb5);have HR5:=znd hr5;replace HB:=znd (HB.out.trans (hb5.mono HB.out.size));clear hr5 hb5 HS1 HS2 hca hcb hsa hsb;go_wp2_with fail;refine H2.out.mono ?_;rintro e w6 ⟨A6,c6,rfl,-,hr6,hb6,-⟩;have HN:=znd (show G2 w w6 K (a/2) (b/2) A5 A6 from⟨HR5.out.below hb6 (Nat.le_refl _),hr6,HB.out.trans (hb6.mono HB.out.size),Nat.lt_of_le_of_lt (Nat.div_le_self _ _) HL.out.1,Nat.lt_of_le_of_lt (Nat.div_le_self _ _) HL.out.2⟩);clear hr6 hb6 H2 HR5 HB HL;go_wp2_with fail
   go_roundg (a/2)
   case measure=>exact hm1
   case rel=>exact⟨a/2,b/2,t+1,c5,c6,A5,A6,rfl,rfl,rfl,by go_num,ht2,HE,HN⟩
  ·have h4:(¬0<a)\/(0<a/\¬0<b)\/(0<a/\0<b/\a%2=1)\/(0<a/\0<b/\a%2=0/\b%2=1):=by omega
   have HP:=znd (show Nat.gcd a b*2^t=Nat.gcd (val B64 l) (val B64 m) by rw[<-hE.out.1,<-hE.out.2,Nat.gcd_mul_right]);have HO:=znd (show a%2=1\/b%2=1\/a=0\/b=0 by omega);clear ht1 hE hall;rcases h4 with h4|⟨h0,h0b⟩|⟨h0,h0b,hx⟩|⟨h0,h0b,hx,hy⟩
   focus
    have ta:¬(0:Int)<((digs B64 a).length:Int):=by rw[show a=0 from by omega];decide
    clear h4;go_wp2_with fail;clear ta
   rotate_left
   focus
    have ta:(0:Int)<((digs B64 a).length:Int):=by have:=zpd h0;omega
    have tb:¬(0:Int)<((digs B64 b).length:Int):=by rw[show b=0 from by omega];decide
    clear h0 h0b;go_wp2_with fail;clear ta tb
   rotate_left
   focus
    have ta:(0:Int)<((digs B64 a).length:Int):=by have:=zpd h0;omega
    have tb:(0:Int)<((digs B64 b).length:Int):=by have:=zpd h0b;omega
    obtain⟨p1,p2,p3⟩:=zp7 h0;have hca:=hG.out.ra.cell 0 p3;have hsa:=hG.out.ra.sl;generalize nth (digs B64 a) 0=x at*;obtain⟨r1,r2⟩:=zrM (p1.trans hx);clear h0 h0b hx p1 p2 p3;go_wp2_with fail;clear ta tb hca hsa r1 r2
   rotate_left
   focus
    have ta:(0:Int)<((digs B64 a).length:Int):=by have:=zpd h0;omega
    have tb:(0:Int)<((digs B64 b).length:Int):=by have:=zpd h0b;omega
    obtain⟨p1,p2,p3⟩:=zp7 h0;have hca:=hG.out.ra.cell 0 p3;have hsa:=hG.out.ra.sl;generalize nth (digs B64 a) 0=x at*;obtain⟨q1,q2,q3⟩:=zp7 h0b;have hcb:=hG.out.rb.cell 0 q3;have hsb:=hG.out.rb.sl;generalize nth (digs B64 b) 0=y at*;obtain⟨r1,r2⟩:=zqr (p1.trans hx);obtain⟨s1,s2⟩:=zrM (q1.trans hy);clear h0 h0b hx hy p1 p2 p3 q1 q2 q3;go_wp2_with fail;clear ta tb hca hsa hcb hsb r1 r2 s1 s2
   rotate_left
   all_goals
    clear hla hlb
    go_loopg [5,6] (a+b) (fun gk xv yv wr=>∃(a b ca cb:Nat) (A' B':Option Addr),gk=a+b/\xv=.slice A' (digs B64 a).length ca/\yv=.slice B' (digs B64 b).length cb/\Hid (Nat.gcd a b*2^t=Nat.gcd (val B64 l) (val B64 m))/\Hid (a%2=1\/b%2=1\/a=0\/b=0)/\Hid (G2 w wr K a b A' B'))
    case atStart=>exact⟨a,b,ca,cb,A',B',rfl,rfl,rfl,HP,HO,hG⟩
    case round=>
     clear HP HO hG;obtain⟨a,b,ca,cb,A',B',rfl,rfl,rfl,HP,HO,hG⟩:=hrel;have hla:=zsa hG.out.la;have hlb:=zsa hG.out.lb;by_cases h0:0<a
     ·have ta:(0:Int)<((digs B64 a).length:Int):=by have:=zpd h0;omega
      by_cases h0b:0<b
      ·have tb:(0:Int)<((digs B64 b).length:Int):=by have:=zpd h0b;omega
       obtain⟨p1,p2,p3⟩:=zp7 h0;have hca:=hG.out.ra.cell 0 p3;have hsa:=hG.out.ra.sl;obtain⟨q1,q2,q3⟩:=zp7 h0b;have hcb:=hG.out.rb.cell 0 q3;have hsb:=hG.out.rb.sl;have ho:=HO.out;generalize nth (digs B64 a) 0=x at*;generalize nth (digs B64 b) 0=y at*;rcases Nat.mod_two_eq_zero_or_one a with hx|hx
       ·obtain⟨r1,r2⟩:=zqr (p1.trans hx);have hbo:b%2=1:=by omega
        clear ho;have HS1:=znd (zpf wr A' ca (digs B64 a) (by omega) hG.out.ra (zbi (by decide) _));rw[zar (by decide)]at HS1;have HE:=znd (show Nat.gcd (a/2) (b)*2^t=Nat.gcd (val B64 l) (val B64 m) by rw[zqD hx hbo];exact HP.out);have HO2:Hid ((a/2)%2=1\/(b)%2=1\/a/2=0\/b=0):=znd (by omega);have hm1:a/2+b<a+b:=by omega
        have HG:=znd hG.out;clear p1 p2 p3 q1 q2 q3 hG HP HO hla hlb h0 h0b hx hbo;go_wp2_with fail;refine HS1.out.mono ?_;rintro e w5 ⟨A5,c5,rfl,-,hr5,hb5,-⟩;have HN:=znd (show G2 w w5 K (a/2) (b) A5 B' from⟨hr5,HG.out.rb.below hb5 (Nat.le_refl _),HG.out.below.trans (hb5.mono HG.out.below.size),Nat.lt_of_le_of_lt (Nat.div_le_self _ _) HG.out.la,HG.out.lb⟩);clear hr5 hb5 HS1 HG hca hcb hsa hsb;go_wp2_with fail
        go_roundg (a/2+b)
        case measure=>exact hm1
        case rel=>exact⟨a/2,b,c5,cb,A5,B',rfl,rfl,rfl,HE,HO2,HN⟩
       ·obtain⟨r1,r2⟩:=zrM (p1.trans hx);clear ho;rcases Nat.mod_two_eq_zero_or_one b with hy|hy
        ·obtain⟨s1,s2⟩:=zqr (q1.trans hy);have HS1:=znd (zpf wr B' cb (digs B64 b) (by omega) hG.out.rb (zbi (by decide) _));rw[zar (by decide)]at HS1;have HE:=znd (show Nat.gcd (a) (b/2)*2^t=Nat.gcd (val B64 l) (val B64 m) by rw[zsf hx hy];exact HP.out);have HO2:Hid ((a)%2=1\/(b/2)%2=1\/a=0\/b/2=0):=znd (by omega);have hm1:a+b/2<a+b:=by omega
         have HG:=znd hG.out;clear p1 p2 p3 q1 q2 q3 hG HP HO hla hlb h0 h0b hx hy;go_wp2_with fail;refine HS1.out.mono ?_;rintro e w5 ⟨A5,c5,rfl,-,hr5,hb5,-⟩;have HN:=znd (show G2 w w5 K (a) (b/2) A' A5 from⟨HG.out.ra.below hb5 (Nat.le_refl _),hr5,HG.out.below.trans (hb5.mono HG.out.below.size),HG.out.la,Nat.lt_of_le_of_lt (Nat.div_le_self _ _) HG.out.lb⟩);clear hr5 hb5 HS1 HG hca hcb hsa hsb;go_wp2_with fail
         go_roundg (a+b/2)
         case measure=>exact hm1
         case rel=>exact⟨a,b/2,ca,c5,A',A5,rfl,rfl,rfl,HE,HO2,HN⟩
        ·obtain⟨s1,s2⟩:=zrM (q1.trans hy);by_cases hle:b<=a
         ·skip
          have HC:=znd (zq0 wr A' B' ca cb (digs B64 a) (digs B64 b) (by omega) (by omega) hG.out.ra hG.out.rb (zbi (by decide) _) (zbi (by decide) _));rw[zar (by decide),zar (by decide)]at HC;have tz:(0:Int)<=cmpN a b:=by unfold cmpN;split;omega;split<;>decide
          have HS1:=znd (fun(W:World) (hW:Below wr.heap.size wr W)=>zpV W A' B' ca cb (digs B64 a) (digs B64 b) (by omega) (by omega) (hG.out.ra.below hW (Nat.le_refl _)) (hG.out.rb.below hW (Nat.le_refl _)) (zbi (by decide) _) (zbi (by decide) _));rw[zar (by decide),zar (by decide)]at HS1;have HE:=znd (show Nat.gcd (a-b) (b)*2^t=Nat.gcd (val B64 l) (val B64 m) by rw[zjz a b hle];exact HP.out);have HO2:Hid ((a-b)%2=1\/(b)%2=1\/a-b=0\/b=0):=znd (by omega);have hm1:a-b+(b)<a+b:=by omega
          have HG:=znd hG.out;clear p1 p2 p3 q1 q2 q3 hG HP HO hla hlb h0 h0b hle hx hy;generalize cmpN a b=cz at*;go_wp2_with fail;refine HC.out.mono ?_;rintro e w5 ⟨rfl,hb5⟩;have H2:=znd (HS1.out w5 hb5);have Hb5:=znd hb5;clear hb5 HS1 HC hca hcb hsa hsb;go_wp2_with fail;refine H2.out.mono ?_;rintro e w6 ⟨A6,c6,rfl,-,hr6,hb6,-⟩;have Hb7:=znd (Hb5.out.trans (hb6.mono Hb5.out.size));have HN:=znd (show G2 w w6 K (a-b) (b) A6 B' from⟨hr6,HG.out.rb.below Hb7.out (Nat.le_refl _),HG.out.below.trans (Hb7.out.mono HG.out.below.size),Nat.lt_of_le_of_lt (Nat.sub_le _ _) HG.out.la,HG.out.lb⟩);clear hr6 hb6 H2 Hb5 Hb7 HG;go_wp2_with fail
          go_roundg (a-b+(b))
          case measure=>exact hm1
          case rel=>exact⟨a-b,b,c6,cb,A6,B',rfl,rfl,rfl,HE,HO2,HN⟩
         ·skip
          have HC:=znd (zq0 wr A' B' ca cb (digs B64 a) (digs B64 b) (by omega) (by omega) hG.out.ra hG.out.rb (zbi (by decide) _) (zbi (by decide) _));rw[zar (by decide),zar (by decide)]at HC;have tz:¬(0:Int)<=cmpN a b:=by unfold cmpN;rw[if_pos (by omega)];decide
          have HS1:=znd (fun(W:World) (hW:Below wr.heap.size wr W)=>zpV W B' A' cb ca (digs B64 b) (digs B64 a) (by omega) (by omega) (hG.out.rb.below hW (Nat.le_refl _)) (hG.out.ra.below hW (Nat.le_refl _)) (zbi (by decide) _) (zbi (by decide) _));rw[zar (by decide),zar (by decide)]at HS1;have HE:=znd (show Nat.gcd (a) (b-a)*2^t=Nat.gcd (val B64 l) (val B64 m) by rw[zsl (Nat.le_of_not_le hle)];exact HP.out);have HO2:Hid ((a)%2=1\/(b-a)%2=1\/a=0\/b-a=0):=znd (by omega);have hm1:a+(b-a)<a+b:=by omega
          have HG:=znd hG.out;clear p1 p2 p3 q1 q2 q3 hG HP HO hla hlb h0 h0b hle hx hy;generalize cmpN a b=cz at*;go_wp2_with fail;refine HC.out.mono ?_;rintro e w5 ⟨rfl,hb5⟩;have H2:=znd (HS1.out w5 hb5);have Hb5:=znd hb5;clear hb5 HS1 HC hca hcb hsa hsb;go_wp2_with fail;refine H2.out.mono ?_;rintro e w6 ⟨A6,c6,rfl,-,hr6,hb6,-⟩;have Hb7:=znd (Hb5.out.trans (hb6.mono Hb5.out.size));have HN:=znd (show G2 w w6 K (a) (b-a) A' A6 from⟨HG.out.ra.below Hb7.out (Nat.le_refl _),hr6,HG.out.below.trans (Hb7.out.mono HG.out.below.size),HG.out.la,Nat.lt_of_le_of_lt (Nat.sub_le _ _) HG.out.lb⟩);clear hr6 hb6 H2 Hb5 Hb7 HG;go_wp2_with fail
          go_roundg (a+(b-a))
          case measure=>exact hm1
          case rel=>exact⟨a,b-a,ca,c6,A',A6,rfl,rfl,rfl,HE,HO2,HN⟩
      ·have tb:¬(0:Int)<((digs B64 b).length:Int):=by rw[show b=0 from by omega];decide
       have HA:=znd (zqS wr A' B' ca cb (digs B64 a) (digs B64 b) (by omega) (by omega) hG.out.ra hG.out.rb (zbi (by decide) _) (zbi (by decide) _));rw[zar (by decide),zar (by decide)]at HA;have HE:=znd (show(a+b)*2^t=Nat.gcd (val B64 l) (val B64 m) by rw[<-HP.out,ztc (by omega)]);have hab:(digs B64 (a+b)).length<=10001:=by
        refine Nat.le_trans (zsa (n:=K+1) ?_) (by omega);have e1:=hG.out.la;have e2:=hG.out.lb;have e3:B64^K*2<=B64^(K+1):=by rw[Nat.pow_succ];exact Nat.mul_le_mul_left _ (by decide)
        omega
       have HS:=znd (fun(W:World) (A'':Option Addr) (c'':Nat) (hr:Rd W .u64 A'' (digs B64 (a+b)))=>zqE W A'' c'' t (digs B64 (a+b)) (by omega) (by omega) hr (zbi (by decide) _));rw[zar (by decide)]at HS;have HB:=znd hG.out.below;clear hab HP HO hG hla hlb h0 h0b;go_wp2_with fail;refine HA.out.mono ?_;rintro e w5 ⟨A5,c5,rfl,-,hr5,hb5,-⟩;have H2:=znd (HS.out w5 A5 c5 hr5);replace HB:=znd (HB.out.trans (hb5.mono HB.out.size));clear hr5 hb5 HA HS;go_wp2_with fail;refine H2.out.mono ?_;rintro e w6 ⟨A6,c6,rfl,hc6,hr6,hb6,hf6⟩;have HC:=znd hc6;have HR:=znd hr6;have HB6:=znd hb6;have HF:=znd hf6;clear hc6 hr6 hb6 hf6 H2;go_wp2_with fail;go_ret;rw[<-HE.out];exact⟨A6,c6,rfl,HC.out,HR.out,HB.out.trans (HB6.out.mono HB.out.size),fun j hj=>Nat.le_trans HB.out.size (HF.out j hj)⟩
     ·have ta:¬(0:Int)<((digs B64 a).length:Int):=by rw[show a=0 from by omega];decide
      have HA:=znd (zqS wr A' B' ca cb (digs B64 a) (digs B64 b) (by omega) (by omega) hG.out.ra hG.out.rb (zbi (by decide) _) (zbi (by decide) _));rw[zar (by decide),zar (by decide)]at HA;have HE:=znd (show(a+b)*2^t=Nat.gcd (val B64 l) (val B64 m) by rw[<-HP.out,ztc (by omega)]);have hab:(digs B64 (a+b)).length<=10001:=by
       refine Nat.le_trans (zsa (n:=K+1) ?_) (by omega);have e1:=hG.out.la;have e2:=hG.out.lb;have e3:B64^K*2<=B64^(K+1):=by rw[Nat.pow_succ];exact Nat.mul_le_mul_left _ (by decide)
       omega
      have HS:=znd (fun(W:World) (A'':Option Addr) (c'':Nat) (hr:Rd W .u64 A'' (digs B64 (a+b)))=>zqE W A'' c'' t (digs B64 (a+b)) (by omega) (by omega) hr (zbi (by decide) _));rw[zar (by decide)]at HS;have HB:=znd hG.out.below;clear hab HP HO hG hla hlb h0;go_wp2_with fail;refine HA.out.mono ?_;rintro e w5 ⟨A5,c5,rfl,-,hr5,hb5,-⟩;have H2:=znd (HS.out w5 A5 c5 hr5);replace HB:=znd (HB.out.trans (hb5.mono HB.out.size));clear hr5 hb5 HA HS;go_wp2_with fail;refine H2.out.mono ?_;rintro e w6 ⟨A6,c6,rfl,hc6,hr6,hb6,hf6⟩;have HC:=znd hc6;have HR:=znd hr6;have HB6:=znd hb6;have HF:=znd hf6;clear hc6 hr6 hb6 hf6 H2;go_wp2_with fail;go_ret;rw[<-HE.out];exact⟨A6,c6,rfl,HC.out,HR.out,HB.out.trans (HB6.out.mono HB.out.size),fun j hj=>Nat.le_trans HB.out.size (HF.out j hj)⟩
end Go.Proofs.YtegfiemlnnpidaaGreatDoor
