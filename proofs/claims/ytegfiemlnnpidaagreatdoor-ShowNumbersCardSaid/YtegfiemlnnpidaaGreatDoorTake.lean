/-
 limbs: takeOff, giveBack: what holds in the middle. limbs: takeOff, giveBack.
-/
import Derived.Test.YtegfiemlnnpidaaGreatDoorLimD
import Derived.Test.YtegfiemlnnpidaaGreatDoorGcdM
namespace Go.Proofs.YtegfiemlnnpidaaGreatDoor
set_option maxHeartbeats 2000000
open Go.RowKit

theorem zcb (b:Nat) (s:List Nat) (j k x:Nat):valT b ((s.set (j+k) x).drop j) k=valT b (s.drop j) k:=
 zbq _ _ _ _ fun i hi=>by rw[zaS,zaS,getD_set_ne _ _ _ _ (by omega)]
theorem zht {a w:World} {row:Option Nat} (h:a.grownBy w row) (n:Nat):a.grownBy (w.drewN n) row:=⟨h.os,h.tape,h.output,h.size,h.block⟩

structure Win (w wr:World) (g j n:Nat) (s0 s:List Nat):Prop where
 len:s.length=s0.length
 lt:∀x∈s,x<B64
 far:∀i,i<j\/j+n<=i->nth s i=nth s0 i
 blk:Blk wr g 50 (ints .u64 s)
 gr:w.grownBy wr (some g)
theorem Win.drewN {w wr:World} {g j n:Nat} {s0 s:List Nat} (h:Win w wr g j n s0 s) (q:Nat):Win w (wr.drewN q) g j n s0 s:=⟨h.len,h.lt,h.far,h.blk,zht h.gr q⟩
theorem Win.set_ {w wr:World} {g j k:Nat} {s0 s:List Nat} (h:Win w wr g j k s0 s) {r:Nat} (hr:r<B64):Win w (wr.setCell ⟨g,j+k,none⟩ (.int .u64 (r:Int))) g j (k+1) s0 (s.set (j+k) r):=by
 refine⟨by simp[h.len],zcr h.lt _ _ hr,?_,?_,zeJ h.gr _ _⟩
 ·intro i hi;rw[getD_set_ne _ _ _ _ (by omega)];exact h.far i (by omega)
 ·have:=h.blk.set_ (j+k) (.int .u64 (r:Int));rw[zbj]at this;exact this
theorem Win.refl {w:World} {g j:Nat} {s0:List Nat} (hb:Blk w g 50 (ints .u64 s0)) (hl:∀x∈s0,x<B64) (n:Nat):Win w w g j n s0 s0:=⟨rfl,hl,fun _ _=>rfl,hb,World.grownBy.refl _ _⟩
theorem Win.trans {w w1 w2:World} {g j n:Nat} {s0 s1 s2:List Nat} (h:Win w w1 g j n s0 s1) (k:Win w1 w2 g j n s1 s2):Win w w2 g j n s0 s2:=
 ⟨k.len.trans h.len,k.lt,fun i hi=>(k.far i hi).trans (h.far i hi),k.blk,⟨k.gr.os.trans h.gr.os,k.gr.tape.trans h.gr.tape,k.gr.output.trans h.gr.output,Nat.le_trans h.gr.size k.gr.size,fun i hi hn=>(k.gr.block i (Nat.lt_of_lt_of_le hi h.gr.size) hn).trans (h.gr.block i hi hn)⟩⟩

theorem zeu {y t c:Nat} (hy:y<B64) (ht:t<B64) (hc:c<B64):y*t/B64+(y*t%B64+c)/B64<B64:=by
 have e:y*t/B64+(y*t%B64+c)/B64=(y*t+c)/B64:=by
  have h1:=Nat.div_add_mod (y*t) B64;have:y*t+c=(y*t%B64+c)+B64*(y*t/B64):=by omega
  rw[this,Nat.add_mul_div_left _ _ za4];omega
 rw[e,Nat.div_lt_iff_lt_mul za4];have h2:y*t<=(B64-1)*(B64-1):=Nat.mul_le_mul (by omega) (by omega);have h3:(B64-1)*(B64-1)+B64<=B64*B64:=by decide
 omega

structure OffInv (w wr:World) (g j k cy bw times:Nat) (v s0 s:List Nat):Prop where
 win:Win w wr g j k s0 s
 cyl:cy<B64
 bwl:bw<=1
 eq:valT B64 (s.drop j) k+times*valT B64 v k=valT B64 (s0.drop j) k+B64^k*(cy+bw)
theorem OffInv.drewN {w wr:World} {g j k cy bw times:Nat} {v s0 s:List Nat} (h:OffInv w wr g j k cy bw times v s0 s) (q:Nat):OffInv w (wr.drewN q) g j k cy bw times v s0 s:=⟨h.win.drewN q,h.cyl,h.bwl,h.eq⟩
theorem OffInv.next {w wr:World} {g j k cy bw times y lo r c:Nat} {v s0 s:List Nat} (h:OffInv w wr g j k cy bw times v s0 s) (hk:j+k<s0.length) (hv:∀x∈v,x<B64) (ht:times<B64)
 (hy:y=nth v k) (hlo:lo=(y*times%B64+cy)%B64) (hc:c=(y*times%B64+cy)/B64) (hr:r=(nth s (j+k)+B64-lo-bw)%B64):
 OffInv w (wr.setCell ⟨g,j+k,none⟩ (.int .u64 (r:Int))) g j (k+1) (y*times/B64+c) (if nth s (j+k)<lo+bw then 1 else 0) times v s0 (s.set (j+k) r):=by
 have hyl:y<B64:=by rw[hy];exact zak za4 hv k
 have hll:lo<B64:=by rw[hlo];exact Nat.mod_lt _ za4
 have hrl:r<B64:=by rw[hr];exact Nat.mod_lt _ za4
 have hs:=zeO (zak za4 h.win.lt (j+k)) hll h.bwl;rw[<-hr]at hs;refine⟨h.win.set_ hrl,by rw[hc];exact zeu hyl ht h.cyl,by split<;>omega,?_⟩;rw[zaj,zaj,zaj,zcb,zaS,zaq _ _ _ (by rw[h.win.len];exact hk),zaS,<-hy,Nat.pow_succ];rw[h.win.far (j+k) (.inr (Nat.le_refl _))]at hs⊢;refine zjE (lo:=y*times%B64) (lo':=lo) h.eq ?_ ?_ hs
 ·have:=Nat.div_add_mod (y*times) B64;rw[Nat.mul_comm];omega
 ·have:=Nat.div_add_mod (y*times%B64+cy) B64;rw[hc,hlo,Nat.mul_comm];omega
theorem OffInv.last {w wr:World} {g j k cy bw times r:Nat} {v s0 s:List Nat} (h:OffInv w wr g j k cy bw times v s0 s) (hk:j+k<s0.length) (hr:r=(nth s (j+k)+B64-cy-bw)%B64) (hn:k=v.length):
 Win w (wr.setCell ⟨g,j+k,none⟩ (.int .u64 (r:Int))) g j (k+1) s0 (s.set (j+k) r)/\
 valT B64 ((s.set (j+k) r).drop j) (k+1)+times*val B64 v=valT B64 (s0.drop j) (k+1)+B64^(k+1)*(if nth s (j+k)<cy+bw then 1 else 0):=by
 have hrl:r<B64:=by rw[hr];exact Nat.mod_lt _ za4
 have hs:=zeO (zak za4 h.win.lt (j+k)) h.cyl h.bwl;rw[<-hr]at hs;refine⟨h.win.set_ hrl,?_⟩;have he:=h.eq;rw[zaj,zaj,zcb,zaS,zaq _ _ _ (by rw[h.win.len];exact hk),zaS,Nat.pow_succ];rw[h.win.far (j+k) (.inr (Nat.le_refl _))]at hs⊢;rw[hn,zaD,<-hn]at he;generalize B64^k=p at*;generalize (if nth s0 (j+k)<cy+bw then 1 else 0)=b' at*;have e1:p*(r+(cy+bw))=p*(nth s0 (j+k)+B64*b'):=by rw[hs]
 generalize nth s0 (j+k)=x at*;generalize B64=b at*;grind

structure BackInv (w wr:World) (g j k cy:Nat) (v s0 s:List Nat):Prop where
 win:Win w wr g j k s0 s
 cyl:cy<=1
 eq:valT B64 (s.drop j) k+B64^k*cy=valT B64 (s0.drop j) k+valT B64 v k
theorem BackInv.drewN {w wr:World} {g j k cy:Nat} {v s0 s:List Nat} (h:BackInv w wr g j k cy v s0 s) (q:Nat):BackInv w (wr.drewN q) g j k cy v s0 s:=⟨h.win.drewN q,h.cyl,h.eq⟩
theorem BackInv.next {w wr:World} {g j k cy y:Nat} {v s0 s:List Nat} (h:BackInv w wr g j k cy v s0 s) (hk:j+k<s0.length) (hyl:y<B64) (v':List Nat) (hy:valT B64 v' (k+1)=valT B64 v k+B64^k*y):
 BackInv w (wr.setCell ⟨g,j+k,none⟩ (.int .u64 (((nth s (j+k)+y+cy)%B64:Nat):Int))) g j (k+1) ((nth s (j+k)+y+cy)/B64) v' s0 (s.set (j+k) ((nth s (j+k)+y+cy)%B64)):=by
 have hx:=zak za4 h.win.lt (j+k);refine⟨h.win.set_ (Nat.mod_lt _ za4),?_,?_⟩
 ·have:=h.cyl;rw[Nat.div_le_iff_le_mul_add_pred za4];omega
 ·rw[zaj,hy,zaj,zcb,zaS,zaq _ _ _ (by rw[h.win.len];exact hk),zaS,<-h.win.far (j+k) (.inr (Nat.le_refl _))];exact zgi h.eq

def zmR (w:World) (g j n times:Nat) (v s0:List Nat) (e:Ending) (w':World):Prop:=
 ∃(bw:Nat) (s:List Nat),e=.returned (.int .u64 (bw:Int))/\bw<=1/\Win w w' g j (n+1) s0 s/\valT B64 (s.drop j) (n+1)+times*val B64 v=valT B64 (s0.drop j) (n+1)+B64^(n+1)*bw
def zlJ (w:World) (g j n:Nat) (v s0:List Nat) (e:Ending) (w':World):Prop:=
 ∃(cy:Nat) (s:List Nat),e=.returned (.int .u64 (cy:Int))/\cy<=1/\Win w w' g j (n+1) s0 s/\valT B64 (s.drop j) (n+1)+B64^(n+1)*cy=valT B64 (s0.drop j) (n+1)+val B64 v

set_option maxRecDepth 100000 in
theorem zfP (w:World) (g j n cu d times:Nat) (B:Option Addr) (s0 v:List Nat) (hn:n=v.length) (hj:j+n<s0.length) (hl:s0.length<=17592186044416) (hblk:Blk w g 50 (ints .u64 s0)) (hv:Rd w .u64 B v)
 (hne:∀i,i<v.length->(adr B i).block≠g) (hx:∀x∈s0,x<B64) (hy:∀x∈v,x<B64) (ht:times<B64):
 Calls Tryz.prog 241 #[.slice (some ⟨g,j,none⟩) (n+1) cu,.slice B n d,.int .u64 (times:Int)] w (zmR w g j n times v s0):=by
 have hsb:Sl B n:=by rw[hn];exact hv.sl
 have h1:=zaA;have Hblk:=znd hblk;have Hv:=znd hv;have Hx:=znd hx;have Hy:=znd hy;have Hne:=znd hne;have Hn:=znd hn;have Ht:=znd ht;clear hblk hv hx hy hne hn ht;go_enter Tryz.func241,Tryz.ntmps241;go_wp2_with fail;go_loopw [8,9,17] (fun cv bv i wr=>∃(k cy bw:Nat) (s:List Nat),k<=n/\bw<=1/\cv=.int .u64 cy/\bv=.int .u64 bw/\i=.int .i64 k/\OffInv w wr g j k cy bw times v s0 s) (fun _ _ i _=>n-(intOf i).toNat)
 case atStart=>exact⟨0,0,0,s0,Nat.zero_le _,Nat.zero_le _,rfl,rfl,rfl,Win.refl Hblk.out Hx.out 0,za4,Nat.zero_le _,by simp[valT]⟩
 case round=>
  obtain⟨k,cy,bw,s,hk,hbw,rfl,rfl,rfl,hI⟩:=hrel;by_cases hlt:k<n
  ·have hcell:=hI.win.blk.cell (j+k);rw[zaC .u64 s (j+k) (by rw[hI.win.len];omega)]at hcell;have hfz:=hI.win.blk.frozen (j+k);have hcb:=(Hv.out.only hI.win.gr Hne.out).cell k (by have:=Hn.out;omega);have hyk:=zak za4 Hy.out k;have Hmul:=znd (zdH (nth v k) times hyk Ht.out);have hq:(if nth s (j+k)<(nth v k*times%B64+cy)%B64+bw then 1 else 0)<=1:=by split<;>omega
   have hN:=znd (hI.next (by omega) Hy.out Ht.out rfl rfl rfl rfl);have hcar:=wrap_u64 (nth v k*times/B64) ((nth v k*times%B64+cy)/B64) (zeu hyk Ht.out hI.cyl);have hsub:=zcl (nth s (j+k)) ((nth v k*times%B64+cy)%B64) bw hbw;have hadd:=zcI (nth v k*times%B64) cy;clear hI hyk;generalize (nth s (j+k)+B64-(nth v k*times%B64+cy)%B64-bw)%B64=r at*;generalize (if nth s (j+k)<(nth v k*times%B64+cy)%B64+bw then 1 else 0)=q at*;generalize nth s (j+k)=x at*;generalize nth v k*times/B64+(nth v k*times%B64+cy)/B64=c1 at*;generalize (nth v k*times%B64+cy)/B64=c0 at*;generalize (nth v k*times%B64+cy)%B64=lo at*;generalize nth v k*times/B64=hi at*;generalize nth v k*times%B64=l0 at*;generalize nth v k=y at*;go_wp2_with fail;refine(Hmul.out _).mono ?_;rintro e w' ⟨rfl,rfl⟩;go_wp2_with fail;go_roundw
   case rel=>exact⟨k+1,c1,q,s.set (j+k) r,by omega,hq,rfl,rfl,by go_num,hN.out⟩
   case measure=>simp[intOf];omega
  ·obtain rfl:k=n:=by omega
   have hcell:=hI.win.blk.cell (j+k);rw[zaC .u64 s (j+k) (by rw[hI.win.len];omega)]at hcell;have hfz:=hI.win.blk.frozen (j+k);have hq:(if nth s (j+k)<cy+bw then 1 else 0)<=1:=by split<;>omega
   have hN:=znd (hI.last hj rfl Hn.out);have hsub:=zcl (nth s (j+k)) cy bw hbw;clear hI;generalize (nth s (j+k)+B64-cy-bw)%B64=r at*;generalize (if nth s (j+k)<cy+bw then 1 else 0)=q at*;generalize nth s (j+k)=x at*;go_wp2_with fail;go_ret;exact⟨q,s.set (j+k) r,rfl,hq,hN.out.1,hN.out.2⟩

set_option maxRecDepth 100000 in
theorem zfC (w:World) (g j n cu d:Nat) (B:Option Addr) (s0 v:List Nat) (hn:n=v.length) (hj:j+n<s0.length) (hl:s0.length<=17592186044416) (hblk:Blk w g 50 (ints .u64 s0)) (hv:Rd w .u64 B v)
 (hne:∀i,i<v.length->(adr B i).block≠g) (hx:∀x∈s0,x<B64) (hy:∀x∈v,x<B64):
 Calls Tryz.prog 242 #[.slice (some ⟨g,j,none⟩) (n+1) cu,.slice B n d] w (zlJ w g j n v s0):=by
 have hsb:Sl B n:=by rw[hn];exact hv.sl
 have h1:=zaA;have Hblk:=znd hblk;have Hv:=znd hv;have Hx:=znd hx;have Hy:=znd hy;have Hne:=znd hne;have Hn:=znd hn;clear hblk hv hx hy hne hn;go_enter Tryz.func242,Tryz.ntmps242;go_wp2_with fail;go_loopw [6,11] (fun cv i wr=>∃(k cy:Nat) (s:List Nat),k<=n/\cy<=1/\cv=.int .u64 cy/\i=.int .i64 k/\BackInv w wr g j k cy v s0 s) (fun _ i _=>n-(intOf i).toNat)
 case atStart=>exact⟨0,0,s0,Nat.zero_le _,Nat.zero_le _,rfl,rfl,Win.refl Hblk.out Hx.out 0,Nat.zero_le _,by simp[valT]⟩
 case round=>
  obtain⟨k,cy,s,hk,hcy,rfl,rfl,hI⟩:=hrel;by_cases hlt:k<n
  ·have hcell:=hI.win.blk.cell (j+k);rw[zaC .u64 s (j+k) (by rw[hI.win.len];omega)]at hcell;have hfz:=hI.win.blk.frozen (j+k);have hcb:=(Hv.out.only hI.win.gr Hne.out).cell k (by have:=Hn.out;omega);have hyk:=zak za4 Hy.out k;have i1:(0:Int)<=(k:Int):=by omega
   have i2:(k:Int)<((n+1:Nat):Int):=by omega
   have i3:(k:Int)<(n:Int):=by omega
   have i4:(k:Int)<(n:Int)+1:=by omega
   have hN:=znd (fun q=>(hI.drewN q).next (by omega) hyk v (zaj _ _ _));have hq:(nth s (j+k)+nth v k+cy)/B64<=1:=(hI.next (by omega) hyk v (zaj _ _ _)).cyl;have hadd:=zbO (nth s (j+k)) (nth v k) cy hcy;clear hI hyk;generalize (nth s (j+k)+nth v k+cy)%B64=r at*;generalize (nth s (j+k)+nth v k+cy)/B64=q at*;generalize nth s (j+k)=x at*;generalize nth v k=y at*;go_wp2_with fail
   go_region_with (fail)
   all_goals
    go_wp2_with fail;go_roundw
    case rel=>exact⟨k+1,q,s.set (j+k) r,by omega,hq,rfl,by go_num,hN.out 1⟩
    case measure=>simp[intOf];omega
  ·obtain rfl:k=n:=by omega
   have hcell:=hI.win.blk.cell (j+k);rw[zaC .u64 s (j+k) (by rw[hI.win.len];omega)]at hcell;have hfz:=hI.win.blk.frozen (j+k)
   have hN:=znd (hI.next (y:=0) (by omega) za4 (v++[0]) (by
    rw[zaj,Nat.mul_zero];congr 1
    ·exact zbq _ _ _ _ fun i hi=>by simp[nth,List.getD,List.getElem?_append,show i<v.length by have:=Hn.out;omega]
    ·have:=Hn.out;simp[nth,List.getD,List.getElem?_append,show¬k<v.length by omega,show k-v.length=0 by omega]))
   have Hv2:=znd (show valT B64 (v++[0]) (k+1)=val B64 v by
    rw[show k+1=(v++[0]).length by simp;exact Hn.out,zaD,zbA];simp[val])
   have hadd:=zbO (nth s (j+k)) 0 cy hcy;clear hI;have e0:((0:Nat):Int)=0:=rfl;rw[e0]at hadd;clear e0;generalize (nth s (j+k)+0+cy)%B64=r at*;generalize (nth s (j+k)+0+cy)/B64=q at*;generalize nth s (j+k)=x at*;go_wp2_with fail;go_ret;exact⟨q,s.set (j+k) r,rfl,hN.out.cyl,hN.out.win,by rw[hN.out.eq,Hv2.out]⟩
end Go.Proofs.YtegfiemlnnpidaaGreatDoor
