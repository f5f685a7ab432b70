/-
 limbs: long, DivMod. limbs: DivMod of any two numbers; TrailingZeros64, twos. limbs: halving, Gcd. limbs: Gcd.
-/
import Derived.Test.YtegfiemlnnpidaaGreatDoorDig
import Derived.Test.YtegfiemlnnpidaaGreatDoorShf
import Derived.Test.YtegfiemlnnpidaaGreatDoorLimF
import Derived.Test.YtegfiemlnnpidaaGreatDoorVal
import Derived.Shelf.Spec.TrailingZeros
namespace Go.Proofs.YtegfiemlnnpidaaGreatDoor
set_option maxHeartbeats 2000000
open Go.RowKit

structure LongM (A V j:Nat) (q u:List Nat):Prop where
 ql:∀x∈q,x<B64
 ul:∀x∈u,x<B64
 top:val B64 (u.drop j)<V
 eq:val B64 q*V+val B64 u=A
 zero:∀i,i<j->nth q i=0
theorem zc0 (u:List Nat) (j k:Nat) (h:j+k<=u.length):val B64 (u.drop j)=valT B64 (u.drop j) k+B64^k*val B64 (u.drop (j+k)):=by
 have e:u.drop j=(u.drop j).take k++u.drop (j+k):=by
  conv=>lhs;rw[<-List.take_append_drop k (u.drop j)]
  rw[List.drop_drop]
 rw[zbf _ _ _ (by simp;omega)]
 conv=>lhs;rw[e]
 rw[zbA];congr 3;simp;omega
theorem zdP (u:List Nat) (j:Nat) (h:j<=u.length):val B64 u=valT B64 u j+B64^j*val B64 (u.drop j):=by
 have:=zc0 u 0 j (by omega);simpa using this
theorem LongM.next {A V j n:Nat} {q u u':List Nat} (h:LongM A V (j+1) q u) (hV:V<B64^n) (hj:j+n+1<=u.length) (hq:j<q.length) (hlen:u'.length=u.length) (hul:∀x∈u',x<B64)
 (hfar:∀i,i<j\/j+(n+1)<=i->nth u' i=nth u i) (hval:valT B64 (u'.drop j) (n+1)=valT B64 (u.drop j) (n+1)%V) (hlt:valT B64 (u.drop j) (n+1)/V<B64):
 LongM A V j (q.set j (valT B64 (u.drop j) (n+1)/V)) u':=by
 have hVp:0<V:=by have:=h.top;omega
 have hz:val B64 (u.drop (j+(n+1)))=0:=by
  have h1:=zc0 u (j+1) n (by omega);rcases Nat.eq_zero_or_pos (val B64 (u.drop (j+1+n)))with h2|h2
  ·rw[show j+(n+1)=j+1+n by omega];exact h2
  ·have h3:B64^n*1<=B64^n*val B64 (u.drop (j+1+n)):=Nat.mul_le_mul_left _ h2;have h4:=h.top;omega
 have hz':val B64 (u'.drop (j+(n+1)))=0:=by
  rw[<-hz,<-zaD,<-zaD];rw[show(u'.drop (j+(n+1))).length=(u.drop (j+(n+1))).length by simp[hlen]];exact zbq _ _ _ _ fun i _=>by rw[zaS,zaS];exact hfar _ (by omega)
 have w1:=zc0 u j (n+1) (by omega);have w2:=zc0 u' j (n+1) (by omega);rw[hz,Nat.mul_zero,Nat.add_zero]at w1;rw[hz',Nat.mul_zero,Nat.add_zero,hval]at w2;have l1:=zdP u j (by omega);have l2:=zdP u' j (by omega);have lo:valT B64 u' j=valT B64 u j:=zbq _ _ _ _ fun i hi=>hfar i (.inl hi);refine⟨zcr h.ql _ _ hlt,hul,by rw[w2];exact Nat.mod_lt _ hVp,?_,fun i hi=>by rw[getD_set_ne _ _ _ _ (by omega)];exact h.zero i (by omega)⟩;have q1:=zdP q j (by omega);have q2:=zdP (q.set j (valT B64 (u.drop j) (n+1)/V)) j (by simp;omega);rw[zcO hq,h.zero j (by omega),Nat.zero_add]at q1;rw[zdm hq,zbx _ _ _ _ _ (Nat.le_refl _)]at q2;have he:=h.eq;have hd:=Nat.div_add_mod (valT B64 (u.drop j) (n+1)) V;rw[q2,l2,lo,w2];rw[q1,l1,w1]at he;generalize valT B64 (u.drop j) (n+1)%V=r at*;generalize valT B64 (u.drop j) (n+1)/V=d at*;generalize valT B64 (u.drop j) (n+1)=U at*;generalize valT B64 q j=a at*;generalize val B64 (q.drop (j+1))=b at*;generalize valT B64 u j=c at*;generalize B64^j=p at*;rw[<-he,<-hd];generalize B64=B at*;clear he hd w1 w2 l1 l2 lo q1 q2 hz hz' hval hfar hlen hul hlt hV hVp h hj hq;grind
theorem LongM.done {a b s:Nat} {q u:List Nat} (h:LongM (a*2^s) (b*2^s) 0 q u):val B64 q=a/b/\val B64 u/2^s=a%b:=by
 have hp:0<2^s:=Nat.two_pow_pos s;have ht:=h.top;rw[List.drop_zero]at ht;have hb:0<b:=by
  rcases Nat.eq_zero_or_pos b with e|e
  ·rw[e,Nat.zero_mul]at ht;omega
  ·exact e
 have h1:val B64 q=a*2^s/(b*2^s):=by
  rw[<-h.eq,Nat.mul_comm,Nat.mul_add_div (Nat.mul_pos hb hp),Nat.div_eq_of_lt ht,Nat.add_zero]
 have h2:val B64 u=a*2^s%(b*2^s):=by
  rw[<-h.eq,Nat.mul_comm,Nat.mul_add_mod,Nat.mod_eq_of_lt ht]
 rw[h1,h2,Nat.mul_div_mul_right _ _ hp,Nat.mul_mod_mul_right,Nat.mul_div_cancel _ hp];exact⟨rfl,rfl⟩
theorem zgY {l:List Nat} (h:Tidy l) (hl:l≠[]):nth l (l.length-1)≠0:=by
 rcases h with h|⟨x,hx,h0⟩
 ·exact absurd h hl
 ·rw[List.getLast?_eq_getElem?]at hx;simp[nth,List.getD,hx,h0]
theorem ze5 {n k:Nat} (h1:B64^k<=n) (h2:n<B64^(k+1)):(digs B64 n).length=k+1:=by
 have hlt:=zdo (zbi (b:=B64) (by decide) n);rw[zar (by decide)]at hlt;have h3:B64^k<B64^(digs B64 n).length:=Nat.lt_of_le_of_lt h1 hlt;have h4:=(Nat.pow_lt_pow_iff_right (show 1<B64 by decide)).1 h3;have hne:digs B64 n≠[]:=fun e=>by rw[e]at h4;simp at h4
 have h5:=zcB (b:=B64) (by decide) (digs_tidy (by decide) n) hne;rw[zar (by decide)]at h5;have h6:=(Nat.pow_lt_pow_iff_right (show 1<B64 by decide)).1 (Nat.lt_of_le_of_lt h5 h2);omega
theorem zjF {m:List Nat} {n s:Nat} (hy:∀x∈m,x<B64) (hn:n+1=m.length) (htop:0<nth m n) (hs:s=64-Lib.bitLen (nth m n)):
 s<=63/\B64^n*2^63<=val B64 m*2^s/\val B64 m*2^s<B64^(n+1)/\(digs B64 (val B64 m*2^s)).length=n+1:=by
 obtain⟨b1,b2,b3,b4⟩:=zc5 (nth m n) htop (zak za4 hy n);obtain⟨r,hr,e⟩:=top1 za4 hy n;rw[hn,zaD]at e;have p1:2^(Lib.bitLen (nth m n)-1)*2^s=2^63:=by rw[<-Nat.pow_add];congr 1;omega
 have p2:2^Lib.bitLen (nth m n)*2^s=B64:=by rw[<-Nat.pow_add,show Lib.bitLen (nth m n)+s=64 by omega];rfl
 have q1:B64^n*2^63<=val B64 m*2^s:=by
  rw[e,<-p1,Nat.add_mul];have h1:2^(Lib.bitLen (nth m n)-1)*2^s<=nth m n*2^s:=Nat.mul_le_mul_right _ b3;have h2:B64^n*(2^(Lib.bitLen (nth m n)-1)*2^s)<=B64^n*(nth m n*2^s):=Nat.mul_le_mul_left _ h1;have h3:B64^n*(nth m n*2^s)=nth m n*B64^n*2^s:=by rw[<-Nat.mul_assoc,Nat.mul_comm (B64^n)]
  omega
 have q2:val B64 m*2^s<B64^(n+1):=by
  have h1:val B64 m<(nth m n+1)*B64^n:=by rw[e,Nat.add_one_mul];omega
  have h2:(nth m n+1)*B64^n<=2^Lib.bitLen (nth m n)*B64^n:=Nat.mul_le_mul_right _ b4;have h3:val B64 m*2^s<2^Lib.bitLen (nth m n)*B64^n*2^s:=Nat.mul_lt_mul_of_pos_right (by omega) (Nat.two_pow_pos _);have h4:2^Lib.bitLen (nth m n)*B64^n*2^s=B64^(n+1):=by rw[Nat.mul_right_comm,p2,Nat.pow_succ,Nat.mul_comm]
  omega
 refine⟨by omega,q1,q2,ze5 (Nat.le_trans ?_ q1) q2⟩;exact Nat.le_mul_of_pos_right _ (Nat.two_pow_pos _)
theorem LongM.start {a V s L n M:Nat} {u:List Nat} (hs:s<=63) (ha:a<B64^L) (hV:B64^n*2^63<=V) (hM:M+n=L) (hu:val B64 u=a*2^s) (hul:∀x∈u,x<B64) (hlen:u.length=L+1):
 LongM (a*2^s) V M (List.replicate M 0) u:=by
 refine⟨fun x hx=>by rw[(List.mem_replicate.1 hx).2];exact za4,hul,?_,by rw[zbd,Nat.zero_mul,Nat.zero_add,hu],fun i _=>zbz _ _⟩;rw[zdl _ hul _ (by omega),hu,Nat.div_lt_iff_lt_mul (Nat.pow_pos za4)];have h1:a*2^s<B64^L*2^s:=Nat.mul_lt_mul_of_pos_right ha (Nat.two_pow_pos _);have h2:B64^L*2^s<=B64^L*2^63:=Nat.mul_le_mul_left _ (Nat.pow_le_pow_right (by decide) hs);have h3:B64^n*2^63*B64^M<=V*B64^M:=Nat.mul_le_mul_right _ hV;have h4:B64^n*2^63*B64^M=B64^L*2^63:=by rw[Nat.mul_right_comm,<-Nat.pow_add,show n+M=L by omega]
 omega
theorem LongM.fits {A V j n:Nat} {q u:List Nat} (h:LongM A V (j+1) q u) (hj:j+n+1<=u.length):valT B64 (u.drop j) (n+1)<V*B64:=by
 have h1:=zc0 u j (n+1) (by omega);have h2:=zcO (b:=B64) (l:=u) (k:=j) (by omega);have h3:=h.top;have h4:=zak za4 h.ul j;have h5:B64*(val B64 (u.drop (j+1))+1)<=B64*V:=Nat.mul_le_mul_left _ h3;rw[Nat.mul_add,Nat.mul_one]at h5;rw[Nat.mul_comm V];omega
structure LongW (w wr:World) (gu gq:Nat) (B:Option Addr) (v q u:List Nat):Prop where
 bu:Blk wr gu 50 (ints .u64 u)
 bq:Blk wr gq 50 (ints .u64 q)
 rv:Rd wr .u64 B v
 below:Below w.heap.size w wr
theorem LongW.next {w wr w2:World} {gu gq j n d:Nat} {B:Option Addr} {v q u u':List Nat} (h:LongW w wr gu gq B v q u) (hW:Win wr w2 gu j (n+1) u u') (hu:w.heap.size<=gu) (hq:w.heap.size<=gq) (hne:gu≠gq)
 (hv:∀i,i<v.length->(adr B i).block≠gu/\(adr B i).block≠gq):LongW w (w2.setCell ⟨gq,j,none⟩ (.int .u64 (d:Int))) gu gq B v (q.set j d) u':=by
 have b1:Blk w2 gq 50 (ints .u64 q):=(hW.gr.block gq h.bq.lt (fun e=>hne (by injection e with e;exact e.symm))).trans h.bq;have b2:=b1.set_ j (.int .u64 (d:Int));rw[zbj]at b2;refine⟨hW.blk.far (by exact hne) _,b2,?_,(Below.of_only h.below hW.gr hu).setCell hq _⟩;have r1:=h.rv.only hW.gr (fun i hi=>(hv i hi).1);exact⟨r1.sl,fun i hi=>by rw[World.cell?_setCell_other _ _ _ _ (fun e=>(hv i hi).2 (by rw[<-e]))];exact r1.cell i hi⟩

set_option maxRecDepth 100000 in
theorem zkL (w:World) (A B:Option Addr) (c d:Nat) (l m:List Nat) (hl:l.length<=900000000000) (hm2:2<=m.length) (hml:m.length<=l.length) (ha:Rd w .u64 A l) (hb:Rd w .u64 B m)
 (hx:∀x∈l,x<B64) (hy:∀x∈m,x<B64) (htop:0<nth m (m.length-1)):
 Calls Tryz.prog 202 #[.slice A l.length c,.slice B m.length d] w (zh2 (digs B64 (val B64 l/val B64 m)) (digs B64 (val B64 l%val B64 m)) w):=by
 obtain⟨n,hn⟩:∃n,n+1=m.length:=⟨m.length-1,by omega⟩;have en:m.length-1=n:=by omega
 rw[en]at htop;obtain⟨s,hs⟩:∃s,s=64-Lib.bitLen (nth m n):=⟨_,rfl⟩;obtain⟨t1,t2,t3,t4⟩:=zjF hy hn htop hs;obtain⟨b1,b2,-,-⟩:=zc5 (nth m n) htop (zak za4 hy n);have es:(64:Int)-(Lib.bitLen (nth m n):Int)=(s:Int):=by omega
 have hcb:=hb.cell n (by omega);have hsb:=hb.sl;have h1:=zaA;have hyn:=zak za4 hy n;have Hlz:=znd (Tryz.bits_LeadingZeros64 (nth m n:Nat) w (by omega) (by simp only[B64]at hyn;omega));rw[Int.toNat_natCast,es]at Hlz;have Hup1:=znd (zi9 w B d s m (by omega) (by omega) hb hy);obtain⟨L,hL⟩:∃L,L=l.length:=⟨_,rfl⟩;have hup2:∀W,Rd W .u64 A l->Calls Tryz.prog 230 #[.slice A L c,.int .i64 (s:Int)] W (RetL .u64 (digs B64 (val B64 l*2^s)) W):=fun W hr=>by
  rw[hL];exact zi9 W A c s l (by omega) (by omega) hr hx
 have Hup2:=znd hup2;clear hup2;have Hav:=znd (zdo hx);have Ha:=znd ha;have T2:=znd t2;have T4:=znd t4;have T3:=znd t3;have hn1:1<=n:=by omega
 have i1:(0:Int)<=(n:Int)+1-1:=by omega
 have i2:(n:Int)+1-1=(n:Int):=by omega
 clear ha hb hx hy t2 t3 t4 hs b1 b2 es htop hyn en;have hlN:L<=900000000000:=by omega
 have hnL:n+1<=L:=by omega
 obtain⟨M,hM⟩:∃M,M+n=L:=⟨L-n,by omega⟩;have hM1:(L:Int)+1-((n:Int)+1)=(M:Int):=by omega
 have HM:=znd hM;clear hM;rw[<-hn]at*;rw[<-hL]at*;clear hm2 hml hl hn hL;have hmk1:=fun W=>run_make_row' (P:=Tryz.prog) 51 50 (.int .u64 0) 8 Tryz.underlying51 zcc rfl .i64 .i64 (L+1) (by omega) (by omega) W;simp only[Int.natCast_add,Int.cast_ofNat_Int]at hmk1;have hmk2:=fun W=>run_make_row' (P:=Tryz.prog) 51 50 (.int .u64 0) 8 Tryz.underlying51 zcc rfl .i64 .i64 M (by have:=HM.out;omega) (by have:=HM.out;omega) W;go_enter Tryz.func202,Tryz.ntmps202;go_wp2_with fail;refine Hlz.out.mono ?_;clear Hlz;rintro e w' ⟨rfl,hw⟩;have hw2:=hw.symm;subst hw2;clear hw;go_wp2_with fail;refine Hup1.out.mono ?_;clear Hup1;rintro e w1 ⟨Bv,cv,rfl,hcv,hrv,hbv,hfv⟩;have Hrv:=znd hrv;have Hbv:=znd hbv;have Hfv:=znd hfv;clear hrv hbv hfv hcv;rw[T4.out];go_wp2_with fail;refine Calls.mono (Hup2.out _ ((Ha.out.below Hbv.out (Nat.le_refl _)).alloc _)) ?_;clear Hup2;rintro e w2 ⟨Au,cu,rfl,hcu,hru,hbu,hfu⟩;have hz1:w.heap.size<=w1.heap.size:=Hbv.out.size;have hz2:w1.heap.size+1<=w2.heap.size:=by have:=hbu.size;simpa using this
 have hul2:(digs B64 (val B64 l*2^s)).length<=L+1:=zbG (by
  have h5:=Hav.out;have h6:val B64 l*2^s<B64^L*2^s:=Nat.mul_lt_mul_of_pos_right h5 (Nat.two_pow_pos _);have h7:B64^L*2^s<=B64^L*B64:=Nat.mul_le_mul_left _ (show 2^s<=2^64 from Nat.pow_le_pow_right (by decide) (by omega));rw[Nat.pow_succ];omega)
 obtain⟨w3,hcp,hb3,hg3⟩:=zd3 (P:=Tryz.prog) w2 51 51 3 50 50 w1.heap.size (L+1) (L+1) cu (digs B64 (val B64 l*2^s)).length Au .u64 (List.replicate (L+1) 0) (digs B64 (val B64 l*2^s))
  Tryz.underlying51 (by kernel_rfl) (by rw[<-zbE];exact(Blk.new w1 _ _).below hbu (by simp)) (by simp) hru (by omega)
 rw[List.take_length]at hb3;have hz3:w2.heap.size<=w3.heap.size:=hg3.size;obtain⟨u0,hu0⟩:∃u0,u0=digs B64 (val B64 l*2^s)++List.drop (digs B64 (val B64 l*2^s)).length (List.replicate (L+1) 0):=⟨_,rfl⟩;have hu1:u0.length=L+1:=by rw[hu0];simp;omega
 have hu2:val B64 u0=val B64 l*2^s:=by rw[hu0,zbA,List.drop_replicate,zbd,Nat.mul_zero,Nat.add_zero,zar (by decide)]
 have hu3:∀x∈u0,x<B64:=by
  rw[hu0];intro x hxx;rcases List.mem_append.1 hxx with h|h
  ·exact zbi (by decide) _ x h
  ·rw[(List.mem_replicate.1 (List.mem_of_mem_drop h)).2];exact za4
 rw[<-hu0]at hb3;have HM0:=znd (LongM.start (M:=M) t1 Hav.out T2.out HM.out hu2 hu3 hu1);have hvl:∀x∈digs B64 (val B64 m*2^s),x<B64:=zbi (by decide) _;have hV:val B64 (digs B64 (val B64 m*2^s))=val B64 m*2^s:=zar (by decide) _;have hVt:0<nth (digs B64 (val B64 m*2^s)) n:=by
  have:=zgY (digs_tidy (b:=B64) (by decide) (val B64 m*2^s)) (fun e=>by have:=T4.out;rw[e]at this;simp at this);rw[T4.out,Nat.add_sub_cancel]at this;omega
 have hfvl:∀i,i<(digs B64 (val B64 m*2^s)).length->(adr Bv i).block<w1.heap.size:=fun i hi=>Hrv.out.lt i hi
 have HW0:=znd (show LongW w (w3.alloc (.cells (madeCells #[.int .u64 0] M) 50)) w1.heap.size w3.heap.size Bv (digs B64 (val B64 m*2^s)) (List.replicate M 0) u0 from by
  refine⟨hb3.alloc _,?_,?_,?_⟩
  ·rw[<-zbE];exact Blk.new _ _ _
  ·exact(((Hrv.out.alloc _).below hbu (Nat.le_refl _)).only hg3 (fun i hi=>by have:=hfvl i hi;omega)).alloc _
  ·have b1:Below w.heap.size w w2:=(Hbv.out.alloc hz1 _).trans (hbu.mono (by simp;omega));exact(Below.of_only b1 hg3 hz1).alloc (by omega) _)
 have Hne:=znd (show w1.heap.size≠w3.heap.size by omega);have Hvn:=znd (show∀i,i<(digs B64 (val B64 m*2^s)).length->(adr Bv i).block≠w1.heap.size/\(adr Bv i).block≠w3.heap.size from fun i hi=>by have:=hfvl i hi;omega);have Hvl:=znd hvl;have HV:=znd hV;have HVt:=znd hVt;have Hu1:=znd hu1;clear hb3 hu0 hu1 hu2 hu3 hvl hV hVt hfvl hru hbu hfu hg3 Hrv Hfv hul2;generalize digs B64 (val B64 m*2^s)=v at*;go_wp2_with fail;go_loopw [41] (fun i wr=>∃(k:Nat) (q u:List Nat),k<=M/\i=.int .i64 ((M-k:Nat):Int)/\q.length=M/\u.length=L+1/\Hid (LongM (val B64 l*2^s) (val B64 m*2^s) k q u)/\Hid (LongW w wr w1.heap.size w3.heap.size Bv v q u)) (fun i _=>M-(intOf i).toNat)
 case atStart=>exact⟨M,List.replicate M 0,u0,Nat.le_refl _,by simp,by simp,Hu1.out,HM0,HW0⟩
 case round=>
  clear HM0 HW0 Hu1;obtain⟨k,q,u,hk,rfl,hq,hu,hM,hW⟩:=hrel;rcases k with _|k
  ·obtain⟨d1,d2⟩:=hM.out.done;have Hfin:=znd (show trim q=digs B64 (val B64 l/val B64 m) by rw[zb5 (b:=B64) (by decide) hM.out.ql,d1]);have htd:=zbP wr (some ⟨w3.heap.size,0,none⟩) M q (by have:=HM.out;omega) (by omega) (Rd.of_blk hW.out.bq);have hrt:=(Rd.of_blk hW.out.bq).take (used q);have hsh:=zlQ wr (some ⟨w1.heap.size,0,none⟩) (L+1) s u (by omega) (by omega) (Rd.of_blk hW.out.bu) hM.out.ul;rw[hq]at htd;rw[hu,d2]at hsh;have Htd:=znd htd;have Hrt:=znd hrt;have Hsh:=znd hsh;have Hb2:=znd hW.out.below;clear htd hrt hsh hM hW d1 d2 hq hu;simp only[Nat.sub_zero];go_wp2_with fail;refine Htd.out.mono ?_;intro e w' hret;obtain⟨A',c',rfl,hc',hr',rfl⟩:=hret.rd Hrt.out;have HR:=znd hr';have HC:=znd hc';clear hr' hc' hret Htd Hrt;go_wp2_with fail;refine Hsh.out.mono ?_;rintro e w4 ⟨A4,c4,rfl,ho,hb4⟩;have HO:=znd ho;have Hb4:=znd hb4;clear ho hb4;go_wp2_with fail;go_ret2;rw[<-Hfin.out];have hob:OwnD w.heap.size w4 A4 (digs B64 (val B64 l%val B64 m)).length c4 (digs B64 (val B64 l%val B64 m)):=by
    obtain⟨g,hg,hi⟩:=HO.out;exact⟨g,Nat.le_trans Hb2.out.size hg,hi⟩
   exact⟨A',c',A4,c4,rfl,HC.out,hob.len,HR.out.1.below Hb4.out (Nat.le_refl _),hob.rd.1,Below.after Hb2.out Hb4.out,HR.out.2 _ (Fr.of_blk (by omega) _),hob.rd.2,hob⟩
  ·have HD:=znd (zj6 wr w1.heap.size k (n+1) (L+1-k) cv Bv u v T4.out.symm (by omega) (by have:=HM.out;omega) (by omega) hW.out.bu hW.out.rv (fun i hi=>(Hvn.out i hi).1) hM.out.ul Hvl.out HVt.out (by rw[HV.out];exact hM.out.fits (by have:=HM.out;omega)));have i1:(M:Int)-1-((M-(k+1):Nat):Int)=(k:Int):=by omega
   have i2:((M-(k+1):Nat):Int)<(M:Int):=by omega
   have i3:((M-(k+1):Nat):Int)+1=((M-k:Nat):Int):=by omega
   have hm:M-(M-k)<M-(M-(k+1)):=by omega
   have hkM:k<M:=by omega
   have i4:(k:Int)+((n:Int)+1)+1<=(L:Int)+1:=by have:=HM.out;omega
   have i5:(0:Int)<=(k:Int)+((n:Int)+1)+1:=by omega
   have i6:(k:Int)<=(k:Int)+((n:Int)+1)+1:=by omega
   generalize M-(k+1)=ii at*;have HM1:=znd hM.out;have HW1:=znd hW.out
   have hqlt:=znd (show valT B64 (u.drop k) (n+1+1)/val B64 v<B64 from by
    have h5:=hM.out.fits (n:=n+1) (by have:=HM.out;omega);rw[HV.out];exact(Nat.div_lt_iff_lt_mul (by rcases Nat.eq_zero_or_pos (val B64 m*2^s)with h|h;rw[h,Nat.zero_mul]at h5;omega;exact h)).2 (by rw[Nat.mul_comm];exact h5))
   clear hM hW;go_wp2_with fail;rw[show k+(n+1)+1-k=n+1+1 by omega];refine HD.out.mono ?_;clear HD;rintro e w4 ⟨u',rfl,hWn,hval⟩;rw[HV.out]at hval hqlt⊢;have hbq:=(hWn.gr.block w3.heap.size HW1.out.bq.lt (fun e=>Hne.out (by injection e with e;exact e.symm))).trans HW1.out.bq;have hcell:=Blk.cell (w:=w4) hbq k;rw[zaC .u64 q k (by omega)]at hcell;have hfz:=Blk.frozen (w:=w4) hbq k;have HMn:=znd (HM1.out.next (n:=n+1) T3.out (by have:=HM.out;omega) (by omega) hWn.len hWn.lt hWn.far hval hqlt.out);have HWn:=znd (fun dd=>HW1.out.next (d:=dd) hWn (by omega) (by omega) Hne.out Hvn.out);have Hul:=znd (show u'.length=L+1 by rw[hWn.len];exact hu);clear hbq hWn hval HM1 HW1 hqlt;generalize valT B64 (u.drop k) (n+1+1)/(val B64 m*2^s)=dd at*;generalize nth q k=qk at*;go_wp2_with fail;go_roundw
   case rel=>exact⟨k,q.set k dd,u',by omega,rfl,by simpa using hq,Hul.out,HMn,HWn.out dd⟩
   case measure=>simp[intOf];omega

set_option maxRecDepth 100000 in
theorem zfI (w:World) (A B:Option Addr) (c d:Nat) (l m:List Nat) (hl:l.length<=900000000000) (hm:m.length<=900000000000) (hlc:l.length<=c) (hmd:m.length<=d) (ha:Rd w .u64 A l) (hb:Rd w .u64 B m)
 (hx:∀x∈l,x<B64) (hy:∀x∈m,x<B64) (h2:2<=used m):
 Calls Tryz.prog 171 #[.slice A l.length c,.slice B m.length d] w (zh2 (digs B64 (val B64 l/val B64 m)) (digs B64 (val B64 l%val B64 m)) w):=by
 have hml:=zay m;have hll:=zay l;have hsa:=ha.sl;have hsb:=hb.sl;have hz:=zaA;have Ha:=znd ha;have Hb:=znd hb;have Hx:=znd hx;have Hy:=znd hy;have hum:=znd (zaK w B d m (by omega) hb);have q0:((used m:Int)==0)=false:=by simp;omega
 have q1:((used m:Int)==1)=false:=by simp;omega
 clear ha hb hx hy;go_enter Tryz.func171,Tryz.ntmps171;go_wp2_with fail;refine hum.out.mono ?_;rintro e w' ⟨rfl,rfl⟩;go_wp2_with fail;refine(zdO w A B c d l m (by omega) (by omega) Ha.out Hb.out Hx.out Hy.out).mono ?_;rintro e w' ⟨rfl,q,rfl⟩;by_cases hlt:val B64 l<val B64 m
 ·have hc:cmpN (val B64 l) (val B64 m)<0:=zbN.2 hlt
  have Hfin:Hid (digs B64 (val B64 l/val B64 m)=[]/\digs B64 (val B64 l%val B64 m)=trim l):=
   ⟨by rw[Nat.div_eq_of_lt hlt];rfl,by rw[Nat.mod_eq_of_lt hlt,zb5 (by decide) Hx.out]⟩
  clear hlt;generalize cmpN (val B64 l) (val B64 m)=z at*;go_wp2_with fail;refine((zcg _ A c l (by omega) (Ha.out.drewN q)).mono fun _ _ h=>h.own (by rw[za5];omega) (zbp Hx.out)).mono ?_;rintro e w1 ⟨A1,c1,rfl,ho1,hb1⟩;have hc1:=ho1.len;have hr1:=ho1.rd.1;have HF:=znd (And.intro ho1.rd.2 ho1);clear ho1;have HB:=znd hb1;have HR:=znd hr1;have HC:=znd hc1;clear hb1 hr1 hc1;go_wp2_with fail;go_ret2;rw[Hfin.out.1,Hfin.out.2];exact⟨none,0,A1,c1,rfl,Nat.le_refl _,HC.out,Rd.nil_ _ _,HR.out,(Below.drewN (Below.refl _ _) q).trans HB.out,Fr.none_ _ _,HF.out⟩
 ·have hc:¬cmpN (val B64 l) (val B64 m)<0:=fun h=>hlt (zbN.1 h);have hle:used m<=used l:=by
   rcases Nat.lt_or_ge (used l) (used m)with h|h
   ·have h5:=zaP (b:=B64) (by decide) (zbp Hx.out) (zbt m) (by rw[za5,za5];exact h);rw[zaz,zaz]at h5;exact absurd h5 hlt
   ·exact h
  have Htop:=znd (show 0<nth (trim m) ((trim m).length-1)from Nat.pos_of_ne_zero (zgY (zbt m) (fun e=>by have:=za5 m;rw[e]at this;simp at this;omega)));clear hlt;generalize cmpN (val B64 l) (val B64 m)=z at*;have hlo:=fun W (hW:∀a,W.cell? a=w.cell? a)=>zkL W A B c d (trim l) (trim m) (by rw[za5];omega) (by rw[za5];omega) (by rw[za5,za5];omega) ((Ha.out.keep fun p _=>hW p).take _) ((Hb.out.keep fun p _=>hW p).take _) (zbp Hx.out) (zbp Hy.out) Htop.out;have Hus:=znd (fun W (hW:∀a,W.cell? a=w.cell? a)=>zaK W A c l (by omega) (Ha.out.keep fun p _=>hW p));rw[za5,za5,zaz,zaz]at hlo;have Hlo:=znd hlo;clear hlo Htop;generalize used l=ul at*;generalize used m=um at*;go_wp2_with fail
  go_region_with (first|(go_at_call 155;refine(Hus.out _ (by exact fun _=>rfl)).mono ?_;rintro e w' ⟨rfl,rfl⟩)|(go_at_call 202;refine(Hlo.out _ (by exact fun _=>rfl)).mono ?_;rintro e w1 ⟨A1,c1,A2,c2,rfl,hh⟩;have HH:=znd hh;clear hh))
  all_goals
   go_wp2_with fail;go_ret2;obtain⟨g1,g2,g3,g4,g5,g6,g7⟩:=HH.out;exact⟨A1,c1,A2,c2,rfl,g1,g2,g3,g4,⟨g5.os,g5.tape,g5.output,g5.size,g5.block⟩,g6,g7⟩
theorem zdb (w:World) (A B:Option Addr) (c d:Nat) (l m:List Nat) (hl:l.length<=900000000000) (hm:m.length<=900000000000) (hlc:l.length<=c) (hmd:m.length<=d) (ha:Rd w .u64 A l) (hb:Rd w .u64 B m)
 (hx:∀x∈l,x<B64) (hy:∀x∈m,x<B64) (h0:val B64 m≠0):
 Calls Tryz.prog 171 #[.slice A l.length c,.slice B m.length d] w (zh2 (digs B64 (val B64 l/val B64 m)) (digs B64 (val B64 l%val B64 m)) w):=by
 have hu:used m≠0:=fun e=>h0 (zav e);by_cases h1:used m=1
 ·exact zhm w A B c d l m (by omega) (by omega) hlc ha hb hx hy h1
 ·exact zfI w A B c d l m hl hm hlc hmd ha hb hx hy (by omega)

def Tz (w:World):Prop:=TabAt 2 Lib.deBruijn64tab w
theorem Tz.keep {w w':World} (h:Tz w) (hk:w'.heap[(2:Nat)]?=w.heap[(2:Nat)]?):Tz w':=fun j hj=>(World.cell?_of_block hk).trans (h j hj)
theorem Tz.lt {w:World} (h:Tz w):2<w.heap.size:=World.block_lt_of_cell? w _ (h 0 (by decide))
theorem Tz.below {w w':World} (h:Tz w) (hb:Below w.heap.size w w'):Tz w':=h.keep (hb.block _ h.lt)
theorem Tz.drewN {w:World} (h:Tz w) (n:Nat):Tz (w.drewN n):=h
theorem Tz.alloc {w:World} (h:Tz w) (o:Obj):Tz (w.alloc o):=h.keep (Below.heap_alloc w o _ h.lt)
theorem Tz.ne {w:World} (h:Tz w) {g:Nat} {s:List Nat} (hB:Blk w g 50 (ints .u64 s)):2≠g:=fun e=>by
 have h1:=h 0 (by decide);rw[e,hB.cell 0]at h1
 cases s with
 |nil=>simp[ints]at h1
 |cons x xs=>simp[ints]at h1
theorem Tz.only {w w':World} (h:Tz w) {g:Nat} (ho:w.grownBy w' (some g)) (hne:2≠g):Tz w':=h.keep (ho.block _ h.lt (fun e=>hne (by injection e)))

theorem zl2 (x k idx:Nat) (w:World) (hx0:((x:Int)==0)=false)
 (key:IntKind.u64.wrap (bits BinOp.and IntKind.u64 (x:Int) (IntKind.u64.wrap (-(x:Int)))*285870213051353865)/288230376151711744=(idx:Int))
 (hi:idx<64) (hk:k<64) (hcell:w.cell? ⟨2,idx,none⟩=some (.int .u8 k)):
 Calls Tryz.prog 227 #[.int .u64 x] w fun e w'=>e=.returned (.int .i64 k)/\w=w':=by
 go_enter Tryz.func227,Tryz.ntmps227;go_wp2_with (simp only[key]);go_ret;exact⟨rfl,rfl⟩
theorem zmI (x:Nat) (w:World) (h0:x≠0) (hx:x<B64) (hT:Tz w):Calls Tryz.prog 227 #[.int .u64 x] w fun e w'=>e=.returned (.int .i64 (Lib.ctz 64 x:Nat))/\w=w':=by
 obtain⟨hlow,hk⟩:=Lib.lowest_bit 64 x h0 hx;obtain⟨hi,htab⟩:=Lib.deBruijn64_at _ hk;have hcell:=hT _ hi;rw[htab]at hcell;exact zl2 x _ _ w (by simp;omega) (tz64_key x _ hx h0 hlow) hi hk hcell
theorem zkg (x:Nat) (h0:x≠0) (hx:x<B64):∃m,x=2^Lib.ctz 64 x*(2*m+1)/\Lib.ctz 64 x<64:=by
 have:=Lib.ctzFrom_spec 64 x (by omega) hx;unfold Lib.ctz;rw[if_neg h0];exact this

def ziN (v t:Nat):Prop:=∃m,v=2^t*(2*m+1)
def zlu (v n:Nat) (w:World) (e:Ending) (w':World):Prop:=∃t,e=.returned (.int .i64 (t:Nat))/\ziN v t/\t<=64*n/\w=w'
theorem zkz {l:List Nat} {k:Nat} (hz:∀i,i<k->nth l i=0) (hk:k<l.length) (hx:∀x∈l,x<B64) (h0:nth l k≠0):ziN (val B64 l) (64*k+Lib.ctz 64 (nth l k))/\Lib.ctz 64 (nth l k)<64:=by
 obtain⟨m,hm,hlt⟩:=zkg (nth l k) h0 (zak za4 hx k);refine⟨?_,hlt⟩;have h1:=zdP l k (by omega);have h2:valT B64 l k=0:=by
  have:valT B64 l k=valT B64 (List.replicate k 0) k:=zbq _ _ _ _ fun i hi=>by rw[hz i hi,zbz]
  rw[this,zbf _ _ _ (by simp),List.take_replicate,zbd]
 rw[h2,Nat.zero_add,zcO hk]at h1;generalize Lib.ctz 64 (nth l k)=t at*;generalize val B64 (l.drop (k+1))=r at*;have e:B64=2^t*(2*2^(63-t)):=by
  rw[show 2*2^(63-t)=2^(63-t+1) by rw[Nat.pow_succ,Nat.mul_comm],<-Nat.pow_add,show t+(63-t+1)=64 by omega];rfl
 refine⟨m+2^(63-t)*r,?_⟩;rw[h1,Nat.pow_add,Nat.pow_mul,show 2^64=B64 from rfl,Nat.mul_assoc];congr 1;rw[hm];have e2:B64*r=2^t*(2*(2^(63-t)*r)):=by rw[e];generalize 2^t=a;generalize 2^(63-t)=b;grind
 rw[e2,<-Nat.mul_add];congr 1;omega

set_option maxRecDepth 100000 in
theorem zdq (w:World) (A:Option Addr) (c:Nat) (l:List Nat) (hl:l.length<=1000000000000) (hr:Rd w .u64 A l) (hx:∀x∈l,x<B64) (h0:val B64 l≠0) (hT:Tz w):
 Calls Tryz.prog 236 #[.slice A l.length c] w (zlu (val B64 l) l.length w):=by
 have hsl:=hr.sl;have h1:=zaA;have Hr:=znd hr;have Hx:=znd hx;have H0:=znd h0;have HT:=znd hT;clear hr hx h0 hT;go_enter Tryz.func236,Tryz.ntmps236;go_wp2_with fail
 go_loop [3] (fun n=>∃k:Nat,k<=l.length/\n=.int .i64 k/\Hid (∀i,i<k->nth l i=0)) (fun n=>l.length-(intOf n).toNat)
 case atStart=>exact⟨0,Nat.zero_le _,rfl,(show∀i,i<0->nth l i=0 from fun i h=>by omega)⟩
 case round=>
  obtain⟨k,hk,rfl,hz⟩:=hrel;by_cases hlt:k<l.length
  ·have hcell:=Hr.out.cell k hlt;by_cases hc0:nth l k=0
   ·rw[hc0]at hcell
    have Hz:Hid (∀i,i<k+1->nth l i=0):=(show∀i,i<k+1->nth l i=0 from fun i hi=>by
     by_cases e:i=k
     ·rw[e];exact hc0
     ·exact hz.out i (by omega))
    clear hc0 hz;go_wp2_with fail
    go_round
    case rel=>exact⟨k+1,by omega,by go_num,Hz⟩
    case measure=>simp[intOf];omega
   ·have hne:((nth l k:Int)==0)=false:=by simpa using hc0
    obtain⟨ht,hct⟩:=zkz hz.out hlt Hx.out hc0;have HI:=znd ht;have Htz:=znd (zmI (nth l k) w hc0 (zak za4 Hx.out k) HT.out);clear hc0 hz ht;generalize Lib.ctz 64 (nth l k)=t at*;generalize nth l k=x at*;go_wp2_with fail;refine Htz.out.mono ?_;rintro e w' ⟨rfl,rfl⟩;go_wp2_with fail;go_ret;exact⟨64*k+t,zc6 (by omega),HI.out,by omega,rfl⟩
  ·exfalso;apply H0.out;have h5:valT B64 l l.length=valT B64 (List.replicate l.length 0) l.length:=zbq _ _ _ _ fun i hi=>by rw[hz.out i (by omega),zbz]
   rw[zaD,zbf _ _ _ (by simp),List.take_replicate,zbd]at h5;exact h5

structure NumIn (w:World) (g k c X:Nat) (s:List Nat):Prop where
 blk:Blk w g 50 (ints .u64 s)
 lt:∀x∈s,x<B64
 kle:k<=s.length
 kc:k<=c
 len:s.length<=17592186044000
 kb:k<=900000000000
 eq:valT B64 s k=X
theorem NumIn.only {w w':World} {g g' k c X:Nat} {s:List Nat} (h:NumIn w g k c X s) (ho:w.grownBy w' (some g')) (hne:g≠g'):NumIn w' g k c X s:=
 ⟨(ho.block g h.blk.lt (fun e=>hne (by injection e))).trans h.blk,h.lt,h.kle,h.kc,h.len,h.kb,h.eq⟩
theorem NumIn.drewN {w:World} {g k c X:Nat} {s:List Nat} (h:NumIn w g k c X s) (n:Nat):NumIn (w.drewN n) g k c X s:=⟨h.blk,h.lt,h.kle,h.kc,h.len,h.kb,h.eq⟩
theorem NumIn.rd {w:World} {g k c X:Nat} {s:List Nat} (h:NumIn w g k c X s):Rd w .u64 (some ⟨g,0,none⟩) (s.take k):=(Rd.of_blk h.blk).take k
theorem NumIn.tlen {w:World} {g k c X:Nat} {s:List Nat} (h:NumIn w g k c X s):(s.take k).length=k:=by have:=h.kle;simp;omega
theorem NumIn.val {w:World} {g k c X:Nat} {s:List Nat} (h:NumIn w g k c X s):val B64 (s.take k)=X:=by rw[<-zbf _ _ _ h.kle];exact h.eq
theorem NumIn.tlt {w:World} {g k c X:Nat} {s:List Nat} (h:NumIn w g k c X s):∀x∈s.take k,x<B64:=fun x hx=>h.lt x (List.mem_of_mem_take hx)
theorem NumIn.of_in {w:World} {g k c X:Nat} {A:Option Addr} (h:InBlk w g A k c (digs B64 X)) (h0:X≠0) {K:Nat} (hX:X<B64^K) (hK:K<=900000000000):A=some ⟨g,0,none⟩/\∃s,NumIn w g k c X s:=by
 rcases h.at_ with⟨he,-⟩|⟨rfl,hc,s,hb,hx,ht,hk,hl⟩
 ·rw[zaT (by decide)]at he;exact absurd he h0
 ·refine⟨rfl,s,hb,hx,hk,hc,hl,by rw[h.len];exact Nat.le_trans (zbG hX) hK,?_⟩;rw[zbf _ _ _ hk,ht,zar (by decide)]
structure Two (w w':World) (g1 g2:Nat):Prop where
 os:w'.os=w.os
 tape:w'.tape=w.tape
 output:w'.output=w.output
 size:w.heap.size<=w'.heap.size
 block:∀b,b<w.heap.size->b≠g1->b≠g2->w'.heap[b]?=w.heap[b]?
theorem Two.refl (w:World) (g1 g2:Nat):Two w w g1 g2:=⟨rfl,rfl,rfl,Nat.le_refl _,fun _ _ _ _=>rfl⟩
theorem Two.only {w w1 w2:World} {g1 g2 g:Nat} (h:Two w w1 g1 g2) (ho:w1.grownBy w2 (some g)) (hg:g=g1\/g=g2):Two w w2 g1 g2:=
 ⟨ho.os.trans h.os,ho.tape.trans h.tape,ho.output.trans h.output,Nat.le_trans h.size ho.size,fun b hb h1 h2=>(ho.block b (Nat.lt_of_lt_of_le hb h.size) (fun e=>by injection e;omega)).trans (h.block b hb h1 h2)⟩
theorem Two.drewN {w w1:World} {g1 g2:Nat} (h:Two w w1 g1 g2) (n:Nat):Two w (w1.drewN n) g1 g2:=⟨h.os,h.tape,h.output,h.size,h.block⟩
theorem Two.below {w w1 w2:World} {g1 g2:Nat} (h:Two w w1 g1 g2) (hb:Below w1.heap.size w1 w2):Two w w2 g1 g2:=
 ⟨hb.os.trans h.os,hb.tape.trans h.tape,hb.output.trans h.output,Nat.le_trans h.size hb.size,fun b hlt h1 h2=>(hb.block b (Nat.lt_of_lt_of_le hlt h.size)).trans (h.block b hlt h1 h2)⟩
theorem Two.tz {w w1:World} {g1 g2:Nat} (h:Two w w1 g1 g2) (ht:Tz w) (h1:2≠g1) (h2:2≠g2):Tz w1:=ht.keep (h.block _ ht.lt h1 h2)

theorem zcW {l:List Nat} {n:Nat} (hx:∀x∈l,x<B64) (h:val B64 l<B64^n):used l<=n:=by
 rw[zlW (b:=B64) (by decide) hx];rcases Nat.eq_zero_or_pos (val B64 l)with h0|h0
 ·rw[h0];exact Nat.zero_le _
 ·have hne:digs B64 (val B64 l)≠[]:=fun e=>by rw[zaT (by decide)]at e;omega
  have h5:=zcB (b:=B64) (by decide) (digs_tidy (by decide) (val B64 l)) hne;rw[zar (by decide)]at h5;have h6:=(Nat.pow_lt_pow_iff_right (show 1<B64 by decide)).1 (Nat.lt_of_le_of_lt h5 h);omega
theorem zft {X Y t G:Nat} (hY:Y%2=1) (hlt:Y<X) (ht:ziN (X-Y) t) (hG:Nat.gcd X Y=G):(X-Y)/2^t%2=1/\Nat.gcd ((X-Y)/2^t) Y=G/\(X-Y)/2^t+Y<X+Y/\(X-Y)/2^t≠0:=by
 obtain⟨m,hm⟩:=ht;have e:(X-Y)/2^t=2*m+1:=by rw[hm,Nat.mul_div_cancel_left _ (Nat.two_pow_pos _)]
 have h1:(X-Y)/2^t<=X-Y:=Nat.div_le_self _ _;have hg:Nat.gcd (X-Y) Y=Nat.gcd X Y:=zjz X Y (by omega);rw[hm,zdU _ _ _ hY,hG]at hg;rw[e]at h1⊢;exact⟨by omega,hg,by omega,by omega⟩

structure HvI (w wr:World) (g1 g2 gk G:Nat) (xv yv:Value):Prop where
 ex:∃ga gb ka ca kb cb X Y sa sb,xv=.slice (some ⟨ga,0,none⟩) ka ca/\yv=.slice (some ⟨gb,0,none⟩) kb cb/\(ga=g1/\gb=g2\/ga=g2/\gb=g1)/\NumIn wr ga ka ca X sa/\NumIn wr gb kb cb Y sb/\X%2=1/\Y%2=1/\Nat.gcd X Y=G/\gk=X+Y
 two:Two w wr g1 g2
def RetH (w:World) (g1 g2 v:Nat) (e:Ending) (w':World):Prop:=
 ∃A c,e=.returned (.slice A (digs B64 v).length c)/\(digs B64 v).length<=c/\Rd w' .u64 A (digs B64 v)/\Fr w.heap.size A (digs B64 v)/\Two w w' g1 g2

theorem NumIn.ltp {w:World} {g k c X:Nat} {s:List Nat} (h:NumIn w g k c X s):X<B64^k:=by rw[<-h.eq];exact zc3 za4 h.lt k

set_option maxRecDepth 100000 in
theorem zg8 (w:World) (g1 g2 k1 c1 k2 c2 X0 Y0:Nat) (s1 s2:List Nat) (hne:g1≠g2) (h1:NumIn w g1 k1 c1 X0 s1) (h2:NumIn w g2 k2 c2 Y0 s2) (hX:X0≠0) (hY:Y0≠0) (hT:Tz w):
 Calls Tryz.prog 213 #[.slice (some ⟨g1,0,none⟩) k1 c1,.slice (some ⟨g2,0,none⟩) k2 c2] w (RetH w g1 g2 (Nat.gcd X0 Y0)):=by
 have n1:=hT.ne h1.blk;have n2:=hT.ne h2.blk;have htw1:=zdq w (some ⟨g1,0,none⟩) c1 (s1.take k1) (by rw[h1.tlen];have:=h1.kb;omega) h1.rd h1.tlt (by rw[h1.val];exact hX) hT;have htw2:=zdq w (some ⟨g2,0,none⟩) c2 (s2.take k2) (by rw[h2.tlen];have:=h2.kb;omega) h2.rd h2.tlt (by rw[h2.val];exact hY) hT;rw[h1.tlen,h1.val]at htw1;rw[h2.tlen,h2.val]at htw2;have Htw1:=znd htw1;have Htw2:=znd htw2;have H1:=znd h1;have H2:=znd h2;have HT:=znd hT;have N1:=znd n1;have N2:=znd n2;have Hne:=znd hne;have HX:=znd hX;have HY:=znd hY;clear htw1 htw2 h1 h2 hT n1 n2 hne hX hY;go_enter Tryz.func213,Tryz.ntmps213;go_wp2_with fail;refine Htw1.out.mono ?_;clear Htw1;rintro e w' ⟨p,rfl,hp,hpl,rfl⟩;go_wp2_with fail;refine Htw2.out.mono ?_;clear Htw2;rintro e w' ⟨q,rfl,hq,hql,rfl⟩;have Hp:=znd hp;have Hq:=znd hq;have hpb:p<=64*900000000000:=by have:=H1.out.kb;omega
 have hqb:q<=64*900000000000:=by have:=H2.out.kb;omega
 clear hp hq hpl hql;have Hd1:=znd (zd5 w g1 k1 c1 p s1 H1.out.kle H1.out.kc H1.out.len (by omega) H1.out.blk H1.out.lt);rw[H1.out.eq]at Hd1;go_wp2_with fail;refine Hd1.out.mono ?_;clear Hd1;rintro e w1 ⟨A1,ka,ca,rfl,hi1,hg1⟩
 have Hx1:=znd (show∃m,X0/2^p=2*m+1/\X0=2^p*(2*m+1)from by
  obtain⟨m,hm⟩:=Hp.out;exact⟨m,by rw[hm,Nat.mul_div_cancel_left _ (Nat.two_pow_pos _)],hm⟩)
 have Hy1:=znd (show∃m,Y0/2^q=2*m+1/\Y0=2^q*(2*m+1)from by
  obtain⟨m,hm⟩:=Hq.out;exact⟨m,by rw[hm,Nat.mul_div_cancel_left _ (Nat.two_pow_pos _)],hm⟩)
 obtain⟨rfl,sa,hna⟩:=NumIn.of_in hi1 (by obtain⟨m,hm,-⟩:=Hx1.out;omega) (Nat.lt_of_le_of_lt (Nat.div_le_self _ _) H1.out.ltp) H1.out.kb;have h2':=H2.out.only hg1 (fun e=>Hne.out e.symm);have Hd2:=znd (zd5 w1 g2 k2 c2 q s2 h2'.kle h2'.kc h2'.len (by omega) h2'.blk h2'.lt);rw[h2'.eq]at Hd2;have Htwo1:=znd ((Two.refl w g1 g2).only hg1 (.inl rfl));have Hna:=znd hna;clear hi1 hg1 hna h2';go_wp2_with fail;refine Hd2.out.mono ?_;clear Hd2;rintro e w2 ⟨A2,kb,cb,rfl,hi2,hg2⟩;obtain⟨rfl,sb,hnb⟩:=NumIn.of_in hi2 (by obtain⟨m,hm,-⟩:=Hy1.out;omega) (Nat.lt_of_le_of_lt (Nat.div_le_self _ _) H2.out.ltp) H2.out.kb
 have HI:=znd (show HvI w w2 g1 g2 (X0/2^p+Y0/2^q) (Nat.gcd (X0/2^p) (Y0/2^q)) (.slice (some ⟨g1,0,none⟩) ka ca) (.slice (some ⟨g2,0,none⟩) kb cb)from
  ⟨⟨g1,g2,ka,ca,kb,cb,_,_,sa,sb,rfl,rfl,.inl ⟨rfl,rfl⟩,Hna.out.only hg2 Hne.out,hnb,by obtain⟨m,hm,-⟩:=Hx1.out;omega,by obtain⟨m,hm,-⟩:=Hy1.out;omega,rfl,rfl⟩,Htwo1.out.only hg2 (.inr rfl)⟩)
 have HG:=znd (show Nat.gcd X0 Y0=2^(min p q)*Nat.gcd (X0/2^p) (Y0/2^q)from by
  obtain⟨m,hm,e1⟩:=Hx1.out;obtain⟨m',hm',e2⟩:=Hy1.out;rw[hm,hm',<-zhF p q _ _ (by omega) (by omega),<-e1,<-e2])
 clear hi2 hg2 hnb Hna Htwo1 Hx1 Hy1 Hp Hq H1 H2 HX HY;generalize X0/2^p+Y0/2^q=gk0 at*;generalize Nat.gcd (X0/2^p) (Y0/2^q)=G at*;go_wp2_with fail
 go_loopg [0,1] gk0 (fun gk xv yv wr=>HvI w wr g1 g2 gk G xv yv)
 case atStart=>exact HI.out
 case round=>
  clear HI;obtain⟨ga,gb,ka,ca,kb,cb,X,Y,sa,sb,rfl,rfl,hgg,hx,hy,hxo,hyo,hG,rfl⟩:=hrel.ex;have Htwo:=znd hrel.two;have Hgg:=znd hgg;have hcmp:=zdO wr (some ⟨ga,0,none⟩) (some ⟨gb,0,none⟩) ca cb (sa.take ka) (sb.take kb) (by rw[hx.tlen];have:=hx.kb;omega) (by rw[hy.tlen];have:=hy.kb;omega) hx.rd hy.rd hx.tlt hy.tlt;rw[hx.tlen,hy.tlen,hx.val,hy.val]at hcmp;have Hcmp:=znd hcmp;have Hx:=znd hx;have Hy:=znd hy;have HGG:=znd hG;have Hxo:=znd hxo;have Hyo:=znd hyo;clear hrel hgg hcmp hx hy hG hxo hyo;go_wp2_with fail;refine Hcmp.out.mono ?_;clear Hcmp;rintro e w4 ⟨rfl,qq,rfl⟩;rcases Nat.lt_trichotomy X Y with hlt|heq|hgt
  ·have hc0:cmpN X Y=-1:=zcJ hlt;rw[hc0];have hneb:ga≠gb:=fun e=>Hne.out (by rcases Hgg.out with⟨e1,e2⟩|⟨e1,e2⟩<;>omega)
   have hles:=zdg (wr.drewN qq) gb kb cb ca (some ⟨ga,0,none⟩) sb (sa.take ka) Hy.out.kle (by have:=Hy.out.len;omega) (by rw[Hx.out.tlen];have:=Hx.out.kb;omega) Hy.out.blk (Hx.out.rd.drewN qq) (fun i _=>hneb) Hy.out.lt Hx.out.tlt
    (zcW Hx.out.tlt (by rw[Hx.out.val];have:=Hy.out.ltp;omega)) (by rw[Hx.out.val,Hy.out.eq];omega)
   rw[Hx.out.tlen,Hx.out.val]at hles;have Hles:=znd hles;have Hneb:=znd hneb;have Hlt:=znd hlt;clear hles hc0 hneb hlt;go_wp2_with fail;refine Hles.out.mono ?_;clear Hles;rintro e w5 ⟨rfl,s5,hb5,hl5,hx5,-,hv5,hg5⟩;have hn5:NumIn w5 gb kb cb (Y-X) s5:=⟨hb5,hx5,by rw[hl5];exact Hy.out.kle,Hy.out.kc,by rw[hl5];exact Hy.out.len,Hy.out.kb,by rw[hv5,Hy.out.eq]⟩;have htwo5:Two w w5 g1 g2:=(Htwo.out.drewN qq).only hg5 (by rcases Hgg.out with⟨e1,e2⟩|⟨e1,e2⟩<;>omega);have hT5:Tz w5:=htwo5.tz HT.out N1.out N2.out;have htw:=zdq w5 (some ⟨gb,0,none⟩) cb (s5.take kb) (by rw[hn5.tlen];have:=hn5.kb;omega) hn5.rd hn5.tlt (by rw[hn5.val];have:=Hlt.out;omega) hT5;rw[hn5.tlen,hn5.val]at htw;have Htw:=znd htw;have Hn5:=znd hn5;have Htwo5:=znd htwo5;have HB5:=znd ((Hx.out.drewN qq).only hg5 Hneb.out);clear hb5 hl5 hx5 hv5 hg5 hn5 htwo5 hT5 htw Htwo;go_wp2_with fail;refine Htw.out.mono ?_;clear Htw;rintro e w' ⟨tt,rfl,ht,htl,rfl⟩;have htb:tt<=64*900000000000:=by have:=Hn5.out.kb;omega
   have Hst:=znd (zft (G:=G) Hxo.out Hlt.out ht (by rw[Nat.gcd_comm];exact HGG.out));have Hdn:=znd (zd5 w5 gb kb cb tt s5 Hn5.out.kle Hn5.out.kc Hn5.out.len (by omega) Hn5.out.blk Hn5.out.lt);rw[Hn5.out.eq]at Hdn;clear ht htl;go_wp2_with fail;refine Hdn.out.mono ?_;clear Hdn;rintro e w6 ⟨A6,k6,c6,rfl,hi6,hg6⟩;obtain⟨rfl,s6,hn6⟩:=NumIn.of_in hi6 Hst.out.2.2.2 (Nat.lt_of_le_of_lt (Nat.div_le_self _ _) Hn5.out.ltp) Hn5.out.kb
   have HI:=znd (show HvI w w6 g1 g2 ((Y-X)/2^tt+X) G (.slice (some ⟨gb,0,none⟩) k6 c6) (.slice (some ⟨ga,0,none⟩) ka ca)from
    ⟨⟨gb,ga,k6,c6,ka,ca,_,X,s6,sa,rfl,rfl,by rcases Hgg.out with⟨e1,e2⟩|⟨e1,e2⟩<;>omega,hn6,HB5.out.only hg6 Hneb.out,Hst.out.1,Hxo.out,Hst.out.2.1,rfl⟩,Htwo5.out.only hg6 (by rcases Hgg.out with⟨e1,e2⟩|⟨e1,e2⟩<;>omega)⟩)
   have Hms:=znd Hst.out.2.2.1;clear hi6 hg6 hn6 Hst;go_wp2_with fail
   go_roundg ((Y-X)/2^tt+X)
   case measure=>have:=Hms.out;omega
   case rel=>exact HI.out
  ·subst heq;rw[zcS];have hmn:∀W,(Builtin.min_ #[3,3] 3 #[.int .i64 (p:Int),.int .i64 (q:Int)]).run Tryz.prog W=.ok (.int .i64 ((min p q:Nat):Int)) W:=fun W=>by
    rw[run_min_int2];congr 2;split<;>omega
   have hup:=zi9 (wr.drewN qq) (some ⟨ga,0,none⟩) ca (min p q) (sa.take ka) (by rw[Hx.out.tlen];have:=Hx.out.kb;omega) (by omega) (Hx.out.rd.drewN qq) Hx.out.tlt;rw[Hx.out.tlen,Hx.out.val]at hup;have Hup:=znd hup;have Hfin:=znd (show X*2^(min p q)=Nat.gcd X0 Y0 by rw[HG.out,<-HGG.out,Nat.gcd_self,Nat.mul_comm]);clear hup;generalize min p q=mn at*;go_wp2_with fail;refine Hup.out.mono ?_;rintro e w5 ⟨A5,c5,rfl,hc5,hr5,hb5,hf5⟩;rw[Hfin.out]at hc5 hr5 hf5⊢;have HR:=znd (And.intro hc5 (And.intro hr5 hf5));have HB:=znd ((Htwo.out.drewN qq).below hb5);have Hsz:=znd Htwo.out.size;clear hc5 hr5 hb5 hf5;go_wp2_with fail;go_ret;exact⟨A5,c5,rfl,HR.out.1,HR.out.2.1,fun i hi=>Nat.le_trans Hsz.out (HR.out.2.2 i hi),HB.out⟩
  ·have hc0:cmpN X Y=1:=zcN hgt;rw[hc0];have hneb:gb≠ga:=fun e=>Hne.out (by rcases Hgg.out with⟨e1,e2⟩|⟨e1,e2⟩<;>omega)
   have hles:=zdg (wr.drewN qq) ga ka ca cb (some ⟨gb,0,none⟩) sa (sb.take kb) Hx.out.kle (by have:=Hx.out.len;omega) (by rw[Hy.out.tlen];have:=Hy.out.kb;omega) Hx.out.blk (Hy.out.rd.drewN qq) (fun i _=>hneb) Hx.out.lt Hy.out.tlt
    (zcW Hy.out.tlt (by rw[Hy.out.val];have:=Hx.out.ltp;omega)) (by rw[Hy.out.val,Hx.out.eq];omega)
   rw[Hy.out.tlen,Hy.out.val]at hles;have Hles:=znd hles;have Hneb:=znd hneb;have Hlt:=znd hgt;clear hles hc0 hneb hgt;go_wp2_with fail;refine Hles.out.mono ?_;clear Hles;rintro e w5 ⟨rfl,s5,hb5,hl5,hx5,-,hv5,hg5⟩;have hn5:NumIn w5 ga ka ca (X-Y) s5:=⟨hb5,hx5,by rw[hl5];exact Hx.out.kle,Hx.out.kc,by rw[hl5];exact Hx.out.len,Hx.out.kb,by rw[hv5,Hx.out.eq]⟩;have htwo5:Two w w5 g1 g2:=(Htwo.out.drewN qq).only hg5 (by rcases Hgg.out with⟨e1,e2⟩|⟨e1,e2⟩<;>omega);have hT5:Tz w5:=htwo5.tz HT.out N1.out N2.out;have htw:=zdq w5 (some ⟨ga,0,none⟩) ca (s5.take ka) (by rw[hn5.tlen];have:=hn5.kb;omega) hn5.rd hn5.tlt (by rw[hn5.val];have:=Hlt.out;omega) hT5;rw[hn5.tlen,hn5.val]at htw;have Htw:=znd htw;have Hn5:=znd hn5;have Htwo5:=znd htwo5;have HB5:=znd ((Hy.out.drewN qq).only hg5 Hneb.out);clear hb5 hl5 hx5 hv5 hg5 hn5 htwo5 hT5 htw Htwo;go_wp2_with fail;refine Htw.out.mono ?_;clear Htw;rintro e w' ⟨tt,rfl,ht,htl,rfl⟩;have htb:tt<=64*900000000000:=by have:=Hn5.out.kb;omega
   have Hst:=znd (zft (G:=G) Hyo.out Hlt.out ht HGG.out);have Hdn:=znd (zd5 w5 ga ka ca tt s5 Hn5.out.kle Hn5.out.kc Hn5.out.len (by omega) Hn5.out.blk Hn5.out.lt);rw[Hn5.out.eq]at Hdn;clear ht htl;go_wp2_with fail;refine Hdn.out.mono ?_;clear Hdn;rintro e w6 ⟨A6,k6,c6,rfl,hi6,hg6⟩;obtain⟨rfl,s6,hn6⟩:=NumIn.of_in hi6 Hst.out.2.2.2 (Nat.lt_of_le_of_lt (Nat.div_le_self _ _) Hn5.out.ltp) Hn5.out.kb
   have HI:=znd (show HvI w w6 g1 g2 ((X-Y)/2^tt+Y) G (.slice (some ⟨ga,0,none⟩) k6 c6) (.slice (some ⟨gb,0,none⟩) kb cb)from
    ⟨⟨ga,gb,k6,c6,kb,cb,_,Y,s6,sb,rfl,rfl,by rcases Hgg.out with⟨e1,e2⟩|⟨e1,e2⟩<;>omega,hn6,HB5.out.only hg6 Hneb.out,Hst.out.1,Hyo.out,Hst.out.2.1,rfl⟩,Htwo5.out.only hg6 (by rcases Hgg.out with⟨e1,e2⟩|⟨e1,e2⟩<;>omega)⟩)
   have Hms:=znd Hst.out.2.2.1;clear hi6 hg6 hn6 Hst;go_wp2_with fail
   go_roundg ((X-Y)/2^tt+Y)
   case measure=>have:=Hms.out;omega
   case rel=>exact HI.out

theorem InBlk.later {w w':World} {g:Nat} {A:Option Addr} {k c:Nat} {l:List Nat} (h:InBlk w g A k c l) (hb:Below w.heap.size w w'):InBlk w' g A k c l:=by
 refine⟨h.len,?_⟩;rcases h.at_ with h|⟨rfl,hc,s,hs,r⟩
 ·exact .inl h
 ·exact .inr ⟨rfl,hc,s,hs.below hb hs.lt,r⟩
theorem InBlk.glt {w:World} {g:Nat} {A:Option Addr} {k c:Nat} {l:List Nat} (h:InBlk w g A k c l) (hl:l≠[]):g<w.heap.size:=by
 rcases h.at_ with⟨h,-⟩|⟨rfl,hc,s,hs,r⟩
 ·exact absurd h hl
 ·exact hs.lt
theorem zas {X:Nat} (h:X≠0):0<(digs B64 X).length:=by
 rcases Nat.eq_zero_or_pos (digs B64 X).length with e|e
 ·exact absurd ((zaT (by decide)).1 (List.eq_nil_of_length_eq_zero e)) h
 ·exact e
theorem zbU {X Y:Nat} (h:(digs B64 X).length<(digs B64 Y).length):X<Y:=by
 have:=zaP (b:=B64) (by decide) (zbi (by decide) X) (digs_tidy (by decide) Y) h
 rwa [zar (by decide),zar (by decide)]at this
structure GcI (w wr:World) (K gk G:Nat) (xv yv:Value):Prop where
 ex:∃ga gb ca cb X Y A B,xv=.slice A (digs B64 X).length ca/\yv=.slice B (digs B64 Y).length cb/\InBlk wr ga A (digs B64 X).length ca (digs B64 X)/\InBlk wr gb B (digs B64 Y).length cb (digs B64 Y)/\(X=0\/Y=0\/ga≠gb)/\w.heap.size<=ga/\w.heap.size<=gb/\(digs B64 X).length<=K/\(digs B64 Y).length<=K/\Nat.gcd X Y=G/\gk=X+Y
 below:Below w.heap.size w wr

set_option maxRecDepth 100000 in
theorem zlV (w:World) (A B:Option Addr) (c d K:Nat) (l m:List Nat) (hK:K<=900000000000) (hl:l.length<=K) (hm:m.length<=K) (ha:Rd w .u64 A l) (hb:Rd w .u64 B m) (hx:∀x∈l,x<B64) (hy:∀x∈m,x<B64) (hT:Tz w):
 Calls Tryz.prog 177 #[.slice A l.length c,.slice B m.length d] w (RetL .u64 (digs B64 (Nat.gcd (val B64 l) (val B64 m))) w):=by
 have h1:=zcg w A c l (by omega) ha;rw[zb5 (b:=B64) (by decide) hx]at h1;have hlx:(digs B64 (val B64 l)).length<=K:=zbG (Nat.lt_of_lt_of_le (zdo hx) (Nat.pow_le_pow_right za4 hl));have hly:(digs B64 (val B64 m)).length<=K:=zbG (Nat.lt_of_lt_of_le (zdo hy) (Nat.pow_le_pow_right za4 hm));have H1:=znd (h1.mono fun _ _ h=>h.own (by omega) (zbi (by decide) _));have H2:=znd (fun W (hr:Rd W .u64 B m)=>((zcg W B d m (by omega) hr).mono fun _ _ h=>h.own (by rw[za5];have:=zay m;omega) (zbp hy)));rw[zb5 (b:=B64) (by decide) hy]at H2;have Hb:=znd hb;have HT:=znd hT;clear ha hb hx hy hT h1;generalize val B64 l=X0 at*;generalize val B64 m=Y0 at*;go_enter Tryz.func177,Tryz.ntmps177;go_wp2_with fail;refine H1.out.mono ?_;clear H1;rintro e w1 ⟨A1,c1,rfl,ho1,hb1⟩;have Ho1:=znd ho1;have Hb1:=znd hb1;clear ho1 hb1;go_wp2_with fail;refine(H2.out _ (Hb.out.below Hb1.out (Nat.le_refl _))).mono ?_;clear H2;rintro e w2 ⟨A2,c2,rfl,ho2,hb2⟩
 have HI:=znd (show GcI w w2 K (X0+Y0) (Nat.gcd X0 Y0) (.slice A1 (digs B64 X0).length c1) (.slice A2 (digs B64 Y0).length c2)from by
  obtain⟨g1,hg1,hi1⟩:=Ho1.out;obtain⟨g2,hg2,hi2⟩:=ho2;refine⟨⟨g1,g2,c1,c2,X0,Y0,A1,A2,rfl,rfl,hi1.later hb2,hi2,?_,hg1,Nat.le_trans Hb1.out.size hg2,hlx,hly,rfl,rfl⟩,Below.after Hb1.out hb2⟩;by_cases h0:X0=0
  ·exact .inl h0
  ·have:=hi1.glt (fun e=>h0 ((zaT (by decide)).1 e));exact .inr (.inr (by omega)))
 clear ho2 hb2 Ho1 Hb1 hlx hly hl hm;generalize X0+Y0=gk0 at*;generalize Nat.gcd X0 Y0=G at*;go_wp2_with fail
 go_loopg [5,6] gk0 (fun gk xv yv wr=>GcI w wr K gk G xv yv)
 case atStart=>exact HI.out
 case round=>
  clear HI;obtain⟨ga,gb,ca,cb,X,Y,A,B,rfl,rfl,hx,hy,hd,hga,hgb,hxl,hyl,hG,rfl⟩:=hrel.ex;have Hbel:=znd hrel.below;have Hx:=znd hx;have Hy:=znd hy;have HGG:=znd hG;have Hd:=znd hd;have HTr:=znd (HT.out.below hrel.below);clear hrel hx hy hG hd;rcases Nat.lt_trichotomy (digs B64 X).length (digs B64 Y).length with hlt|heq|hgt
  ·have hXY:X<Y:=zbU hlt;have hne:(((digs B64 X).length:Int) != ((digs B64 Y).length:Int))=true:=by rw[bne_iff_ne];omega
   by_cases hz:X=0
   ·have hzl:(((digs B64 X).length:Int)==0)=true:=by rw[hz];rfl
    have Hfin:=znd (show G=Y by rw[<-HGG.out,hz];simp);have HO:=znd (show RetO (digs B64 Y) w (.returned (.slice B (digs B64 Y).length cb)) wr from⟨B,cb,rfl,⟨gb,hgb,Hy.out⟩,Hbel.out⟩);clear hz hXY;generalize (digs B64 X).length=nx at*;generalize (digs B64 Y).length=ny at*;go_wp2_with fail;go_ret;rw[Hfin.out];exact HO.out.ret
   ·have hzl:(((digs B64 X).length:Int)==0)=false:=by simp;have:=zas hz;intro e;rw[e]at this;simp at this
    have hrx:=Hy.out.rd;have hry:=Hx.out.rd;have hdm:=zdb wr B A cb ca (digs B64 Y) (digs B64 X) (by omega) (by omega) (by rcases hrx.2.2 with h|h;exact h;rw[h];exact Nat.zero_le _) (by rcases hry.2.2 with h|h;exact h;rw[h];exact Nat.zero_le _) hrx.1 hry.1 (zbi (by decide) _) (zbi (by decide) _) (by rw[zar (by decide)];exact hz);rw[zar (by decide),zar (by decide)]at hdm;have Hdm:=znd hdm;have Hz:=znd hz;have HXY:=znd hXY;clear hdm hrx hry hz hXY;generalize hnx:(digs B64 X).length=nx at*;generalize hny:(digs B64 Y).length=ny at*;have Hnx:=znd hnx;have Hny:=znd hny;clear hnx hny;go_wp2_with fail;refine Hdm.out.mono ?_;clear Hdm;rintro e w3 ⟨A3,c3,A4,c4,rfl,-,-,-,-,hb3,-,-,ho4⟩
    have HI:=znd (show GcI w w3 K (Y%X+X) G (.slice A4 (digs B64 (Y%X)).length c4) (.slice A nx ca)from by
     obtain⟨g4,hg4,hi4⟩:=ho4;have hml:Y%X<X:=Nat.mod_lt _ (Nat.pos_of_ne_zero Hz.out);have hyin:=Hx.out;rw[<-Hnx.out]at hyin⊢;refine⟨⟨g4,ga,c4,ca,Y%X,X,A4,A,rfl,rfl,hi4,hyin.later hb3,?_,Nat.le_trans Hbel.out.size hg4,hga,?_,by first|exact hxl|(rw[Hnx.out];exact hxl),?_,rfl⟩,Below.after Hbel.out hb3⟩
     ·have:=hyin.glt (fun e=>Hz.out ((zaT (by decide)).1 e));exact .inr (.inr (by omega))
     ·exact Nat.le_trans (zbG (Nat.lt_trans hml (zaF (Nat.le_refl _)))) (by first|exact hxl|(rw[Hnx.out];exact hxl))
     ·rw[<-Nat.gcd_rec,Nat.gcd_comm];exact(by rw[Nat.gcd_comm];exact HGG.out))
    have Hms:=znd (show Y%X+X<X+Y from by have:=Nat.mod_lt Y (Nat.pos_of_ne_zero Hz.out);have:=HXY.out;omega);clear ho4 hb3;generalize (digs B64 (Y%X)).length=n4 at*;go_wp2_with fail
    go_roundg (Y%X+X)
    case measure=>exact Hms.out
    case rel=>exact HI.out
  ·have hne:(((digs B64 X).length:Int) != ((digs B64 Y).length:Int))=false:=by simp[heq]
   by_cases hz:X=0
   ·have hzl:(((digs B64 X).length:Int)==0)=true:=by rw[hz];rfl
    have hzy:Y=0:=by
     rcases Nat.eq_zero_or_pos Y with h|h
     ·exact h
     ·have h5:=zas (X:=Y) (by omega);rw[<-heq,hz]at h5;simp[zbF]at h5
    have Hfin:=znd (show digs B64 G=[] by rw[<-HGG.out,hz,hzy];rfl);clear hz hzy heq;generalize (digs B64 X).length=nx at*;generalize (digs B64 Y).length=ny at*;go_wp2_with fail;go_ret;rw[Hfin.out];exact⟨none,0,rfl,Nat.le_refl _,Rd.nil_ _ _,Hbel.out,Fr.none_ _ _⟩
   ·have hzl:(((digs B64 X).length:Int)==0)=false:=by simp;have:=zas hz;intro e;rw[e]at this;simp at this
    have hzy:Y≠0:=by
     intro h;have h5:=zas hz;rw[heq,h]at h5;simp[zbF]at h5
    obtain⟨rfl,sa,hna⟩:=NumIn.of_in Hx.out hz (zaF hxl) hK;obtain⟨rfl,sb,hnb⟩:=NumIn.of_in Hy.out hzy (zaF hyl) hK;have Hh:=znd (zg8 wr ga gb _ ca _ cb X Y sa sb (by rcases Hd.out with h|h|h;exact absurd h hz;exact absurd h hzy;exact h) hna hnb hz hzy HTr.out);rw[HGG.out]at Hh;clear hz hzy heq hna hnb;generalize (digs B64 X).length=nx at*;generalize (digs B64 Y).length=ny at*;go_wp2_with fail;refine Hh.out.mono ?_;rintro e w3 ⟨A3,c3,rfl,hc3,hr3,hf3,ht3⟩;have HR:=znd (And.intro hc3 (And.intro hr3 hf3));have HB:=znd (show Below w.heap.size w w3 from⟨ht3.os.trans Hbel.out.os,ht3.tape.trans Hbel.out.tape,ht3.output.trans Hbel.out.output,Nat.le_trans Hbel.out.size ht3.size,fun k hk=>(ht3.block k (Nat.lt_of_lt_of_le hk Hbel.out.size) (by omega) (by omega)).trans (Hbel.out.block k hk)⟩);have Hsz:=znd Hbel.out.size;clear hc3 hr3 hf3 ht3;go_wp2_with fail;go_ret;exact⟨A3,c3,rfl,HR.out.1,HR.out.2.1,HB.out,fun i hi=>Nat.le_trans Hsz.out (HR.out.2.2 i hi)⟩
  ·have hXY:Y<X:=zbU hgt;have hne:(((digs B64 X).length:Int) != ((digs B64 Y).length:Int))=true:=by rw[bne_iff_ne];omega
   have hnl:¬(digs B64 X).length<(digs B64 Y).length:=by omega
   by_cases hz:Y=0
   ·have hzl:(((digs B64 Y).length:Int)==0)=true:=by rw[hz];rfl
    have Hfin:=znd (show G=X by rw[<-HGG.out,hz];simp);have HO:=znd (show RetO (digs B64 X) w (.returned (.slice A (digs B64 X).length ca)) wr from⟨A,ca,rfl,⟨ga,hga,Hx.out⟩,Hbel.out⟩);clear hz hXY;generalize (digs B64 X).length=nx at*;generalize (digs B64 Y).length=ny at*;go_wp2_with fail;go_ret;rw[Hfin.out];exact HO.out.ret
   ·have hzl:(((digs B64 Y).length:Int)==0)=false:=by simp;have:=zas hz;intro e;rw[e]at this;simp at this
    have hrx:=Hx.out.rd;have hry:=Hy.out.rd;have hdm:=zdb wr A B ca cb (digs B64 X) (digs B64 Y) (by omega) (by omega) (by rcases hrx.2.2 with h|h;exact h;rw[h];exact Nat.zero_le _) (by rcases hry.2.2 with h|h;exact h;rw[h];exact Nat.zero_le _) hrx.1 hry.1 (zbi (by decide) _) (zbi (by decide) _) (by rw[zar (by decide)];exact hz);rw[zar (by decide),zar (by decide)]at hdm;have Hdm:=znd hdm;have Hz:=znd hz;have HXY:=znd hXY;clear hdm hrx hry hz hXY;generalize hnx:(digs B64 X).length=nx at*;generalize hny:(digs B64 Y).length=ny at*;have Hnx:=znd hnx;have Hny:=znd hny;clear hnx hny;go_wp2_with fail;refine Hdm.out.mono ?_;clear Hdm;rintro e w3 ⟨A3,c3,A4,c4,rfl,-,-,-,-,hb3,-,-,ho4⟩
    have HI:=znd (show GcI w w3 K (X%Y+Y) G (.slice A4 (digs B64 (X%Y)).length c4) (.slice B ny cb)from by
     obtain⟨g4,hg4,hi4⟩:=ho4;have hml:X%Y<Y:=Nat.mod_lt _ (Nat.pos_of_ne_zero Hz.out);have hyin:=Hy.out;rw[<-Hny.out]at hyin⊢;refine⟨⟨g4,gb,c4,cb,X%Y,Y,A4,B,rfl,rfl,hi4,hyin.later hb3,?_,Nat.le_trans Hbel.out.size hg4,hgb,?_,by first|exact hyl|(rw[Hny.out];exact hyl),?_,rfl⟩,Below.after Hbel.out hb3⟩
     ·have:=hyin.glt (fun e=>Hz.out ((zaT (by decide)).1 e));exact .inr (.inr (by omega))
     ·exact Nat.le_trans (zbG (Nat.lt_trans hml (zaF (Nat.le_refl _)))) (by first|exact hyl|(rw[Hny.out];exact hyl))
     ·rw[<-Nat.gcd_rec,Nat.gcd_comm];exact HGG.out)
    have Hms:=znd (show X%Y+Y<X+Y from by have:=Nat.mod_lt X (Nat.pos_of_ne_zero Hz.out);have:=HXY.out;omega);clear ho4 hb3;generalize (digs B64 (X%Y)).length=n4 at*;go_wp2_with fail
    go_roundg (X%Y+Y)
    case measure=>exact Hms.out
    case rel=>exact HI.out
end Go.Proofs.YtegfiemlnnpidaaGreatDoor
