/-
 limbs: long, DivMod.
-/
import Derived.Test.YtfdmajmhmligpaaGreatDoorDig
import Derived.Test.YtfdmajmhmligpaaGreatDoorShf
import Derived.Test.YtfdmajmhmligpaaGreatDoorLimF
import Derived.Test.YtfdmajmhmligpaaGreatDoorVal
namespace Go.Proofs.YtfdmajmhmligpaaGreatDoor
set_option maxHeartbeats 2000000
open Go.RowKit

structure LongM (A V j:Nat) (q u:List Nat):Prop where
 ql:∀x∈q,x<B64
 ul:∀x∈u,x<B64
 top:val B64 (u.drop j)<V
 eq:val B64 q*V+val B64 u=A
 zero:∀i,i<j→nth q i=0
theorem zc0 (u:List Nat) (j k:Nat) (h:j+k≤u.length):val B64 (u.drop j)=valT B64 (u.drop j) k+B64^k*val B64 (u.drop (j+k)):=by
 have e:u.drop j=(u.drop j).take k++u.drop (j+k):=by
  conv=>lhs;rw[←List.take_append_drop k (u.drop j)]
  rw[List.drop_drop]
 rw[zbf _ _ _ (by simp;omega)]
 conv=>lhs;rw[e]
 rw[zbA]
 congr 3
 simp;omega
theorem zdP (u:List Nat) (j:Nat) (h:j≤u.length):val B64 u=valT B64 u j+B64^j*val B64 (u.drop j):=by
 have:=zc0 u 0 j (by omega)
 simpa using this
theorem LongM.next {A V j n:Nat} {q u u':List Nat} (h:LongM A V (j+1) q u) (hV:V<B64^n) (hj:j+n+1≤u.length) (hq:j<q.length) (hlen:u'.length=u.length) (hul:∀x∈u',x<B64)
 (hfar:∀i,i<j∨j+(n+1)≤i→nth u' i=nth u i) (hval:valT B64 (u'.drop j) (n+1)=valT B64 (u.drop j) (n+1)%V) (hlt:valT B64 (u.drop j) (n+1)/V<B64):
 LongM A V j (q.set j (valT B64 (u.drop j) (n+1)/V)) u':=by
 have hVp:0<V:=by have:=h.top;omega
 have hz:val B64 (u.drop (j+(n+1)))=0:=by
  have h1:=zc0 u (j+1) n (by omega)
  rcases Nat.eq_zero_or_pos (val B64 (u.drop (j+1+n)))with h2|h2
  ·rw[show j+(n+1)=j+1+n by omega];exact h2
  ·have h3:B64^n*1≤B64^n*val B64 (u.drop (j+1+n)):=Nat.mul_le_mul_left _ h2
   have h4:=h.top
   omega
 have hz':val B64 (u'.drop (j+(n+1)))=0:=by
  rw[←hz,←zaD,←zaD]
  rw[show(u'.drop (j+(n+1))).length=(u.drop (j+(n+1))).length by simp[hlen]]
  exact zbq _ _ _ _ fun i _=>by rw[zaS,zaS];exact hfar _ (by omega)
 have w1:=zc0 u j (n+1) (by omega)
 have w2:=zc0 u' j (n+1) (by omega)
 rw[hz,Nat.mul_zero,Nat.add_zero]at w1
 rw[hz',Nat.mul_zero,Nat.add_zero,hval]at w2
 have l1:=zdP u j (by omega)
 have l2:=zdP u' j (by omega)
 have lo:valT B64 u' j=valT B64 u j:=zbq _ _ _ _ fun i hi=>hfar i (.inl hi)
 refine⟨zcr h.ql _ _ hlt,hul,by rw[w2];exact Nat.mod_lt _ hVp,?_,fun i hi=>by rw[getD_set_ne _ _ _ _ (by omega)];exact h.zero i (by omega)⟩
 have q1:=zdP q j (by omega)
 have q2:=zdP (q.set j (valT B64 (u.drop j) (n+1)/V)) j (by simp;omega)
 rw[zcO hq,h.zero j (by omega),Nat.zero_add]at q1
 rw[zdm hq,zbx _ _ _ _ _ (Nat.le_refl _)]at q2
 have he:=h.eq
 have hd:=Nat.div_add_mod (valT B64 (u.drop j) (n+1)) V
 rw[q2,l2,lo,w2]
 rw[q1,l1,w1]at he
 generalize valT B64 (u.drop j) (n+1)%V=r at*
 generalize valT B64 (u.drop j) (n+1)/V=d at*
 generalize valT B64 (u.drop j) (n+1)=U at*
 generalize valT B64 q j=a at*
 generalize val B64 (q.drop (j+1))=b at*
 generalize valT B64 u j=c at*
 generalize B64^j=p at*
 rw[←he,←hd]
 generalize B64=B at*
 clear he hd w1 w2 l1 l2 lo q1 q2 hz hz' hval hfar hlen hul hlt hV hVp h hj hq
 grind
theorem LongM.done {a b s:Nat} {q u:List Nat} (h:LongM (a*2^s) (b*2^s) 0 q u):val B64 q=a/b∧val B64 u/2^s=a%b:=by
 have hp:0<2^s:=Nat.two_pow_pos s
 have ht:=h.top
 rw[List.drop_zero]at ht
 have hb:0<b:=by
  rcases Nat.eq_zero_or_pos b with e|e
  ·rw[e,Nat.zero_mul]at ht;omega
  ·exact e
 have h1:val B64 q=a*2^s/(b*2^s):=by
  rw[←h.eq,Nat.mul_comm,Nat.mul_add_div (Nat.mul_pos hb hp),Nat.div_eq_of_lt ht,Nat.add_zero]
 have h2:val B64 u=a*2^s%(b*2^s):=by
  rw[←h.eq,Nat.mul_comm,Nat.mul_add_mod,Nat.mod_eq_of_lt ht]
 rw[h1,h2,Nat.mul_div_mul_right _ _ hp,Nat.mul_mod_mul_right,Nat.mul_div_cancel _ hp]
 exact⟨rfl,rfl⟩
theorem zgY {l:List Nat} (h:Tidy l) (hl:l≠[]):nth l (l.length-1)≠0:=by
 rcases h with h|⟨x,hx,h0⟩
 ·exact absurd h hl
 ·rw[List.getLast?_eq_getElem?]at hx
  simp[nth,List.getD,hx,h0]
theorem ze5 {n k:Nat} (h1:B64^k≤n) (h2:n<B64^(k+1)):(digs B64 n).length=k+1:=by
 have hlt:=zdo (zbi (b:=B64) (by decide) n)
 rw[zar (by decide)]at hlt
 have h3:B64^k<B64^(digs B64 n).length:=Nat.lt_of_le_of_lt h1 hlt
 have h4:=(Nat.pow_lt_pow_iff_right (show 1<B64 by decide)).1 h3
 have hne:digs B64 n≠[]:=fun e=>by rw[e]at h4;simp at h4
 have h5:=zcB (b:=B64) (by decide) (zc1 (by decide) n) hne
 rw[zar (by decide)]at h5
 have h6:=(Nat.pow_lt_pow_iff_right (show 1<B64 by decide)).1 (Nat.lt_of_le_of_lt h5 h2)
 omega
theorem zjF {m:List Nat} {n s:Nat} (hy:∀x∈m,x<B64) (hn:n+1=m.length) (htop:0<nth m n) (hs:s=64-Lib.bitLen (nth m n)):
 s≤63∧B64^n*2^63≤val B64 m*2^s∧val B64 m*2^s<B64^(n+1)∧(digs B64 (val B64 m*2^s)).length=n+1:=by
 obtain⟨b1,b2,b3,b4⟩:=zc5 (nth m n) htop (zak za4 hy n)
 obtain⟨r,hr,e⟩:=top1 za4 hy n
 rw[hn,zaD]at e
 have p1:2^(Lib.bitLen (nth m n)-1)*2^s=2^63:=by rw[←Nat.pow_add];congr 1;omega
 have p2:2^Lib.bitLen (nth m n)*2^s=B64:=by rw[←Nat.pow_add,show Lib.bitLen (nth m n)+s=64 by omega];rfl
 have q1:B64^n*2^63≤val B64 m*2^s:=by
  rw[e,←p1,Nat.add_mul]
  have h1:2^(Lib.bitLen (nth m n)-1)*2^s≤nth m n*2^s:=Nat.mul_le_mul_right _ b3
  have h2:B64^n*(2^(Lib.bitLen (nth m n)-1)*2^s)≤B64^n*(nth m n*2^s):=Nat.mul_le_mul_left _ h1
  have h3:B64^n*(nth m n*2^s)=nth m n*B64^n*2^s:=by rw[←Nat.mul_assoc,Nat.mul_comm (B64^n)]
  omega
 have q2:val B64 m*2^s<B64^(n+1):=by
  have h1:val B64 m<(nth m n+1)*B64^n:=by rw[e,Nat.add_one_mul];omega
  have h2:(nth m n+1)*B64^n≤2^Lib.bitLen (nth m n)*B64^n:=Nat.mul_le_mul_right _ b4
  have h3:val B64 m*2^s<2^Lib.bitLen (nth m n)*B64^n*2^s:=Nat.mul_lt_mul_of_pos_right (by omega) (Nat.two_pow_pos _)
  have h4:2^Lib.bitLen (nth m n)*B64^n*2^s=B64^(n+1):=by rw[Nat.mul_right_comm,p2,Nat.pow_succ,Nat.mul_comm]
  omega
 refine⟨by omega,q1,q2,ze5 (Nat.le_trans ?_ q1) q2⟩
 exact Nat.le_mul_of_pos_right _ (Nat.two_pow_pos _)
theorem LongM.start {a V s L n M:Nat} {u:List Nat} (hs:s≤63) (ha:a<B64^L) (hV:B64^n*2^63≤V) (hM:M+n=L) (hu:val B64 u=a*2^s) (hul:∀x∈u,x<B64) (hlen:u.length=L+1):
 LongM (a*2^s) V M (List.replicate M 0) u:=by
 refine⟨fun x hx=>by rw[(List.mem_replicate.1 hx).2];exact za4,hul,?_,by rw[zbd,Nat.zero_mul,Nat.zero_add,hu],fun i _=>zbz _ _⟩
 rw[zdl _ hul _ (by omega),hu,Nat.div_lt_iff_lt_mul (Nat.pow_pos za4)]
 have h1:a*2^s<B64^L*2^s:=Nat.mul_lt_mul_of_pos_right ha (Nat.two_pow_pos _)
 have h2:B64^L*2^s≤B64^L*2^63:=Nat.mul_le_mul_left _ (Nat.pow_le_pow_right (by decide) hs)
 have h3:B64^n*2^63*B64^M≤V*B64^M:=Nat.mul_le_mul_right _ hV
 have h4:B64^n*2^63*B64^M=B64^L*2^63:=by rw[Nat.mul_right_comm,←Nat.pow_add,show n+M=L by omega]
 omega
theorem LongM.fits {A V j n:Nat} {q u:List Nat} (h:LongM A V (j+1) q u) (hj:j+n+1≤u.length):valT B64 (u.drop j) (n+1)<V*B64:=by
 have h1:=zc0 u j (n+1) (by omega)
 have h2:=zcO (b:=B64) (l:=u) (k:=j) (by omega)
 have h3:=h.top
 have h4:=zak za4 h.ul j
 have h5:B64*(val B64 (u.drop (j+1))+1)≤B64*V:=Nat.mul_le_mul_left _ h3
 rw[Nat.mul_add,Nat.mul_one]at h5
 rw[Nat.mul_comm V]
 omega
structure LongW (w wr:World) (gu gq:Nat) (B:Option Addr) (v q u:List Nat):Prop where
 bu:Blk wr gu 138 (ints .u64 u)
 bq:Blk wr gq 138 (ints .u64 q)
 rv:Rd wr .u64 B v
 below:Below w.heap.size w wr
theorem LongW.next {w wr w2:World} {gu gq j n d:Nat} {B:Option Addr} {v q u u':List Nat} (h:LongW w wr gu gq B v q u) (hW:Win wr w2 gu j (n+1) u u') (hu:w.heap.size≤gu) (hq:w.heap.size≤gq) (hne:gu≠gq)
 (hv:∀i,i<v.length→(adr B i).block≠gu∧(adr B i).block≠gq):LongW w (w2.setCell ⟨gq,j,none⟩ (.int .u64 (d:Int))) gu gq B v (q.set j d) u':=by
 have b1:Blk w2 gq 138 (ints .u64 q):=(hW.gr.block gq h.bq.lt (fun e=>hne (by injection e with e;exact e.symm))).trans h.bq
 have b2:=b1.set_ j (.int .u64 (d:Int))
 rw[zbj]at b2
 refine⟨hW.blk.far (by exact hne) _,b2,?_,(Below.of_only h.below hW.gr hu).setCell hq _⟩
 have r1:=h.rv.only hW.gr (fun i hi=>(hv i hi).1)
 exact⟨r1.sl,fun i hi=>by rw[World.cell?_setCell_other _ _ _ _ (fun e=>(hv i hi).2 (by rw[←e]))];exact r1.cell i hi⟩

set_option maxRecDepth 100000 in
theorem zkL (w:World) (A B:Option Addr) (c d:Nat) (l m:List Nat) (hl:l.length≤900000000000) (hm2:2≤m.length) (hml:m.length≤l.length) (ha:Rd w .u64 A l) (hb:Rd w .u64 B m)
 (hx:∀x∈l,x<B64) (hy:∀x∈m,x<B64) (htop:0<nth m (m.length-1)):
 Calls Tryz.prog 137 #[.slice A l.length c,.slice B m.length d] w (zh2 (digs B64 (val B64 l/val B64 m)) (digs B64 (val B64 l%val B64 m)) w):=by
 obtain⟨n,hn⟩:∃n,n+1=m.length:=⟨m.length-1,by omega⟩
 have en:m.length-1=n:=by omega
 rw[en]at htop
 obtain⟨s,hs⟩:∃s,s=64-Lib.bitLen (nth m n):=⟨_,rfl⟩
 obtain⟨t1,t2,t3,t4⟩:=zjF hy hn htop hs
 obtain⟨b1,b2,-,-⟩:=zc5 (nth m n) htop (zak za4 hy n)
 have es:(64:Int)-(Lib.bitLen (nth m n):Int)=(s:Int):=by omega
 have hcb:=hb.cell n (by omega)
 have hsb:=hb.sl
 have h1:=zaA
 have hyn:=zak za4 hy n
 have Hlz:=znd (Tryz.bits_LeadingZeros64 (nth m n:Nat) w (by omega) (by simp only[B64]at hyn;omega))
 rw[Int.toNat_natCast,es]at Hlz
 have Hup1:=znd (zi9 w B d s m (by omega) (by omega) hb hy)
 obtain⟨L,hL⟩:∃L,L=l.length:=⟨_,rfl⟩
 have hup2:∀W,Rd W .u64 A l→Calls Tryz.prog 143 #[.slice A L c,.int .i64 (s:Int)] W (RetL .u64 (digs B64 (val B64 l*2^s)) W):=fun W hr=>by
  rw[hL];exact zi9 W A c s l (by omega) (by omega) hr hx
 have Hup2:=znd hup2
 clear hup2
 have Hav:=znd (zdo hx)
 have Ha:=znd ha
 have T2:=znd t2;have T4:=znd t4;have T3:=znd t3
 have hn1:1≤n:=by omega
 have i1:(0:Int)≤(n:Int)+1-1:=by omega
 have i2:(n:Int)+1-1=(n:Int):=by omega
 clear ha hb hx hy t2 t3 t4 hs b1 b2 es htop hyn en
 have hlN:L≤900000000000:=by omega
 have hnL:n+1≤L:=by omega
 obtain⟨M,hM⟩:∃M,M+n=L:=⟨L-n,by omega⟩
 have hM1:(L:Int)+1-((n:Int)+1)=(M:Int):=by omega
 have HM:=znd hM
 clear hM
 rw[←hn]at*
 rw[←hL]at*
 clear hm2 hml hl hn hL
 have hmk1:=fun W=>run_make_row' (P:=Tryz.prog) 44 138 (.int .u64 0) 8 Tryz.underlying44 zcc rfl .i64 .i64 (L+1) (by omega) (by omega) W
 simp only[Int.natCast_add,Int.cast_ofNat_Int]at hmk1
 have hmk2:=fun W=>run_make_row' (P:=Tryz.prog) 44 138 (.int .u64 0) 8 Tryz.underlying44 zcc rfl .i64 .i64 M (by have:=HM.out;omega) (by have:=HM.out;omega) W
 go_enter Tryz.func137,Tryz.ntmps137
 go_wp2_with fail
 refine Hlz.out.mono ?_
 clear Hlz
 rintro e w' ⟨rfl,hw⟩
 have hw2:=hw.symm;subst hw2;clear hw
 go_wp2_with fail
 refine Hup1.out.mono ?_
 clear Hup1
 rintro e w1 ⟨Bv,cv,rfl,hcv,hrv,hbv,hfv⟩
 have Hrv:=znd hrv;have Hbv:=znd hbv;have Hfv:=znd hfv
 clear hrv hbv hfv hcv
 rw[T4.out]
 go_wp2_with fail
 refine Calls.mono (Hup2.out _ ((Ha.out.below Hbv.out (Nat.le_refl _)).alloc _)) ?_
 clear Hup2
 rintro e w2 ⟨Au,cu,rfl,hcu,hru,hbu,hfu⟩
 have hz1:w.heap.size≤w1.heap.size:=Hbv.out.size
 have hz2:w1.heap.size+1≤w2.heap.size:=by have:=hbu.size;simpa using this
 have hul2:(digs B64 (val B64 l*2^s)).length≤L+1:=zbG (by
  have h5:=Hav.out
  have h6:val B64 l*2^s<B64^L*2^s:=Nat.mul_lt_mul_of_pos_right h5 (Nat.two_pow_pos _)
  have h7:B64^L*2^s≤B64^L*B64:=Nat.mul_le_mul_left _ (show 2^s≤2^64 from Nat.pow_le_pow_right (by decide) (by omega))
  rw[Nat.pow_succ];omega)
 obtain⟨w3,hcp,hb3,hg3⟩:=zd3 (P:=Tryz.prog) w2 44 44 3 138 138 w1.heap.size (L+1) (L+1) cu (digs B64 (val B64 l*2^s)).length Au .u64 (List.replicate (L+1) 0) (digs B64 (val B64 l*2^s))
  Tryz.underlying44 (by kernel_rfl) (by rw[←zbE];exact(Blk.new w1 _ _).below hbu (by simp)) (by simp) hru (by omega)
 rw[List.take_length]at hb3
 have hz3:w2.heap.size≤w3.heap.size:=hg3.size
 obtain⟨u0,hu0⟩:∃u0,u0=digs B64 (val B64 l*2^s)++List.drop (digs B64 (val B64 l*2^s)).length (List.replicate (L+1) 0):=⟨_,rfl⟩
 have hu1:u0.length=L+1:=by rw[hu0];simp;omega
 have hu2:val B64 u0=val B64 l*2^s:=by rw[hu0,zbA,List.drop_replicate,zbd,Nat.mul_zero,Nat.add_zero,zar (by decide)]
 have hu3:∀x∈u0,x<B64:=by
  rw[hu0];intro x hxx
  rcases List.mem_append.1 hxx with h|h
  ·exact zbi (by decide) _ x h
  ·rw[(List.mem_replicate.1 (List.mem_of_mem_drop h)).2];exact za4
 rw[←hu0]at hb3
 have HM0:=znd (LongM.start (M:=M) t1 Hav.out T2.out HM.out hu2 hu3 hu1)
 have hvl:∀x∈digs B64 (val B64 m*2^s),x<B64:=zbi (by decide) _
 have hV:val B64 (digs B64 (val B64 m*2^s))=val B64 m*2^s:=zar (by decide) _
 have hVt:0<nth (digs B64 (val B64 m*2^s)) n:=by
  have:=zgY (zc1 (b:=B64) (by decide) (val B64 m*2^s)) (fun e=>by have:=T4.out;rw[e]at this;simp at this)
  rw[T4.out,Nat.add_sub_cancel]at this;omega
 have hfvl:∀i,i<(digs B64 (val B64 m*2^s)).length→(adr Bv i).block<w1.heap.size:=fun i hi=>Hrv.out.lt i hi
 have HW0:=znd (show LongW w (w3.alloc (.cells (madeCells #[.int .u64 0] M) 138)) w1.heap.size w3.heap.size Bv (digs B64 (val B64 m*2^s)) (List.replicate M 0) u0 from by
  refine⟨hb3.alloc _,?_,?_,?_⟩
  ·rw[←zbE];exact Blk.new _ _ _
  ·exact(((Hrv.out.alloc _).below hbu (Nat.le_refl _)).only hg3 (fun i hi=>by have:=hfvl i hi;omega)).alloc _
  ·have b1:Below w.heap.size w w2:=(Hbv.out.alloc hz1 _).trans (hbu.mono (by simp;omega))
   exact(Below.of_only b1 hg3 hz1).alloc (by omega) _)
 have Hne:=znd (show w1.heap.size≠w3.heap.size by omega)
 have Hvn:=znd (show∀i,i<(digs B64 (val B64 m*2^s)).length→(adr Bv i).block≠w1.heap.size∧(adr Bv i).block≠w3.heap.size from fun i hi=>by have:=hfvl i hi;omega)
 have Hvl:=znd hvl;have HV:=znd hV;have HVt:=znd hVt;have Hu1:=znd hu1
 clear hb3 hu0 hu1 hu2 hu3 hvl hV hVt hfvl hru hbu hfu hg3 Hrv Hfv hul2
 generalize digs B64 (val B64 m*2^s)=v at*
 go_wp2_with fail
 go_loopw [41] (fun i wr=>∃(k:Nat) (q u:List Nat),k≤M∧i=.int .i64 ((M-k:Nat):Int)∧q.length=M∧u.length=L+1∧Hid (LongM (val B64 l*2^s) (val B64 m*2^s) k q u)∧Hid (LongW w wr w1.heap.size w3.heap.size Bv v q u)) (fun i _=>M-(intOf i).toNat)
 case atStart=>exact⟨M,List.replicate M 0,u0,Nat.le_refl _,by simp,by simp,Hu1.out,HM0,HW0⟩
 case round=>
  clear HM0 HW0 Hu1
  obtain⟨k,q,u,hk,rfl,hq,hu,hM,hW⟩:=hrel
  rcases k with _|k
  ·obtain⟨d1,d2⟩:=hM.out.done
   have Hfin:=znd (show trim q=digs B64 (val B64 l/val B64 m) by rw[zb5 (b:=B64) (by decide) hM.out.ql,d1])
   have htd:=zbP wr (some ⟨w3.heap.size,0,none⟩) M q (by have:=HM.out;omega) (by omega) (Rd.of_blk hW.out.bq)
   have hrt:=(Rd.of_blk hW.out.bq).take (used q)
   have hsh:=zlQ wr (some ⟨w1.heap.size,0,none⟩) (L+1) s u (by omega) (by omega) (Rd.of_blk hW.out.bu) hM.out.ul
   rw[hq]at htd
   rw[hu,d2]at hsh
   have Htd:=znd htd;have Hrt:=znd hrt;have Hsh:=znd hsh;have Hb2:=znd hW.out.below
   clear htd hrt hsh hM hW d1 d2 hq hu
   simp only[Nat.sub_zero]
   go_wp2_with fail
   refine Htd.out.mono ?_
   intro e w' hret
   obtain⟨A',c',rfl,hc',hr',rfl⟩:=hret.rd Hrt.out
   have HR:=znd hr';have HC:=znd hc';clear hr' hc' hret Htd Hrt
   go_wp2_with fail
   refine Hsh.out.mono ?_
   rintro e w4 ⟨A4,c4,rfl,ho,hb4⟩
   have HO:=znd ho;have Hb4:=znd hb4
   clear ho hb4
   go_wp2_with fail
   go_ret2
   rw[←Hfin.out]
   have hob:OwnD w.heap.size w4 A4 (digs B64 (val B64 l%val B64 m)).length c4 (digs B64 (val B64 l%val B64 m)):=by
    obtain⟨g,hg,hi⟩:=HO.out
    exact⟨g,Nat.le_trans Hb2.out.size hg,hi⟩
   exact⟨A',c',A4,c4,rfl,HC.out,hob.len,HR.out.1.below Hb4.out (Nat.le_refl _),hob.rd.1,Below.after Hb2.out Hb4.out,HR.out.2 _ (Fr.of_blk (by omega) _),hob.rd.2,hob⟩
  ·have HD:=znd (zj6 wr w1.heap.size k (n+1) (L+1-k) cv Bv u v T4.out.symm (by omega) (by have:=HM.out;omega) (by omega) hW.out.bu hW.out.rv (fun i hi=>(Hvn.out i hi).1) hM.out.ul Hvl.out HVt.out (by rw[HV.out];exact hM.out.fits (by have:=HM.out;omega)))
   have i1:(M:Int)-1-((M-(k+1):Nat):Int)=(k:Int):=by omega
   have i2:((M-(k+1):Nat):Int)<(M:Int):=by omega
   have i3:((M-(k+1):Nat):Int)+1=((M-k:Nat):Int):=by omega
   have hm:M-(M-k)<M-(M-(k+1)):=by omega
   have hkM:k<M:=by omega
   have i4:(k:Int)+((n:Int)+1)+1≤(L:Int)+1:=by have:=HM.out;omega
   have i5:(0:Int)≤(k:Int)+((n:Int)+1)+1:=by omega
   have i6:(k:Int)≤(k:Int)+((n:Int)+1)+1:=by omega
   generalize M-(k+1)=ii at*
   have HM1:=znd hM.out;have HW1:=znd hW.out
   have hqlt:=znd (show valT B64 (u.drop k) (n+1+1)/val B64 v<B64 from by
    have h5:=hM.out.fits (n:=n+1) (by have:=HM.out;omega)
    rw[HV.out]
    exact(Nat.div_lt_iff_lt_mul (by rcases Nat.eq_zero_or_pos (val B64 m*2^s)with h|h;rw[h,Nat.zero_mul]at h5;omega;exact h)).2 (by rw[Nat.mul_comm];exact h5))
   clear hM hW
   go_wp2_with fail
   rw[show k+(n+1)+1-k=n+1+1 by omega]
   refine HD.out.mono ?_
   clear HD
   rintro e w4 ⟨u',rfl,hWn,hval⟩
   rw[HV.out]at hval hqlt⊢
   have hbq:=(hWn.gr.block w3.heap.size HW1.out.bq.lt (fun e=>Hne.out (by injection e with e;exact e.symm))).trans HW1.out.bq
   have hcell:=Blk.cell (w:=w4) hbq k
   rw[zaC .u64 q k (by omega)]at hcell
   have hfz:=Blk.frozen (w:=w4) hbq k
   have HMn:=znd (HM1.out.next (n:=n+1) T3.out (by have:=HM.out;omega) (by omega) hWn.len hWn.lt hWn.far hval hqlt.out)
   have HWn:=znd (fun dd=>HW1.out.next (d:=dd) hWn (by omega) (by omega) Hne.out Hvn.out)
   have Hul:=znd (show u'.length=L+1 by rw[hWn.len];exact hu)
   clear hbq hWn hval HM1 HW1 hqlt
   generalize valT B64 (u.drop k) (n+1+1)/(val B64 m*2^s)=dd at*
   generalize nth q k=qk at*
   go_wp2_with fail
   go_roundw
   case rel=>exact⟨k,q.set k dd,u',by omega,rfl,by simpa using hq,Hul.out,HMn,HWn.out dd⟩
   case measure=>simp[intOf];omega

end Go.Proofs.YtfdmajmhmligpaaGreatDoor
