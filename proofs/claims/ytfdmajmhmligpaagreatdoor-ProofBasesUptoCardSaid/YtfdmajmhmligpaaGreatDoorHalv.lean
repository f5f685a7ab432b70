/-
 limbs: halving, Gcd.
-/
import Derived.Test.YtfdmajmhmligpaaGreatDoorDivG
namespace Go.Proofs.YtfdmajmhmligpaaGreatDoor
set_option maxHeartbeats 400000
open Go.RowKit

structure NumIn (w:World) (g k c X:Nat) (s:List Nat):Prop where
 blk:Blk w g 138 (ints .u64 s)
 lt:∀x∈s,x<B64
 kle:k≤s.length
 kc:k≤c
 len:s.length≤17592186044000
 kb:k≤900000000000
 eq:valT B64 s k=X
theorem NumIn.only {w w':World} {g g' k c X:Nat} {s:List Nat} (h:NumIn w g k c X s) (ho:w.grownBy w' (some g')) (hne:g≠g'):NumIn w' g k c X s:=
 ⟨(ho.block g h.blk.lt (fun e=>hne (by injection e))).trans h.blk,h.lt,h.kle,h.kc,h.len,h.kb,h.eq⟩
theorem NumIn.drewN {w:World} {g k c X:Nat} {s:List Nat} (h:NumIn w g k c X s) (n:Nat):NumIn (w.drewN n) g k c X s:=⟨h.blk,h.lt,h.kle,h.kc,h.len,h.kb,h.eq⟩
theorem NumIn.rd {w:World} {g k c X:Nat} {s:List Nat} (h:NumIn w g k c X s):Rd w .u64 (some ⟨g,0,none⟩) (s.take k):=(Rd.of_blk h.blk).take k
theorem NumIn.tlen {w:World} {g k c X:Nat} {s:List Nat} (h:NumIn w g k c X s):(s.take k).length=k:=by have:=h.kle;simp;omega
theorem NumIn.val {w:World} {g k c X:Nat} {s:List Nat} (h:NumIn w g k c X s):val B64 (s.take k)=X:=by rw[←zbf _ _ _ h.kle];exact h.eq
theorem NumIn.tlt {w:World} {g k c X:Nat} {s:List Nat} (h:NumIn w g k c X s):∀x∈s.take k,x<B64:=fun x hx=>h.lt x (List.mem_of_mem_take hx)
theorem NumIn.of_in {w:World} {g k c X:Nat} {A:Option Addr} (h:InBlk w g A k c (digs B64 X)) (h0:X≠0) {K:Nat} (hX:X<B64^K) (hK:K≤900000000000):A=some ⟨g,0,none⟩∧∃s,NumIn w g k c X s:=by
 rcases h.at_ with⟨he,-⟩|⟨rfl,hc,s,hb,hx,ht,hk,hl⟩
 ·rw[zaT (by decide)]at he;exact absurd he h0
 ·refine⟨rfl,s,hb,hx,hk,hc,hl,by rw[h.len];exact Nat.le_trans (zbG hX) hK,?_⟩
  rw[zbf _ _ _ hk,ht,zar (by decide)]
structure Two (w w':World) (g1 g2:Nat):Prop where
 os:w'.os=w.os
 tape:w'.tape=w.tape
 output:w'.output=w.output
 size:w.heap.size≤w'.heap.size
 block:∀b,b<w.heap.size→b≠g1→b≠g2→w'.heap[b]?=w.heap[b]?
theorem Two.refl (w:World) (g1 g2:Nat):Two w w g1 g2:=⟨rfl,rfl,rfl,Nat.le_refl _,fun _ _ _ _=>rfl⟩
theorem Two.only {w w1 w2:World} {g1 g2 g:Nat} (h:Two w w1 g1 g2) (ho:w1.grownBy w2 (some g)) (hg:g=g1∨g=g2):Two w w2 g1 g2:=
 ⟨ho.os.trans h.os,ho.tape.trans h.tape,ho.output.trans h.output,Nat.le_trans h.size ho.size,fun b hb h1 h2=>(ho.block b (Nat.lt_of_lt_of_le hb h.size) (fun e=>by injection e;omega)).trans (h.block b hb h1 h2)⟩
theorem Two.drewN {w w1:World} {g1 g2:Nat} (h:Two w w1 g1 g2) (n:Nat):Two w (w1.drewN n) g1 g2:=⟨h.os,h.tape,h.output,h.size,h.block⟩
theorem Two.below {w w1 w2:World} {g1 g2:Nat} (h:Two w w1 g1 g2) (hb:Below w1.heap.size w1 w2):Two w w2 g1 g2:=
 ⟨hb.os.trans h.os,hb.tape.trans h.tape,hb.output.trans h.output,Nat.le_trans h.size hb.size,fun b hlt h1 h2=>(hb.block b (Nat.lt_of_lt_of_le hlt h.size)).trans (h.block b hlt h1 h2)⟩
theorem Two.tz {w w1:World} {g1 g2:Nat} (h:Two w w1 g1 g2) (ht:Tz w) (h1:2≠g1) (h2:2≠g2):Tz w1:=ht.keep (h.block _ ht.lt h1 h2)

theorem zcW {l:List Nat} {n:Nat} (hx:∀x∈l,x<B64) (h:val B64 l<B64^n):used l≤n:=by
 rw[zlW (b:=B64) (by decide) hx]
 rcases Nat.eq_zero_or_pos (val B64 l)with h0|h0
 ·rw[h0];exact Nat.zero_le _
 ·have hne:digs B64 (val B64 l)≠[]:=fun e=>by rw[zaT (by decide)]at e;omega
  have h5:=zcB (b:=B64) (by decide) (zc1 (by decide) (val B64 l)) hne
  rw[zar (by decide)]at h5
  have h6:=(Nat.pow_lt_pow_iff_right (show 1<B64 by decide)).1 (Nat.lt_of_le_of_lt h5 h)
  omega
theorem zft {X Y t G:Nat} (hY:Y%2=1) (hlt:Y<X) (ht:ziN (X-Y) t) (hG:Nat.gcd X Y=G):(X-Y)/2^t%2=1∧Nat.gcd ((X-Y)/2^t) Y=G∧(X-Y)/2^t+Y<X+Y∧(X-Y)/2^t≠0:=by
 obtain⟨m,hm⟩:=ht
 have e:(X-Y)/2^t=2*m+1:=by rw[hm,Nat.mul_div_cancel_left _ (Nat.two_pow_pos _)]
 have h1:(X-Y)/2^t≤X-Y:=Nat.div_le_self _ _
 have hg:Nat.gcd (X-Y) Y=Nat.gcd X Y:=zjz X Y (by omega)
 rw[hm,zdU _ _ _ hY,hG]at hg
 rw[e]at h1⊢
 exact⟨by omega,hg,by omega,by omega⟩

structure HvI (w wr:World) (g1 g2 gk G:Nat) (xv yv:Value):Prop where
 ex:∃ga gb ka ca kb cb X Y sa sb,xv=.slice (some ⟨ga,0,none⟩) ka ca∧yv=.slice (some ⟨gb,0,none⟩) kb cb∧(ga=g1∧gb=g2∨ga=g2∧gb=g1)∧NumIn wr ga ka ca X sa∧NumIn wr gb kb cb Y sb∧X%2=1∧Y%2=1∧Nat.gcd X Y=G∧gk=X+Y
 two:Two w wr g1 g2
def RetH (w:World) (g1 g2 v:Nat) (e:Ending) (w':World):Prop:=
 ∃A c,e=.returned (.slice A (digs B64 v).length c)∧(digs B64 v).length≤c∧Rd w' .u64 A (digs B64 v)∧Fr w.heap.size A (digs B64 v)∧Two w w' g1 g2

theorem NumIn.ltp {w:World} {g k c X:Nat} {s:List Nat} (h:NumIn w g k c X s):X<B64^k:=by rw[←h.eq];exact zc3 za4 h.lt k

set_option maxRecDepth 100000 in
theorem zg8 (w:World) (g1 g2 k1 c1 k2 c2 X0 Y0:Nat) (s1 s2:List Nat) (hne:g1≠g2) (h1:NumIn w g1 k1 c1 X0 s1) (h2:NumIn w g2 k2 c2 Y0 s2) (hX:X0≠0) (hY:Y0≠0) (hT:Tz w):
 Calls Tryz.prog 135 #[.slice (some ⟨g1,0,none⟩) k1 c1,.slice (some ⟨g2,0,none⟩) k2 c2] w (RetH w g1 g2 (Nat.gcd X0 Y0)):=by
 have n1:=hT.ne h1.blk
 have n2:=hT.ne h2.blk
 have htw1:=zdq w (some ⟨g1,0,none⟩) c1 (s1.take k1) (by rw[h1.tlen];have:=h1.kb;omega) h1.rd h1.tlt (by rw[h1.val];exact hX) hT
 have htw2:=zdq w (some ⟨g2,0,none⟩) c2 (s2.take k2) (by rw[h2.tlen];have:=h2.kb;omega) h2.rd h2.tlt (by rw[h2.val];exact hY) hT
 rw[h1.tlen,h1.val]at htw1
 rw[h2.tlen,h2.val]at htw2
 have Htw1:=znd htw1;have Htw2:=znd htw2
 have H1:=znd h1;have H2:=znd h2;have HT:=znd hT;have N1:=znd n1;have N2:=znd n2
 have Hne:=znd hne;have HX:=znd hX;have HY:=znd hY
 clear htw1 htw2 h1 h2 hT n1 n2 hne hX hY
 go_enter Tryz.func135,Tryz.ntmps135
 go_wp2_with fail
 refine Htw1.out.mono ?_
 clear Htw1
 rintro e w' ⟨p,rfl,hp,hpl,rfl⟩
 go_wp2_with fail
 refine Htw2.out.mono ?_
 clear Htw2
 rintro e w' ⟨q,rfl,hq,hql,rfl⟩
 have Hp:=znd hp;have Hq:=znd hq
 have hpb:p≤64*900000000000:=by have:=H1.out.kb;omega
 have hqb:q≤64*900000000000:=by have:=H2.out.kb;omega
 clear hp hq hpl hql
 have Hd1:=znd (zd5 w g1 k1 c1 p s1 H1.out.kle H1.out.kc H1.out.len (by omega) H1.out.blk H1.out.lt)
 rw[H1.out.eq]at Hd1
 go_wp2_with fail
 refine Hd1.out.mono ?_
 clear Hd1
 rintro e w1 ⟨A1,ka,ca,rfl,hi1,hg1⟩
 have Hx1:=znd (show∃m,X0/2^p=2*m+1∧X0=2^p*(2*m+1)from by
  obtain⟨m,hm⟩:=Hp.out
  exact⟨m,by rw[hm,Nat.mul_div_cancel_left _ (Nat.two_pow_pos _)],hm⟩)
 have Hy1:=znd (show∃m,Y0/2^q=2*m+1∧Y0=2^q*(2*m+1)from by
  obtain⟨m,hm⟩:=Hq.out
  exact⟨m,by rw[hm,Nat.mul_div_cancel_left _ (Nat.two_pow_pos _)],hm⟩)
 obtain⟨rfl,sa,hna⟩:=NumIn.of_in hi1 (by obtain⟨m,hm,-⟩:=Hx1.out;omega) (Nat.lt_of_le_of_lt (Nat.div_le_self _ _) H1.out.ltp) H1.out.kb
 have h2':=H2.out.only hg1 (fun e=>Hne.out e.symm)
 have Hd2:=znd (zd5 w1 g2 k2 c2 q s2 h2'.kle h2'.kc h2'.len (by omega) h2'.blk h2'.lt)
 rw[h2'.eq]at Hd2
 have Htwo1:=znd ((Two.refl w g1 g2).only hg1 (.inl rfl))
 have Hna:=znd hna
 clear hi1 hg1 hna h2'
 go_wp2_with fail
 refine Hd2.out.mono ?_
 clear Hd2
 rintro e w2 ⟨A2,kb,cb,rfl,hi2,hg2⟩
 obtain⟨rfl,sb,hnb⟩:=NumIn.of_in hi2 (by obtain⟨m,hm,-⟩:=Hy1.out;omega) (Nat.lt_of_le_of_lt (Nat.div_le_self _ _) H2.out.ltp) H2.out.kb
 have HI:=znd (show HvI w w2 g1 g2 (X0/2^p+Y0/2^q) (Nat.gcd (X0/2^p) (Y0/2^q)) (.slice (some ⟨g1,0,none⟩) ka ca) (.slice (some ⟨g2,0,none⟩) kb cb)from
  ⟨⟨g1,g2,ka,ca,kb,cb,_,_,sa,sb,rfl,rfl,.inl ⟨rfl,rfl⟩,Hna.out.only hg2 Hne.out,hnb,by obtain⟨m,hm,-⟩:=Hx1.out;omega,by obtain⟨m,hm,-⟩:=Hy1.out;omega,rfl,rfl⟩,Htwo1.out.only hg2 (.inr rfl)⟩)
 have HG:=znd (show Nat.gcd X0 Y0=2^(min p q)*Nat.gcd (X0/2^p) (Y0/2^q)from by
  obtain⟨m,hm,e1⟩:=Hx1.out
  obtain⟨m',hm',e2⟩:=Hy1.out
  rw[hm,hm',←zhF p q _ _ (by omega) (by omega),←e1,←e2])
 clear hi2 hg2 hnb Hna Htwo1 Hx1 Hy1 Hp Hq H1 H2 HX HY
 generalize X0/2^p+Y0/2^q=gk0 at*
 generalize Nat.gcd (X0/2^p) (Y0/2^q)=G at*
 go_wp2_with fail
 go_loopg [0,1] gk0 (fun gk xv yv wr=>HvI w wr g1 g2 gk G xv yv)
 case atStart=>exact HI.out
 case round=>
  clear HI
  obtain⟨ga,gb,ka,ca,kb,cb,X,Y,sa,sb,rfl,rfl,hgg,hx,hy,hxo,hyo,hG,rfl⟩:=hrel.ex
  have Htwo:=znd hrel.two
  have Hgg:=znd hgg
  have hcmp:=zdO wr (some ⟨ga,0,none⟩) (some ⟨gb,0,none⟩) ca cb (sa.take ka) (sb.take kb) (by rw[hx.tlen];have:=hx.kb;omega) (by rw[hy.tlen];have:=hy.kb;omega) hx.rd hy.rd hx.tlt hy.tlt
  rw[hx.tlen,hy.tlen,hx.val,hy.val]at hcmp
  have Hcmp:=znd hcmp
  have Hx:=znd hx;have Hy:=znd hy;have HGG:=znd hG;have Hxo:=znd hxo;have Hyo:=znd hyo
  clear hrel hgg hcmp hx hy hG hxo hyo
  go_wp2_with fail
  refine Hcmp.out.mono ?_
  clear Hcmp
  rintro e w4 ⟨rfl,qq,rfl⟩
  rcases Nat.lt_trichotomy X Y with hlt|heq|hgt
  ·have hc0:cmpN X Y=-1:=zcJ hlt
   rw[hc0]
   have hneb:ga≠gb:=fun e=>Hne.out (by rcases Hgg.out with⟨e1,e2⟩|⟨e1,e2⟩<;>omega)
   have hles:=zdg (wr.drewN qq) gb kb cb ca (some ⟨ga,0,none⟩) sb (sa.take ka) Hy.out.kle (by have:=Hy.out.len;omega) (by rw[Hx.out.tlen];have:=Hx.out.kb;omega) Hy.out.blk (Hx.out.rd.drewN qq) (fun i _=>hneb) Hy.out.lt Hx.out.tlt
    (zcW Hx.out.tlt (by rw[Hx.out.val];have:=Hy.out.ltp;omega)) (by rw[Hx.out.val,Hy.out.eq];omega)
   rw[Hx.out.tlen,Hx.out.val]at hles
   have Hles:=znd hles
   have Hneb:=znd hneb
   have Hlt:=znd hlt
   clear hles hc0 hneb hlt
   go_wp2_with fail
   refine Hles.out.mono ?_
   clear Hles
   rintro e w5 ⟨rfl,s5,hb5,hl5,hx5,-,hv5,hg5⟩
   have hn5:NumIn w5 gb kb cb (Y-X) s5:=⟨hb5,hx5,by rw[hl5];exact Hy.out.kle,Hy.out.kc,by rw[hl5];exact Hy.out.len,Hy.out.kb,by rw[hv5,Hy.out.eq]⟩
   have htwo5:Two w w5 g1 g2:=(Htwo.out.drewN qq).only hg5 (by rcases Hgg.out with⟨e1,e2⟩|⟨e1,e2⟩<;>omega)
   have hT5:Tz w5:=htwo5.tz HT.out N1.out N2.out
   have htw:=zdq w5 (some ⟨gb,0,none⟩) cb (s5.take kb) (by rw[hn5.tlen];have:=hn5.kb;omega) hn5.rd hn5.tlt (by rw[hn5.val];have:=Hlt.out;omega) hT5
   rw[hn5.tlen,hn5.val]at htw
   have Htw:=znd htw;have Hn5:=znd hn5;have Htwo5:=znd htwo5
   have HB5:=znd ((Hx.out.drewN qq).only hg5 Hneb.out)
   clear hb5 hl5 hx5 hv5 hg5 hn5 htwo5 hT5 htw Htwo
   go_wp2_with fail
   refine Htw.out.mono ?_
   clear Htw
   rintro e w' ⟨tt,rfl,ht,htl,rfl⟩
   have htb:tt≤64*900000000000:=by have:=Hn5.out.kb;omega
   have Hst:=znd (zft (G:=G) Hxo.out Hlt.out ht (by rw[Nat.gcd_comm];exact HGG.out))
   have Hdn:=znd (zd5 w5 gb kb cb tt s5 Hn5.out.kle Hn5.out.kc Hn5.out.len (by omega) Hn5.out.blk Hn5.out.lt)
   rw[Hn5.out.eq]at Hdn
   clear ht htl
   go_wp2_with fail
   refine Hdn.out.mono ?_
   clear Hdn
   rintro e w6 ⟨A6,k6,c6,rfl,hi6,hg6⟩
   obtain⟨rfl,s6,hn6⟩:=NumIn.of_in hi6 Hst.out.2.2.2 (Nat.lt_of_le_of_lt (Nat.div_le_self _ _) Hn5.out.ltp) Hn5.out.kb
   have HI:=znd (show HvI w w6 g1 g2 ((Y-X)/2^tt+X) G (.slice (some ⟨gb,0,none⟩) k6 c6) (.slice (some ⟨ga,0,none⟩) ka ca)from
    ⟨⟨gb,ga,k6,c6,ka,ca,_,X,s6,sa,rfl,rfl,by rcases Hgg.out with⟨e1,e2⟩|⟨e1,e2⟩<;>omega,hn6,HB5.out.only hg6 Hneb.out,Hst.out.1,Hxo.out,Hst.out.2.1,rfl⟩,Htwo5.out.only hg6 (by rcases Hgg.out with⟨e1,e2⟩|⟨e1,e2⟩<;>omega)⟩)
   have Hms:=znd Hst.out.2.2.1
   clear hi6 hg6 hn6 Hst
   go_wp2_with fail
   go_roundg ((Y-X)/2^tt+X)
   case measure=>have:=Hms.out;omega
   case rel=>exact HI.out
  ·subst heq
   rw[zcS]
   have hmn:∀W,(Builtin.min_ #[3,3] 3 #[.int .i64 (p:Int),.int .i64 (q:Int)]).run Tryz.prog W=.ok (.int .i64 ((min p q:Nat):Int)) W:=fun W=>by
    rw[run_min_int2];congr 2;split<;>omega
   have hup:=zi9 (wr.drewN qq) (some ⟨ga,0,none⟩) ca (min p q) (sa.take ka) (by rw[Hx.out.tlen];have:=Hx.out.kb;omega) (by omega) (Hx.out.rd.drewN qq) Hx.out.tlt
   rw[Hx.out.tlen,Hx.out.val]at hup
   have Hup:=znd hup
   have Hfin:=znd (show X*2^(min p q)=Nat.gcd X0 Y0 by rw[HG.out,←HGG.out,Nat.gcd_self,Nat.mul_comm])
   clear hup
   generalize min p q=mn at*
   go_wp2_with fail
   refine Hup.out.mono ?_
   rintro e w5 ⟨A5,c5,rfl,hc5,hr5,hb5,hf5⟩
   rw[Hfin.out]at hc5 hr5 hf5⊢
   have HR:=znd (And.intro hc5 (And.intro hr5 hf5))
   have HB:=znd ((Htwo.out.drewN qq).below hb5)
   have Hsz:=znd Htwo.out.size
   clear hc5 hr5 hb5 hf5
   go_wp2_with fail
   go_ret
   exact⟨A5,c5,rfl,HR.out.1,HR.out.2.1,fun i hi=>Nat.le_trans Hsz.out (HR.out.2.2 i hi),HB.out⟩
  ·have hc0:cmpN X Y=1:=zcN hgt
   rw[hc0]
   have hneb:gb≠ga:=fun e=>Hne.out (by rcases Hgg.out with⟨e1,e2⟩|⟨e1,e2⟩<;>omega)
   have hles:=zdg (wr.drewN qq) ga ka ca cb (some ⟨gb,0,none⟩) sa (sb.take kb) Hx.out.kle (by have:=Hx.out.len;omega) (by rw[Hy.out.tlen];have:=Hy.out.kb;omega) Hx.out.blk (Hy.out.rd.drewN qq) (fun i _=>hneb) Hx.out.lt Hy.out.tlt
    (zcW Hy.out.tlt (by rw[Hy.out.val];have:=Hx.out.ltp;omega)) (by rw[Hy.out.val,Hx.out.eq];omega)
   rw[Hy.out.tlen,Hy.out.val]at hles
   have Hles:=znd hles
   have Hneb:=znd hneb
   have Hlt:=znd hgt
   clear hles hc0 hneb hgt
   go_wp2_with fail
   refine Hles.out.mono ?_
   clear Hles
   rintro e w5 ⟨rfl,s5,hb5,hl5,hx5,-,hv5,hg5⟩
   have hn5:NumIn w5 ga ka ca (X-Y) s5:=⟨hb5,hx5,by rw[hl5];exact Hx.out.kle,Hx.out.kc,by rw[hl5];exact Hx.out.len,Hx.out.kb,by rw[hv5,Hx.out.eq]⟩
   have htwo5:Two w w5 g1 g2:=(Htwo.out.drewN qq).only hg5 (by rcases Hgg.out with⟨e1,e2⟩|⟨e1,e2⟩<;>omega)
   have hT5:Tz w5:=htwo5.tz HT.out N1.out N2.out
   have htw:=zdq w5 (some ⟨ga,0,none⟩) ca (s5.take ka) (by rw[hn5.tlen];have:=hn5.kb;omega) hn5.rd hn5.tlt (by rw[hn5.val];have:=Hlt.out;omega) hT5
   rw[hn5.tlen,hn5.val]at htw
   have Htw:=znd htw;have Hn5:=znd hn5;have Htwo5:=znd htwo5
   have HB5:=znd ((Hy.out.drewN qq).only hg5 Hneb.out)
   clear hb5 hl5 hx5 hv5 hg5 hn5 htwo5 hT5 htw Htwo
   go_wp2_with fail
   refine Htw.out.mono ?_
   clear Htw
   rintro e w' ⟨tt,rfl,ht,htl,rfl⟩
   have htb:tt≤64*900000000000:=by have:=Hn5.out.kb;omega
   have Hst:=znd (zft (G:=G) Hyo.out Hlt.out ht HGG.out)
   have Hdn:=znd (zd5 w5 ga ka ca tt s5 Hn5.out.kle Hn5.out.kc Hn5.out.len (by omega) Hn5.out.blk Hn5.out.lt)
   rw[Hn5.out.eq]at Hdn
   clear ht htl
   go_wp2_with fail
   refine Hdn.out.mono ?_
   clear Hdn
   rintro e w6 ⟨A6,k6,c6,rfl,hi6,hg6⟩
   obtain⟨rfl,s6,hn6⟩:=NumIn.of_in hi6 Hst.out.2.2.2 (Nat.lt_of_le_of_lt (Nat.div_le_self _ _) Hn5.out.ltp) Hn5.out.kb
   have HI:=znd (show HvI w w6 g1 g2 ((X-Y)/2^tt+Y) G (.slice (some ⟨ga,0,none⟩) k6 c6) (.slice (some ⟨gb,0,none⟩) kb cb)from
    ⟨⟨ga,gb,k6,c6,kb,cb,_,Y,s6,sb,rfl,rfl,by rcases Hgg.out with⟨e1,e2⟩|⟨e1,e2⟩<;>omega,hn6,HB5.out.only hg6 Hneb.out,Hst.out.1,Hyo.out,Hst.out.2.1,rfl⟩,Htwo5.out.only hg6 (by rcases Hgg.out with⟨e1,e2⟩|⟨e1,e2⟩<;>omega)⟩)
   have Hms:=znd Hst.out.2.2.1
   clear hi6 hg6 hn6 Hst
   go_wp2_with fail
   go_roundg ((X-Y)/2^tt+Y)
   case measure=>have:=Hms.out;omega
   case rel=>exact HI.out
end Go.Proofs.YtfdmajmhmligpaaGreatDoor
