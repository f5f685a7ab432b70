/-
 limbs: digit.
-/
import Derived.Test.YtegfiemlnnpidaaGreatDoorTake
import Derived.Test.YtegfiemlnnpidaaGreatDoorLimF
import Derived.Deep.DeepCutAuto
import Derived.Deep.CutBlock
namespace Go.Proofs.YtegfiemlnnpidaaGreatDoor
set_option maxHeartbeats 4000000
open Go.RowKit

def zkQ (w:World) (g j n:Nat) (v s0:List Nat) (e:Ending) (w':World):Prop:=
 ∃s:List Nat,e=.returned (.int .u64 ((valT B64 (s0.drop j) (n+1)/val B64 v:Nat):Int))/\Win w w' g j (n+1) s0 s/\valT B64 (s.drop j) (n+1)=valT B64 (s0.drop j) (n+1)%val B64 v

theorem zgT (g:Nat) (h0:0<g) (h:g<B64):IntKind.u64.wrap ((g:Int)-1)=((g-1:Nat):Int):=by
 rw[show((g:Int)-1)=((g-1:Nat):Int) by omega];exact w64 _ (by omega)
theorem zll (a b:Nat) (h0:b<=a) (h:a<B64):IntKind.u64.wrap ((a:Int)-(b:Int))=((a-b:Nat):Int):=by
 rw[show((a:Int)-(b:Int))=((a-b:Nat):Int) by omega];exact w64 _ (by omega)
theorem zjL (a b:Nat) (h0:B64<=a+b) (h1:a<B64) (h2:b<B64):IntKind.u64.wrap ((a:Int)+(b:Int))=((a+b-B64:Nat):Int):=by
 rw[IntKind.wrap_u64];simp only[B64]at*;omega

theorem zkp {P:Program} {f:FuncId} {args:Array Value} {w:World} {a n:Nat} {v:Value} (h:Calls P f args (w.drewN (a+n)) fun e w'=>e=.returned v/\∃m,w'=(w.drewN (a+n)).drewN m):
 Calls P f args (w.drewN (a+n)) fun e w'=>e=.returned v/\∃m,w'=w.drewN (a+m):=
 h.mono fun _ _ ⟨he,m,hm⟩=>⟨he,n+m,by rw[hm,World.drewN_drewN,Nat.add_assoc]⟩

set_option maxRecDepth 100000 in
theorem zj6 (w:World) (g j n cu d:Nat) (B:Option Addr) (s0 v:List Nat) (hn:n=v.length) (h2:2<=n) (hj:j+n<s0.length) (hl:s0.length<=17592186044416) (hblk:Blk w g 50 (ints .u64 s0)) (hv:Rd w .u64 B v)
 (hne:∀i,i<v.length->(adr B i).block≠g) (hx:∀x∈s0,x<B64) (hy:∀x∈v,x<B64) (htop:0<nth v (n-1)) (hU:valT B64 (s0.drop j) (n+1)<val B64 v*B64):
 Calls Tryz.prog 231 #[.slice (some ⟨g,j,none⟩) (n+1) cu,.slice B n d] w (zkQ w g j n v s0):=by
 have hsb:Sl B n:=by rw[hn];exact hv.sl
 have h1:=zaA;have hcu:∀i,i<n+1->w.cell? ⟨g,j+i,none⟩=some (.int .u64 (nth s0 (j+i):Nat)):=fun i hi=>by
  rw[hblk.cell,zaC .u64 s0 (j+i) (by omega)]
 have cu0:=hcu n (by omega);have cu1:=hcu (n-1) (by omega);have cu2:=hcu (n-2) (by omega);have cv1:=hv.cell (n-1) (by omega);have cv2:=hv.cell (n-2) (by omega);have hxd:∀x∈s0.drop j,x<B64:=fun x hxx=>hx x (List.mem_of_mem_drop hxx);have hVT:valT B64 v n=val B64 v:=by rw[hn];exact zaD _ _
 have hVp:0<val B64 v:=by
  rcases Nat.eq_zero_or_pos (val B64 v)with h|h
  ·rw[h,Nat.zero_mul]at hU;omega
  ·exact h
 have hqlt:valT B64 (s0.drop j) (n+1)/val B64 v<B64:=(Nat.div_lt_iff_lt_mul hVp).2 (by rw[Nat.mul_comm];exact hU);have hqm:valT B64 (s0.drop j) (n+1)/val B64 v*valT B64 v n<=valT B64 (s0.drop j) (n+1):=by rw[hVT];exact Nat.div_mul_le_self _ _
 have hg2:valT B64 (s0.drop j) (n+1)/val B64 v*nth v (n-1)<=nth s0 (j+n)*B64+nth s0 (j+(n-1)):=by
  have:=zjf za4 hxd hy (n-1) _ (by rw[show n-1+1=n by omega,show n-1+2=n+1 by omega];exact hqm);rw[zaS,zaS,show n-1+1=n by omega]at this;exact this
 have hg3:valT B64 (s0.drop j) (n+1)/val B64 v*(nth v (n-1)*B64+nth v (n-2))<=(nth s0 (j+n)*B64+nth s0 (j+(n-1)))*B64+nth s0 (j+(n-2)):=by
  have:=zfK za4 hxd hy (n-2) _ (by rw[show n-2+2=n by omega,show n-2+3=n+1 by omega];exact hqm);rw[zaS,zaS,zaS,show n-2+2=n by omega,show n-2+1=n-1 by omega]at this;exact this
 have b1:=zak za4 hy (n-1);have b2:=zak za4 hy (n-2);have b3:=zak za4 hx (j+n);have b4:=zak za4 hx (j+(n-1));have b5:=zak za4 hx (j+(n-2));have Hoff:=znd (fun(W:World) (q:Nat) (hW:W=w.drewN q) (times:Nat) (ht:times<B64)=>zfP W g j n cu d times B s0 v hn hj hl (by rw[hW];exact hblk) (by rw[hW];exact hv.drewN q) hne hx hy ht);have Hback:=znd (fun(W:World) (s:List Nat) (hW:Win w W g j (n+1) s0 s)=>zfC W g j n cu d B s v hn (by rw[hW.len];exact hj) (by rw[hW.len];exact hl) hW.blk (hv.only hW.gr hne) hne hW.lt hy);have HVp:=znd hVp;have Hqlt:=znd hqlt;have Hg2:=znd hg2;have Hg3:=znd hg3;have Hb1:=znd b1;have Hb2:=znd b2;have Hb3:=znd b3;have Hb4:=znd b4;have Hb5:=znd b5;clear hblk hv hx hy hne hn hU hcu hxd hVT hVp hqlt hqm hg2 hg3 b1 b2 b3 b4 b5;unfold zkQ;generalize hUd:valT B64 (s0.drop j) (n+1)=U at*;generalize hVd:val B64 v=V at*;have HUd:=znd hUd;have HVd:=znd hVd;clear hUd hVd;generalize nth v (n-1)=top at*;generalize nth v (n-2)=next at*;generalize nth s0 (j+n)=un at*;generalize nth s0 (j+(n-1))=u1 at*;generalize nth s0 (j+(n-2))=u0 at*;have i1:0<=(n:Int)-1:=by omega
 have i2:(n:Int)-1<n:=by omega
 have i3:((n:Int)-1).toNat=n-1:=by omega
 have i4:0<=(n:Int)-2:=by omega
 have i5:(n:Int)-2<n:=by omega
 have i6:((n:Int)-2).toNat=n-2:=by omega
 have i7:(n:Int)-1<(n:Int)+1:=by omega
 have i8:(n:Int)-2<(n:Int)+1:=by omega
 have i9:(n:Int)<(n:Int)+1:=by omega
 go_enter Tryz.func231,Tryz.ntmps231;go_wp2_with fail;go_quiet (fail);go_upto_if 30 with fail;go_cut [8] (fun gv wx=>∃guess q:Nat,gv=.int .u64 guess/\Hid (guess<B64)/\Hid (U/V<=guess)/\wx=w.drewN q)
 case first=>
  by_cases htl:un<top
  ·have htb:decide (un<top)=true:=by simp[htl]
   rw[htb];have Hdiv:=znd (fun W=>zf2 un u1 top W htl Hb1.out Hb4.out);have Hs1:=znd (show U/V<=(un*B64+u1)/top from(Nat.le_div_iff_mul_le htop).2 Hg2.out);have Hs2:=znd (zfh htl Hb4.out);have Hs3:=znd (show un*B64+u1=(un*B64+u1)/top*top+(un*B64+u1)%top by have:=Nat.div_add_mod (un*B64+u1) top;rw[Nat.mul_comm top]at this;omega);have Hs4:=znd (show(un*B64+u1)%top<B64 from Nat.lt_trans (Nat.mod_lt _ htop) Hb1.out);generalize (un*B64+u1)/top=g0 at*;generalize (un*B64+u1)%top=r0 at*;go_wp2_with fail;go_quiet ((go_at_call 228;exact zkp (Hdiv.out _)));go_wp2_with fail;go_loopw [8,9] (fun gv rv wr=>∃gs rest q:Nat,gv=.int .u64 gs/\rv=.int .u64 rest/\Hid (gs<B64)/\Hid (rest<B64)/\Hid (U/V<=gs)/\Hid (un*B64+u1=gs*top+rest)/\wr=w.drewN q) (fun gv _ _=>(intOf gv).toNat)
   case atStart=>exact⟨g0,r0,_,rfl,rfl,Hs2,Hs4,Hs1,Hs3,World.drewN_drewN _ _ _⟩
   case round=>
    obtain⟨gs,rest,q,rfl,rfl,hg,hr,hle,hee,rfl⟩:=hrel;clear Hs1 Hs2 Hs3 Hs4 Hdiv;obtain⟨hi,hhi⟩:∃hi,hi=gs*next/B64:=⟨_,rfl⟩;obtain⟨lo,hlo⟩:∃lo,lo=gs*next%B64:=⟨_,rfl⟩;have Hmul:=znd (fun W=>zdH gs next hg.out Hb2.out W);rw[<-hhi,<-hlo]at Hmul;have Hgt:=znd (fun(h:rest<hi\/hi=rest/\u0<lo)=>zmC (g:=gs) (n:=next) za4 (by rw[<-hhi,<-hlo];exact h) Hb5.out);clear hhi hlo;by_cases hbr:hi<rest\/hi=rest/\lo<=u0
    ·by_cases hA:hi<rest
     ·clear hbr;go_wp2_with fail;refine(Hmul.out _).mono ?_;rintro e w' ⟨rfl,rfl⟩;go_wp2_with fail
      go_meet
      exact⟨gs,_,rfl,hg,hle,rfl⟩
     ·obtain⟨hB,hC⟩:hi=rest/\lo<=u0:=by omega
      have hB':((hi:Int)==(rest:Int))=true:=by simp[hB]
      clear hbr hB;go_wp2_with fail;refine(Hmul.out _).mono ?_;rintro e w' ⟨rfl,rfl⟩;go_wp2_with fail
      go_meet
      exact⟨gs,_,rfl,hg,hle,rfl⟩
    ·have hgt:rest*B64+u0<gs*next:=Hgt.out (by omega);have hql:U/V<gs:=zh0 Hg3.out hee.out hgt;have hA:¬hi<rest:=by omega
     have hg0:0<gs:=Nat.lt_of_le_of_lt (Nat.zero_le _) hql;have Hql:=znd (show U/V<=gs-1 from Nat.le_sub_one_of_lt hql);have hpred:=zgT gs hg0 hg.out;have Hg1:=znd (show gs-1<B64 by have:=hg.out;omega);have Hm:=znd (show gs-1<gs by omega);have hD:((hi:Int)==(rest:Int))=false\/(((hi:Int)==(rest:Int))=true/\¬lo<=u0):=by
      by_cases e:hi=rest
      ·right;exact⟨by simp[e],by omega⟩
      ·left;simp;omega
     have Hee:=znd (show un*B64+u1=(gs-1)*top+(rest+top) by
      have:=hee.out;obtain⟨k,rfl⟩:∃k,gs=k+1:=⟨gs-1,by omega⟩;rw[Nat.add_one_mul]at this;rw[Nat.add_sub_cancel];omega)
     clear hbr hgt hql hee hle hg Hgt;by_cases hov:rest+top<B64
     ·have hsum:=wrap_u64 rest top hov;have hnl:¬rest+top<top:=by omega
      have Hov:=znd hov;clear hov;generalize gs-1=g1 at*;generalize rest+top=r1 at*;rcases hD with hD|⟨hD,hE⟩
      all_goals
       go_wp2_with fail;refine(Hmul.out _).mono ?_;rintro e w' ⟨rfl,rfl⟩;go_wp2_with fail;go_roundw
       case rel=>first|exact⟨g1,r1,_,rfl,rfl,Hg1,Hov,Hql,Hee,rfl⟩|((repeat apply Exists.intro);exact⟨⟨g1,r1,_,rfl,rfl,Hg1,Hov,Hql,Hee,rfl⟩,rfl⟩)
       case measure=>simp[intOf];exact Hm.out
     ·have hsum:=zjL rest top (by omega) hr.out Hb1.out;have hnl:rest+top-B64<top:=by have:=hr.out;omega
      clear hov;generalize gs-1=g1 at*;generalize rest+top-B64=r1 at*;rcases hD with hD|⟨hD,hE⟩
      all_goals
       go_wp2_with fail;refine(Hmul.out _).mono ?_;rintro e w' ⟨rfl,rfl⟩;go_wp2_with fail
       go_meet
       exact⟨g1,_,rfl,Hg1,Hql,rfl⟩
  ·go_wp2_with fail
   go_meet
   exact⟨B64-1,_,rfl,(show B64-1<B64 by decide),(show U/V<=B64-1 by have:=Hqlt.out;omega),rfl⟩
 case rest=>
  obtain⟨guess,q,rfl,hg,hq,rfl⟩:=hcut;have HT:=znd (fun W hW=>Hoff.out W q hW guess hg.out);clear Hoff Hb1 Hb2 Hb3 Hb4 Hb5 Hg2 Hg3 cu0 cu1 cu2 cv1 cv2;go_wp2_with fail;refine(HT.out _ rfl).mono ?_;rintro e w1 ⟨bw,s,rfl,hbw,hW,heq⟩;have HW:=znd (show Win w w1 g j (n+1) s0 s from⟨hW.len,hW.lt,hW.far,hW.blk,⟨hW.gr.os,hW.gr.tape,hW.gr.output,hW.gr.size,hW.gr.block⟩⟩);rw[HUd.out,HVd.out]at heq;have Heq:=znd heq;clear hW heq HT;go_wp2_with fail;go_loopw [8,12] (fun gv bv wr=>∃(gs bw:Nat) (s:List Nat),gv=.int .u64 gs/\bv=.int .u64 bw/\bw<=1/\Hid (gs<B64)/\Hid (U/V<=gs)/\Hid (Win w wr g j (n+1) s0 s)/\Hid (valT B64 (s.drop j) (n+1)+gs*V=U+B64^(n+1)*bw)) (fun gv _ _=>(intOf gv).toNat)
  case atStart=>exact⟨guess,bw,s,rfl,rfl,hbw,hg,hq,HW,Heq⟩
  case round=>
   clear HW Heq hq hg hbw;obtain⟨gs,bw,s,rfl,rfl,hbw,hg,hq,hW,heq⟩:=hrel;by_cases hb0:bw=0
   ·subst hb0;have hfin:=zk0 HVp.out hq.out (r:=valT B64 (s.drop j) (n+1)) (by have:=heq.out;rw[Nat.mul_zero,Nat.add_zero]at this;exact this);have Hfin:=znd hfin;clear hfin;go_wp2_with fail;go_ret;exact⟨s,zc6 (by rw[Hfin.out.1]),hW.out,Hfin.out.2⟩
   ·obtain rfl:bw=1:=by omega
    have hlt:valT B64 (s.drop j) (n+1)<B64^(n+1):=zc3 za4 (fun x hxx=>hW.out.lt x (List.mem_of_mem_drop hxx)) _;have hql:U/V<gs:=zjU HVp.out hlt (by have:=heq.out;rw[Nat.mul_one]at this;exact this);have hg0:0<gs:=Nat.lt_of_le_of_lt (Nat.zero_le _) hql;have Hql:=znd (show U/V<=gs-1 from Nat.le_sub_one_of_lt hql);have hpred:=zgT gs hg0 hg.out;have Hg1:=znd (show gs-1<B64 by have:=hg.out;omega);have Hm:=znd (show gs-1<gs by omega);have Hg0:=znd hg0;have HB:=znd (Hback.out wr s hW.out);clear hql hg0 hlt hb0;go_wp2_with fail;refine HB.out.mono ?_;rintro e w1 ⟨cy,s1,rfl,hcy,hW1,heq1⟩;rw[HVd.out]at heq1;have Hd:=znd (zkb Hg0.out heq.out heq1 hcy);have HW1:=znd (hW.out.trans hW1);have hws:IntKind.u64.wrap (1-(cy:Int))=((1-cy:Nat):Int):=zll 1 cy hcy (by decide);have Hb1:=znd (show 1-cy<=1 by omega);clear hW1 heq1 HB heq hW hcy;generalize gs-1=g1 at*;generalize 1-cy=b1 at*;go_wp2_with fail;go_roundw
    case rel=>exact⟨g1,b1,s1,rfl,rfl,Hb1.out,Hg1,Hql,HW1,Hd⟩
    case measure=>simp[intOf];exact Hm.out
end Go.Proofs.YtegfiemlnnpidaaGreatDoor
