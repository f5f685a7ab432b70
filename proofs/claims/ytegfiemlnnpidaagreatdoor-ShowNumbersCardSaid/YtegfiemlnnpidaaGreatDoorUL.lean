/-
 A drawn region, whatever its order: what each of its operations leaves is told once an operation. tripwireref12: layer, Net, Query. tripwireref12: Net, Query, ShowNet, ShowQuery, Show; tripwireref10.Query. tripwireref10.Query; tripwireref12: ShowNet, ShowQuery, Show.
-/
import Derived.Test.YtegfiemlnnpidaaGreatDoorEM
import Derived.Test.YtegfiemlnnpidaaGreatDoorUH
import Derived.Test.YtegfiemlnnpidaaGreatDoorUC
import Derived.Test.YtegfiemlnnpidaaGreatDoorRef13
import Derived.Test.YtegfiemlnnpidaaGreatDoorRefP
import Derived.Test.YtegfiemlnnpidaaGreatDoorQP
import Derived.Test.YtegfiemlnnpidaaGreatDoorRQ
import Derived.Test.YtegfiemlnnpidaaGreatDoorMA
namespace Go.Proofs.YtegfiemlnnpidaaGreatDoor
set_option maxHeartbeats 4000000
open Go.RowKit

inductive It:Type 1 where
 |pu (v:Value)
 |fn (js:List Nat) (F:List Value->Value)
 |ca {α:Type} (f:α->Value) (φ:α->World->Prop)
 |bx (t:TypeId) (cs:Array Value)
 |any
def It.R (ev:Nat->Value) (s t:Nat) (v:Value) (W:World):It->Prop
 |.pu x=>v=x
 |.fn js F=>v=F (js.map ev)
 |.ca f φ=>∃x,v=f x/\Rests W (fun n=>s<=n/\n<t) (φ x)
 |.bx ty cs=>v=.pointer (some ⟨s,0,none⟩)/\s<t/\Blk W s ty cs
 |.any=>True
theorem It.R.below {it:It} {ev:Nat->Value} {s t:Nat} {v:Value} {W W':World} (h:it.R ev s t v W) (ht:t<=W.heap.size) (hb:Below W.heap.size W W'):it.R ev s t v W':=by
 cases it with
 |pu x=>exact h
 |fn js F=>exact h
 |ca f φ=>obtain⟨x,e,h⟩:=h;exact⟨x,e,h.below hb⟩
 |bx ty cs=>exact⟨h.1,h.2.1,h.2.2.below hb (Nat.lt_of_lt_of_le h.2.1 ht)⟩
 |any=>trivial
theorem It.R.ev {it:It} {ev ev':Nat->Value} {s t:Nat} {v:Value} {W:World} (h:it.R ev s t v W) (he:∀js F,it=.fn js F->∀j∈js,ev' j=ev j):it.R ev' s t v W:=by
 cases it with
 |fn js F=>exact h.trans (congrArg F (List.map_congr_left (he js F rfl)).symm)
 |_=>exact h

section
variable {w W W0:World} {bs:List Bo} {old new φ:World->Prop} {X X':Nat->Prop} {F:Nat->Prop}
end

abbrev Tm:=List (Nat×Option Nat×List Nat×It)
section
variable {P:Program} {md:Region.Mode} {ops:Array Oper} {Q:Exit->Act->World->Prop}
variable {T:Tm} {l0 l1:Array Bool} {w W0:World} {bs:List Bo} {old new:World->Prop} {a0:Act} {n:Nat}
end
def CBs:List Bo->World->Prop
 |[],_=>True
 |b::l,W=>CB b.g b.cs W/\CBs l W
theorem Env.cs {w W:World} {bs:List Bo} {old new:World->Prop} (h:Env w bs old new W):CBs bs W:=by
 have:∀l:List Bo,(∀b∈l,b∈bs)->CBs l W:=fun l=>by
  induction l with
  |nil=>exact fun _=>trivial
  |cons b l ih=>exact fun k=>⟨(h.bx b (k b (List.mem_cons_self ..))).cb,ih fun c hc=>k c (List.mem_cons_of_mem _ hc)⟩
 exact this bs fun _ h=>h
theorem Env.round {w W:World} {bs:List Bo} {old new:World->Prop} (h:Env w bs old new W):Env W [] (fun V=>(∀b∈bs,Blk V b.g b.t b.cs)/\old V/\new V) (fun _=>True) W:=
 Env.start (Rests.and (Rests.all (φ:=fun(b:Bo) V=>Blk V b.g b.t b.cs) fun b hb=>⟨h.bx b hb,fun _w' hw=>(hw b.g (h.bx b hb).lt (h.bx b hb).lt).trans (h.bx b hb)⟩) ((h.rso.lt.mono fun _ hn=>hn.2).and (h.rsn.lt.mono fun _ hn=>hn.2)))
theorem zxb {a b:Rat}:(a-b).num.sign>0↔b<a:=by rw[zy4];exact zwK
set_option maxRecDepth 100000 in
theorem zwV (w:World) (n:Nat) (hn:n<=20) (h1n:1<=n) (f:NeV) (h:NeD n f w) (hs:NeT f) (q:QuV) (hq:QuD n q w) (hqs:QuS q) (nl:Nat) (hnl:nl=f.las.length) (n0 n1 n2:Nat) (HQ:Hid (LenQ q n0 n1 n2)):Calls Tryz.prog 35 #[.agg #[.int .i64 f.inputs,.slice f.A nl f.c],.agg #[.slice q.A0 n0 q.c0,.int .i64 q.label,.slice q.A1 n1 q.c1,.slice q.A2 n2 q.c2,.int .u8 q.norm]] w fun e w'=>QErr f q w e/\Below w.heap.size w w':=by
 have Hs:=znd hs;have Hl:=znd hnl;have HW:=znd hq;have Hqs:=znd hqs;have Hn0:=znd HQ.out.x;have Hn1:=znd HQ.out.l;have Hn2:=znd HQ.out.h;have hadd:=zaa;have hsz4:=zal;have hszi:=zcX;have s1:=hq.lo.sl;have s2:=hq.hi.sl;rw[<-Hn1.out]at s1;rw[<-Hn2.out]at s2;have hb0:n0<=100000:=by rw[Hn0.out];exact hqs.x
 have hb1:n1<=100000:=by rw[Hn1.out];exact hqs.l
 have hb2:n2<=100000:=by rw[Hn2.out];exact hqs.h
 obtain⟨W0,hW0⟩:∃W0,W0=((w.alloc (.cells #[.int .i64 f.inputs,.slice f.A nl f.c] 24)).alloc (.cells #[.slice q.A0 n0 q.c0,.int .i64 q.label,.slice q.A1 n1 q.c1,.slice q.A2 n2 q.c2,.int .u8 q.norm] 28)):=⟨_,rfl⟩;have HE:=znd (Env.lay2 (Env.start ((h.old).and (((QuF.old zbQ hq)).and ((NeD.iffR h))))) hW0);subst hW0;have c:=Env.c2 HE.out;have dd:=Env.d2 HE.out;clear h hq hs hqs hnl HQ;go_enter Tryz.func35,Tryz.ntmps35;go_wp2_with fail;refine(zwt _ n hn h1n f HE.out.o.1 Hs.out nl Hl.out).mono ?_;rintro e w1 ⟨A,c1,us,err,rfl,hN,hu,-,-,hr9,hb9⟩;have HN:=znd ((HE.out.o.2.2 err).1 hN);have HU:=znd hu;replace HE:=znd (Env.ret HE.out hr9 hb9);replace c:=Env.c2 HE.out;clear hN hu hr9 hb9;by_cases h0:err=0
 ·subst h0;have hul:=HU.out rfl;have HUL:=znd hul;have Hub:=znd (show us.length<=100001 from by rw[hul,zwi];have:=Hs.out.n;omega);clear hul;by_cases l0:(n0:Int)=f.inputs
  ·have e5:((n0:Int) != f.inputs)=false:=by simp[l0]
   have L0:=znd l0;clear l0;by_cases l1:(n1:Int)=f.inputs
   ·have e6:((n1:Int) != f.inputs)=false:=by simp[l1]
    have L1:=znd l1;clear l1;by_cases l2:(n2:Int)=f.inputs
    ·have e7:((n2:Int) != f.inputs)=false:=by simp[l2]
     have L2:=znd l2;clear l2;go_wp2_with fail;have HB9:=exL HW.out.x0 (by first|exact HE.out.wd.bel|exact Below.drewN HE.out.bel _);refine(zoL _ n (by omega) h1n q.A0 q.c0 q.x0 (HE.out.wd.o.2.1.x0) (by have:=Hqs.out.x;omega) n0 Hn0.out).mono ?_;rintro e w2 ⟨⟨B0,rfl,hB⟩,hb9⟩;replace HE:=znd (Env.cx HE.out hb9);have H0:=znd (hB.trans HB9);replace c:=Env.c2 HE.out;clear hB hb9 HB9
     cases B0
     ·go_wp2_with fail;go_ret;exact⟨⟨22,rfl,.inr ⟨HN.out,.inl ⟨fun h=>absurd (H0.out.2 h.1.1.2) (by simp),rfl⟩⟩⟩,(by first|exact HE.out.wd.bel|exact Below.drewN HE.out.bel _)⟩
     ·skip
      go_wp2_with fail;have HB9:=exL HW.out.lo (by first|exact HE.out.wd.bel|exact Below.drewN HE.out.bel _);refine(zoL _ n (by omega) h1n q.A1 q.c1 q.lo (HE.out.wd.o.2.1.lo) (by have:=Hqs.out.l;omega) n1 Hn1.out).mono ?_;rintro e w3 ⟨⟨B1,rfl,hB⟩,hb9⟩;replace HE:=znd (Env.cx HE.out hb9);have H1:=znd (hB.trans HB9);replace c:=Env.c2 HE.out;clear hB hb9 HB9
      cases B1
      ·go_wp2_with fail;go_ret;exact⟨⟨22,rfl,.inr ⟨HN.out,.inl ⟨fun h=>absurd (H1.out.2 h.1.2.1.2) (by simp),rfl⟩⟩⟩,(by first|exact HE.out.wd.bel|exact Below.drewN HE.out.bel _)⟩
      ·skip
       go_wp2_with fail;have HB9:=exL HW.out.hi (by first|exact HE.out.wd.bel|exact Below.drewN HE.out.bel _);refine(zoL _ n (by omega) h1n q.A2 q.c2 q.hi (HE.out.wd.o.2.1.hi) (by have:=Hqs.out.h;omega) n2 Hn2.out).mono ?_;rintro e w4 ⟨⟨B2,rfl,hB⟩,hb9⟩;replace HE:=znd (Env.cx HE.out hb9);have H2:=znd (hB.trans HB9);replace c:=Env.c2 HE.out;clear hB hb9 HB9
       cases B2
       ·go_wp2_with fail;go_ret;exact⟨⟨22,rfl,.inr ⟨HN.out,.inl ⟨fun h=>absurd (H2.out.2 h.1.2.2.2) (by simp),rfl⟩⟩⟩,(by first|exact HE.out.wd.bel|exact Below.drewN HE.out.bel _)⟩
       ·by_cases m1:q.norm=1\/q.norm=2
        ·have HF:=znd (show zx9 f q w from⟨⟨⟨by rw[<-Hn0.out];exact L0.out,H0.out.1 (by simp)⟩,⟨by rw[<-Hn1.out];exact L1.out,H1.out.1 (by simp)⟩,⟨by rw[<-Hn2.out];exact L2.out,H2.out.1 (by simp)⟩⟩,m1⟩);have e1:((q.norm != 1)=true/\(q.norm != 2)=false)\/(q.norm != 1)=false:=by rcases m1 with h|h<;>rw[h]<;>simp
         have hi0:f.inputs=(n1:Int)/\n2=n1:=by have:=L1.out;have:=L2.out;omega
         obtain⟨hi0,rfl⟩:=hi0;clear m1;have HI:=znd hi0;have HI:=znd hi0;clear hi0;rcases e1 with⟨e1,e2⟩|e1
         all_goals
          go_upto_region 7 with fail;have HE0:=znd HE.out;clear HE c;go_loopw [7] (fun iv wr=>∃i:Nat,iv=.int .i64 (i:Int)/\i<=n2/\Hid (∀j (h:j<q.lo.length) (h':j<q.hi.length),j<i->(q.lo[j]).2<=(q.hi[j]).2)/\Hid (Below w4.heap.size w4 wr)) (fun iv _=>n2-(intOf iv).toNat)
          case atStart=>exact⟨0,rfl,Nat.zero_le _,znd (fun j _ _ h=>absurd h (by omega)),znd (Below.refl _ _)⟩
          case round=>
           obtain⟨i,rfl,hi,HP,Hb⟩:=hrel;have HE:=znd (HE0.out.call Hb.out);have c:=Env.c2 HE.out;by_cases hlt:i<n2
           ·have hlt3:(i:Int)<f.inputs:=by rw[HI.out];omega
            have hl1:i<q.lo.length:=by rw[<-Hn1.out];exact hlt
            have hl2:i<q.hi.length:=by rw[<-Hn2.out];exact hlt
            obtain⟨v1,hv1⟩:∃v,v=q.lo[i]:=⟨_,rfl⟩;obtain⟨v2,hv2⟩:∃v,v=q.hi[i]:=⟨_,rfl⟩;have HC:=znd (fun(V:World) (c1:CB (w.heap.size+1) #[.slice q.A0 n0 q.c0,.int .i64 q.label,.slice q.A1 n2 q.c1,.slice q.A2 n2 q.c2,.int .u8 q.norm] V) (h:QuD n q V)=>(show CB (w.heap.size+1) #[.slice q.A0 n0 q.c0,.int .i64 q.label,.slice q.A1 n2 q.c1,.slice q.A2 n2 q.c2,.int .u8 q.norm] V/\(V.cell? (adr q.A1 (i*4))=some (.bool v1.1.num.neg)/\V.cell? (adr q.A1 (i*4+1))=some (.slice v1.1.num.A v1.1.num.k v1.1.num.c)/\V.cell? (adr q.A1 (i*4+2))=some (.bool v1.1.den.neg)/\V.cell? (adr q.A1 (i*4+3))=some (.slice v1.1.den.A v1.1.den.k v1.1.den.c))/\(V.cell? (adr q.A2 (i*4))=some (.bool v2.1.num.neg)/\V.cell? (adr q.A2 (i*4+1))=some (.slice v2.1.num.A v2.1.num.k v2.1.num.c)/\V.cell? (adr q.A2 (i*4+2))=some (.bool v2.1.den.neg)/\V.cell? (adr q.A2 (i*4+3))=some (.slice v2.1.den.A v2.1.den.k v2.1.den.c))from⟨c1,by have h9:=h.lo.rc i hl1;rw[<-hv1]at h9;exact h9,by have h9:=h.hi.rc i hl2;rw[<-hv2]at h9;exact h9⟩));have Hm1:=znd (show v1∈q.lo by rw[hv1];exact List.getElem_mem hl1);have Hm2:=znd (show v2∈q.hi by rw[hv2];exact List.getElem_mem hl2);have V1:=znd hv1;have V2:=znd hv2;have cS:=HC.out _ c.1 HE.out.o.2.1;clear hv1 hv2;obtain⟨z,hz⟩:∃z,z=(v1.2-v2.2).num.sign:=⟨_,rfl⟩;have Hz:=znd hz;clear hz;go_wp2_with fail
            go_region_held3 (fun W=>CB (w.heap.size+1) #[.slice q.A0 n0 q.c0,.int .i64 q.label,.slice q.A1 n2 q.c1,.slice q.A2 n2 q.c2,.int .u8 q.norm] W/\(W.cell? (adr q.A1 (i*4))=some (.bool v1.1.num.neg)/\W.cell? (adr q.A1 (i*4+1))=some (.slice v1.1.num.A v1.1.num.k v1.1.num.c)/\W.cell? (adr q.A1 (i*4+2))=some (.bool v1.1.den.neg)/\W.cell? (adr q.A1 (i*4+3))=some (.slice v1.1.den.A v1.1.den.k v1.1.den.c))/\(W.cell? (adr q.A2 (i*4))=some (.bool v2.1.num.neg)/\W.cell? (adr q.A2 (i*4+1))=some (.slice v2.1.num.A v2.1.num.k v2.1.num.c)/\W.cell? (adr q.A2 (i*4+2))=some (.bool v2.1.den.neg)/\W.cell? (adr q.A2 (i*4+3))=some (.slice v2.1.den.A v2.1.den.k v2.1.den.c))) (first|with_reducible exact cS|exact HC.out _ (Env.c2 HE.out.drew).1 HE.out.drew.o.2.1|go_keep)
             (first
              |(go_at_call 65;go_must (refine(zxa _ v1.1 v2.1 v1.2 v2.2 n (by omega) h1n (HE.out.wd.o.2.1.lo.ok v1 Hm1.out) (HE.out.wd.o.2.1.hi.ok v2 Hm2.out)).mono ?_;rintro e w6 ⟨rfl,hb⟩;rw[<-Hz.out];replace HE:=znd (Env.cx HE.out hb);replace Hb:=znd (Below.after (by first|exact Hb.out|exact Hb.out.drew) hb);replace cS:=HC.out _ (Env.c2 HE.out).1 HE.out.o.2.1;clear hb)))
            by_cases hz:z>0
            ·have hg:=znd hz;go_wp2_with fail;go_ret;refine⟨⟨23,rfl,.inr ⟨HN.out,.inr ⟨HF.out,.inl ⟨fun hq=>?_,rfl⟩⟩⟩⟩,(by first|exact HE.out.wd.bel|exact Below.drewN HE.out.bel _)⟩;have h1:=hq i hl1 hl2;have h2:=Hz.out;rw[V1.out,V2.out]at h2;have h3:=hg.out;rw[h2,zxb]at h3;exact absurd h1 (Rat.not_le.2 h3)
            ·have hg:=znd hz;go_wp2_with fail;go_roundw
             case rel=>exact⟨i+1,by go_num,by omega,znd (fun j h h' hj=>by
              by_cases e:j=i
              ·subst e;have h2:=Hz.out;rw[V1.out,V2.out]at h2;have h3:=hg.out;rw[h2,zxb]at h3;exact Rat.not_lt.1 h3
              ·exact HP.out j h h' (by omega)),Hb⟩
             case measure=>(simp[intOf]<;>omega)
           ·obtain rfl:i=n2:=by omega
            have hlt3:¬(i:Int)<f.inputs:=by rw[HI.out];omega
            have HBx:=znd (show QBox q from fun j h h'=>HP.out j h h' (by rw[Hn1.out];exact h));obtain⟨m,hm⟩:∃m,us.length=m+1:=⟨us.length-1,by have:=zwo f.las f.inputs;rw[HUL.out];omega⟩;have hml:m<us.length:=by omega
            have hu0:=HE.out.n.1.sl;have cu:=HE.out.n.1.ic m hml;have Hlu:=znd (show zx0 f=us[m]from by unfold zx0;rw[<-HUL.out,List.getLast?_eq_getElem?,List.getElem?_eq_getElem (by omega)];simp[hm]);obtain⟨y,hy⟩:∃y,y=us[m]:=⟨_,rfl⟩;rw[<-hy]at cu Hlu;have Hm:=znd hm;obtain⟨nu,hnu⟩:∃nu,nu=us.length:=⟨_,rfl⟩;have hw1:IntKind.i64.wrap ((us.length:Int)-1)=(m:Int):=by have:=Hub.out;rw[IntKind.wrap_i64];omega
            clear hy hm;by_cases l0:q.label<0
            ·have L0:=znd l0;have d0:decide (q.label<0)=true:=by simp[l0]
             clear l0;go_wp2_with fail;go_quiet (fail);go_wp2_with fail;go_ret;exact⟨⟨24,rfl,.inr ⟨HN.out,.inr ⟨HF.out,.inr ⟨HBx.out,.inl ⟨fun h=>by have:=h.1;have:=L0.out;omega,rfl⟩⟩⟩⟩⟩,(by first|exact HE.out.wd.bel|exact Below.drewN HE.out.bel _)⟩
            ·by_cases l1:q.label≥y
             ·have L0:=znd l0;have L1:=znd l1;have d0:decide (q.label<0)=false:=by simp;omega
              have d1:decide (q.label≥y)=true:=by simp;omega
              clear l0 l1;go_wp2_with fail;go_quiet (fail);go_wp2_with fail;go_ret;exact⟨⟨24,rfl,.inr ⟨HN.out,.inr ⟨HF.out,.inr ⟨HBx.out,.inl ⟨fun h=>by have h1:=h.2;rw[Hlu.out]at h1;have:=L1.out;omega,rfl⟩⟩⟩⟩⟩,(by first|exact HE.out.wd.bel|exact Below.drewN HE.out.bel _)⟩
             ·have L0:=znd l0;have L1:=znd l1;have d0:decide (q.label<0)=false:=by simp;omega
              have d1:decide (q.label≥y)=false:=by simp;omega
              clear l0 l1;go_wp2_with fail;go_quiet (fail);go_wp2_with fail;go_ret;exact⟨⟨0,rfl,.inr ⟨HN.out,.inr ⟨HF.out,.inr ⟨HBx.out,.inr ⟨⟨by have:=L0.out;omega,by rw[Hlu.out];have:=L1.out;omega⟩,rfl⟩⟩⟩⟩⟩,(by first|exact HE.out.wd.bel|exact Below.drewN HE.out.bel _)⟩
        ·have e1:(q.norm != 1)=true:=by simp;omega
         have e2:(q.norm != 2)=true:=by simp;omega
         have M1:=znd m1;clear m1;go_wp2_with fail;go_ret;exact⟨⟨22,rfl,.inr ⟨HN.out,.inl ⟨fun h=>absurd h.2 M1.out,rfl⟩⟩⟩,(by first|exact HE.out.wd.bel|exact Below.drewN HE.out.bel _)⟩
    ·have e7:((n2:Int) != f.inputs)=true:=by simp[l2]
     have L2:=znd l2;clear l2;go_wp2_with fail;go_ret;exact⟨⟨22,rfl,.inr ⟨HN.out,.inl ⟨fun h=>L2.out (by rw[Hn2.out];exact h.1.2.2.1),rfl⟩⟩⟩,(by first|exact HE.out.wd.bel|exact Below.drewN HE.out.bel _)⟩
   ·have e6:((n1:Int) != f.inputs)=true:=by simp[l1]
    have L1:=znd l1;clear l1;go_wp2_with fail;go_ret;exact⟨⟨22,rfl,.inr ⟨HN.out,.inl ⟨fun h=>L1.out (by rw[Hn1.out];exact h.1.2.1.1),rfl⟩⟩⟩,(by first|exact HE.out.wd.bel|exact Below.drewN HE.out.bel _)⟩
  ·have e5:((n0:Int) != f.inputs)=true:=by simp[l0]
   have L0:=znd l0;clear l0;go_wp2_with fail;go_ret;exact⟨⟨22,rfl,.inr ⟨HN.out,.inl ⟨fun h=>L0.out (by rw[Hn0.out];exact h.1.1.1),rfl⟩⟩⟩,(by first|exact HE.out.wd.bel|exact Below.drewN HE.out.bel _)⟩
 ·have H0:=znd h0;have h1:(err != 0)=true:=by simp[h0]
  clear h0;go_wp2_with fail;go_ret;exact⟨⟨err,rfl,.inl ⟨HN.out,H0.out⟩⟩,HE.out.bel⟩
end Go.Proofs.YtegfiemlnnpidaaGreatDoor
