/-
 sparse.Put. sparse.Get.
-/
import Derived.Test.YtfdmajmhmligpaaGreatDoorIV
import Derived.Test.YtfdmajmhmligpaaGreatDoorV9
import Derived.Test.YtfdmajmhmligpaaGreatDoorV18
namespace Go.Proofs.YtfdmajmhmligpaaGreatDoor
set_option maxHeartbeats 4000000
open Go.RowKit

theorem zlU (w:World) (o:Obj):(w.alloc o).heap.size=w.heap.size+1:=by simp
def offT (a:Int) (t:TeV):Bool:=!(t.pl==a)
theorem zgI (a b:Int):∀ts:List TeV,getQ ((ts.filter (offT a)).map plq) b=if b=a then 0 else getQ (ts.map plq) b
 |[]=>by
  show(0:Rat)=if b=a then 0 else 0
  split<;>rfl
 |t::ts=>by
  have ih:=zgI a b ts
  have e:getQ ((t::ts).map plq) b=(if t.pl=b then t.q else 0)+getQ (ts.map plq) b:=rfl
  by_cases h:t.pl=a
  ·have h1:offT a t=false:=by simp[offT,h]
   rw[List.filter_cons,h1,if_neg (by simp),ih,e]
   split
   ·rfl
   ·rw[if_neg (by rw[h];exact fun e'=>absurd e'.symm (by assumption)),Rat.zero_add]
  ·have h1:offT a t=true:=by simp[offT,h]
   rw[List.filter_cons,h1,if_pos rfl]
   show(if t.pl=b then t.q else 0)+getQ ((ts.filter (offT a)).map plq) b=_
   rw[ih,e]
   by_cases hb:b=a
   ·rw[if_pos hb,if_pos hb,if_neg (by omega),Rat.zero_add]
   ·rw[if_neg hb,if_neg hb]
theorem zjD (us:List TeV) (t:TeV) (j:Nat) (b:Int):getQ ((midT us t j).map plq) b=getQ (us.map plq) b+(if t.pl=b then t.q else 0):=by
 unfold midT
 conv=>rhs;rw[←List.take_append_drop j us]
 rw[List.map_append,zaB,List.map_append,zaB,List.map_cons]
 show _+((if t.pl=b then t.q else 0)+getQ ((us.drop j).map plq) b)=_
 rw[Rat.add_comm (if t.pl=b then t.q else 0),Rat.add_assoc]
set_option maxRecDepth 100000 in
theorem zg4 (w:World) (n:Nat) (hn:n≤100000000000) (h1n:1≤n) (A:Option Addr) (c:Nat) (ts:List TeV) (h:LsR 5 tecells (teD n) A ts w) (ht:Rise ts) (hl:ts.length≤18) (a:Int) (r:RV) (q:Rat) (hr:RatD r q n w) (hT:Tz w):
 Calls Tryz.prog 139 #[.slice A ts.length c,.int .i64 a,rA r] w (RetC (fun b=>if b=a then q else getQ (ts.map plq) b) n (ts.length+1) w):=by
 have sl1:=h.sl
 have hsz2:=zai
 have hadd:=zaa
 have Hrt:=znd ht
 have Hsq:=znd (RatD.sz hr h1n)
 have Hst:=znd (show∀t∈ts,Sz t.q n from fun t ht=>RatD.sz (h.ok t ht) h1n)
 obtain⟨i0,hi0,hz0,hz1,hz2⟩:=info_parts zbD
 have Hi0:=znd hi0
 have Hz0:=znd hz0
 have Hz1:=znd hz1
 have Hz2:=znd (show i0.bytes*(ts.length+1)≤281474976710656 by rw[hz2];omega)
 have Hm:=znd (show ts.length+1≤maxLen by simp[maxLen];omega)
 have HE:=znd (Env.lay1 (Env.start ((h.old zah).and ((RatD.old hr).and hT.old))) (rfl:w.alloc (.cells #[.bool r.num.neg,.slice r.num.A r.num.k r.num.c,.bool r.den.neg,.slice r.den.A r.den.k r.den.c] 48)=_))
 obtain⟨L,hL⟩:∃L,L=ts.length:=⟨_,rfl⟩
 have HL:=znd hL
 rw[←hL]at Hz2 Hm sl1⊢
 have hL18:L≤18:=by omega
 obtain⟨K,hK⟩:∃K,K=L+1:=⟨_,rfl⟩
 have hw1:IntKind.i64.wrap ((L:Int)+1)=(K:Int):=by rw[IntKind.wrap_i64];omega
 rw[←hK]at Hz2 Hm
 have HK:=znd hK
 clear h hr hT ht hi0 hz0 hz1 hz2 hL hl hK
 unfold rA
 go_enter Tryz.func139,Tryz.ntmps139
 go_wp2_with (at_make;go_loud (refine wpList_make_own _ rfl (.const (.int .i64 0)) (.tmp 12) 24 rfl w.heap.size 65 i0 zcq 5 zaJ Hi0.out Hz0.out Hz1.out .i64 .i64 _ K rfl rfl (by first|rfl|omega|simp) Hz2.out Hm.out HE.out.bel.size ?_);intro w1 hown hgrow)
 have HG:=znd (GL.mk1 (w0:=w) (W:=w1) (e:=65) (sz:=5) (v:=.slice (some ⟨(w.alloc (.cells #[.bool r.num.neg,.slice r.num.A r.num.k r.num.c,.bool r.den.neg,.slice r.den.A r.den.k r.den.c] 48)).heap.size,0,none⟩) 0 K) (cs:=[]) ⟨by simp,hown⟩ (fun b hb=>Nat.le_of_eq (Option.some.inj hb)) ((GL.start HE.out).rso.lt.mono fun _ hn=>hn.2) (Rests.pure (p:=True) trivial _ _) ((Below.refl _ _).grown hgrow (Nat.le_refl _) (fun b hb=>by cases hb)) HE.out.bel)
 have hsz:(w.alloc (.cells #[.bool r.num.neg,.slice r.num.A r.num.k r.num.c,.bool r.den.neg,.slice r.den.A r.den.k r.den.c] 48)).heap.size=w.heap.size+1:=zlU w _
 rw[hsz]at HG
 clear hown hgrow Hi0 Hz0 Hz1 Hz2 Hm HE hw1 hsz
 go_wp2_with fail
 go_loopw [7,16] (fun ov iv wr=>∃(Ao:Option Addr) (co i:Nat) (os:List TeV),ov=.slice Ao os.length co∧iv=.int .i64 (i:Int)∧i≤L∧Hid (os=(ts.take i).filter (offT a))∧Hid (os.length≤i)∧Hid (GL w [⟨65,5,.slice Ao (os).length co,(os).map tecells⟩] (fun V=>(∀b∈[(⟨w.heap.size,48,#[.bool r.num.neg,.slice r.num.A r.num.k r.num.c,.bool r.den.neg,.slice r.den.A r.den.k r.den.c]⟩:Bo)],Blk V b.g b.t b.cs)∧LsR 5 tecells (teD n) A ts V∧RatD r q n V∧Tz V) (fun _=>True) wr)) (fun _ iv _=>L-(intOf iv).toNat)
 case atStart=>exact⟨_,_,0,[],rfl,rfl,Nat.zero_le _,znd rfl,znd (Nat.zero_le _),znd (HG.out.imp (fun _ h=>h) (fun _ h=>h))⟩
 case round=>
  clear HG
  obtain⟨Ao,co,i,os,rfl,rfl,hi,HO,Hol,HG⟩:=hrel
  by_cases hlt:i<L
  ·have HE:=znd HG.out.env
   have hlt2:i<ts.length:=by rw[←HL.out];exact hlt
   have c0:=HE.out.o.1.2.1.tc i hlt2
   obtain⟨t,ht⟩:∃t,t=ts[i]:=⟨_,rfl⟩
   rw[←ht]at c0
   have HM2:=znd (show(ts.take (i+1)).filter (offT a)=os++[t].filter (offT a) by
    rw[List.take_succ_eq_append_getElem hlt2,List.filter_append,←HO.out,ht])
   clear ht hlt2
   go_upto_region 5 with fail
   obtain⟨W2,gt,hW2,hgt,HE⟩:=Env.al HE.out 65 #[.int .i64 t.pl,.bool t.r.num.neg,.slice t.r.num.A t.r.num.k t.r.num.c,.bool t.r.den.neg,.slice t.r.den.A t.r.den.k t.r.den.c]
   rw[hW2,hgt]
   clear hW2 hgt c0
   have cb:=Env.c1 HE.out
   by_cases he:t.pl=a
   ·have hbq:(t.pl != a)=false:=by simpa using he
    have HF:=znd (show os=(ts.take (i+1)).filter (offT a) by rw[HM2.out];simp[offT,he])
    clear he
    go_wp2_with fail
    go_roundw
    case rel=>exact⟨Ao,co,i+1,os,rfl,by go_num,by omega,HF,znd (by have:=Hol.out;omega),znd ((HG.out.keep (Rests.pure (p:=True) trivial _ _) HE.out.bel).imp (fun _ h=>h) (fun _ h=>h.2))⟩
    case measure=>(simp[intOf]<;>omega)
   ·have hbq:(t.pl != a)=true:=by simpa using he
    have HF:=znd (show os++[t]=(ts.take (i+1)).filter (offT a) by rw[HM2.out];simp[List.filter_cons,offT,he])
    clear he
    obtain⟨Ap,cp,w8,hrun,hG⟩:=GL.appT zaJ HG.out HE.out.read t (by have:=Hol.out;omega)
    have Hrun:=znd hrun
    have HG2:=znd hG
    clear hrun hG HE HG
    go_wp2_with (at_builtin;refine zac rfl (.tmp 24) (.tmp 26) 24 _ _ _ rfl rfl rfl Hrun.out ?_)
    clear Hrun cb
    go_wp2_with fail
    go_roundw
    case rel=>exact⟨Ap,cp,i+1,os++[t],by simp,by go_num,by omega,HF,znd (by have:=Hol.out;simp;omega),znd (HG2.out.imp (fun _ h=>h) (fun _ _=>trivial))⟩
    case measure=>(simp[intOf]<;>omega)
  ·obtain rfl:i=L:=by omega
   have HO2:=znd (show os=ts.filter (offT a) by rw[HO.out,List.take_of_length_le (by rw[←HL.out];exact Nat.le_refl _)])
   have hol:os.length≤i:=Hol.out
   have HE:=znd HG.out.env
   have cb:=Blk.cb (HE.out.o.1.1 _ (List.mem_singleton_self _))
   have hnu:¬(i:Int)<(i:Int):=by omega
   obtain⟨t,ht⟩:∃t:TeV,t=⟨a,r,q⟩:=⟨_,rfl⟩
   obtain⟨Ap,cp,w8,hrun,hG⟩:=GL.appT zaJ HG.out HE.out t (by have:=Hol.out;omega)
   rw[ht]at hrun hG
   have Hrun:=znd hrun
   have HG2:=znd hG
   have HLN:=znd (show LsR 5 tecells (teD n) Ap (os++[⟨a,r,q⟩]) w8 from⟨(show OwnE w8 w.heap.size 65 5 (.slice Ap (os++[(⟨a,r,q⟩:TeV)]).length cp) ((os++[(⟨a,r,q⟩:TeV)]).map tecells)from hG.own _ (List.mem_cons_self ..)).el.1,fun x hx=>by
    rcases List.mem_append.1 hx with hx|hx
    ·rw[HO2.out]at hx
     exact hG.o.2.1.ok x (List.mem_filter.1 hx).1
    ·rw[List.mem_singleton.1 hx];exact hG.o.2.2.1⟩)
   clear hrun hG HE HG ht
   go_wp2_with (at_builtin;refine zac rfl (.tmp 29) (.tmp 33) 24 _ _ _ rfl rfl rfl Hrun.out ?_)
   clear Hrun cb
   go_wp2_with fail
   have Hro:=znd (show Rise os from by rw[HO2.out];exact List.Pairwise.filter _ Hrt.out)
   have Hne:=znd (show∀u∈os,u.pl≠a from fun u hu=>by
    rw[HO2.out]at hu
    have h9:=(List.mem_filter.1 hu).2
    simpa[offT] using h9)
   have Hso:=znd (show∀u∈os,Sz u.q n from fun u hu=>by
    rw[HO2.out]at hu
    exact Hst.out u (List.mem_filter.1 hu).1)
   refine(zky w8 n hn h1n Ap cp os ⟨a,r,q⟩ HLN.out (by omega) Hro.out Hne.out HG2.out.o.2.2.2).mono ?_
   rintro e w9 ⟨j,hj,hri,hret⟩
   have HR:=znd (hret.up HG2.out.bel)
   have HRi:=znd hri
   have Hj:=znd hj
   obtain⟨A9,c9,ts9,rfl,-⟩:=hret
   clear hj hri
   go_wp2_with fail
   go_ret
   refine⟨((midT os ⟨a,r,q⟩ j).map plq).filter nzP,List.Pairwise.filter _ (List.pairwise_map.2 HRi.out),fun p hp=>⟨(List.mem_filter.1 hp).2,?_⟩,?_,fun b=>?_,HR.out⟩
   ·obtain⟨u,hu,rfl⟩:=List.mem_map.1 (List.mem_filter.1 hp).1
    rcases List.mem_append.1 (zgn u hu)with h|h
    ·exact Hso.out u h
    ·rw[List.mem_singleton.1 h];exact Hsq.out
   ·refine Nat.le_trans (List.length_filter_le _ _) ?_
    rw[List.length_map,zcz _ _ _ Hj.out];omega
   ·rw[zbB,zjD,HO2.out,zgI]
    show(if b=a then(0:Rat) else getQ (ts.map plq) b)+(if a=b then q else 0)=if b=a then q else getQ (ts.map plq) b
    by_cases hb:b=a
    ·rw[if_pos hb,if_pos hb.symm,if_pos hb,Rat.zero_add]
    ·rw[if_neg hb,if_neg (Ne.symm hb),if_neg hb,Rat.add_zero]

theorem zl8 {ts:List TeV} {i:Nat} (hi:i<ts.length) (a:Int):getQ ((ts.take (i+1)).map plq) a=getQ ((ts.take i).map plq) a+(if ts[i].pl=a then ts[i].q else 0):=by
 rw[List.take_succ_eq_append_getElem hi,List.map_append,zaB]
 congr 1
 show(if ts[i].pl=a then ts[i].q else 0)+0=_
 rw[Rat.add_zero]
theorem zmh {n:Nat}:∀{ts:List TeV},(∀t∈ts,Sz t.q n)→∀a,Sz (getQ (ts.map plq) a) (1+ts.length*(n+1))
 |[],_,_=>by
  show Sz 0 _
  exact zaM.up (by omega)
 |t::ts,h,a=>by
  have h1:=zmh (ts:=ts) (fun x hx=>h x (List.mem_cons_of_mem _ hx)) a
  show Sz ((if t.pl=a then t.q else 0)+getQ (ts.map plq) a) _
  by_cases e:t.pl=a
  ·rw[if_pos e]
   refine(Sz.add (h t (List.mem_cons_self ..)) h1).up ?_
   rw[List.length_cons,Nat.add_mul];omega
  ·rw[if_neg e,Rat.zero_add]
   refine h1.up ?_
   rw[List.length_cons,Nat.add_mul];omega
set_option maxRecDepth 100000 in
theorem zdz (w:World) (n N:Nat) (hN:N≤400000000000) (h1n:1≤n) (A:Option Addr) (c:Nat) (ts:List TeV) (h:LsR 5 tecells (teD n) A ts w) (hnN:n≤N) (hbd:1+ts.length*(n+1)≤N) (a:Int) (hT:Tz w):
 Calls Tryz.prog 17 #[.slice A ts.length c,.int .i64 a] w (RetR (getQ (ts.map plq) a) w):=by
 have sl1:=h.sl
 have hszt:=zai
 have hadd:=zaa
 have Hst:=znd (show∀t∈ts,Sz t.q n from fun t ht=>RatD.sz (h.ok t ht) h1n)
 have HE:=znd (lyZZ ((h.old zah).and hT.old))
 have c:=Env.c2 HE.out
 have dd:=Env.d2 HE.out
 obtain⟨L,hL⟩:∃L,L=ts.length:=⟨_,rfl⟩
 have HL:=znd hL
 rw[←hL]at sl1 hbd⊢
 have hL9:L≤400000000000:=by have h9:=Nat.le_mul_of_pos_right L (show 0<n+1 by omega);omega
 clear hL
 clear h hT
 go_enter Tryz.func17,Tryz.ntmps17
 go_wp2_with fail
 clear c
 go_loopw [10] (fun iv wr=>∃(i:Nat) (k:RV) (s:Rat),iv=.int .i64 (i:Int)∧i≤L∧Hid (s=getQ ((ts.take i).map plq) a)∧Hid (Env w [⟨w.heap.size+1,48,#[.bool k.num.neg,.slice k.num.A k.num.k k.num.c,.bool k.den.neg,.slice k.den.A k.den.k k.den.c]⟩,⟨w.heap.size,48,#[.bool false,.slice none 0 0,.bool false,.slice none 0 0]⟩] (fun V=>LsR 5 tecells (teD n) A ts V∧Tz V) (fun V=>RatN k s V) wr)) (fun iv _=>L-(intOf iv).toNat)
 case atStart=>exact⟨0,zeroR,0,rfl,Nat.zero_le _,znd rfl,znd (HE.out.imp (fun _ h=>h) (fun V _=>zbX V))⟩
 case round=>
  clear HE
  obtain⟨i,k,s,rfl,hi,HS,HE⟩:=hrel
  by_cases hlt:i<L
  ·have hlt2:i<ts.length:=by rw[←HL.out];exact hlt
   have c1:=HE.out.o.1.tc i hlt2
   have HN2:=znd (zl8 hlt2 a)
   have Hs:=znd (show Sz s N by
    rw[HS.out]
    refine(zmh (fun t ht=>Hst.out t (List.mem_of_mem_take ht)) a).up ?_
    have h2:(ts.take i).length≤L:=by simp;omega
    have h3:=Nat.mul_le_mul_right (n+1) h2
    omega)
   obtain⟨t,ht⟩:∃t,t=ts[i]:=⟨_,rfl⟩
   have Hm:=znd (show t∈ts by rw[ht];exact List.getElem_mem hlt2)
   rw[←ht]at c1 HN2
   clear ht hlt2
   have HTE:=znd (show∀V,LsR 5 tecells (teD n) A ts V→RatD t.r t.q N V from fun V h=>(h.ok t Hm.out).mono9 hnN)
   go_upto_region 5 with fail
   obtain⟨W2,gt,hW2,hgt,HE⟩:=Env.al HE.out 65 #[.int .i64 t.pl,.bool t.r.num.neg,.slice t.r.num.A t.r.num.k t.r.num.c,.bool t.r.den.neg,.slice t.r.den.A t.r.den.k t.r.den.c]
   rw[hW2,hgt]
   clear hW2 hgt c1
   have c:=Env.c3 HE.out
   by_cases he:t.pl=a
   ·have hbq:(t.pl==a)=true:=by simpa using he
    have HS2:=znd (show s+t.q=getQ ((ts.take (i+1)).map plq) a by rw[HN2.out,if_pos he,HS.out])
    clear he
    go_wp2_with fail
    refine(zbL _ k t.r s t.q N hN (by omega) (RatN.rat HE.out.n Hs.out) (HTE.out _ HE.out.o.1) HE.out.o.2).mono ?_
    rintro e w4 ⟨k2,rfl,hk,hb⟩
    replace HE:=znd (Env.ret HE.out hk hb)
    replace c:=Env.c3 HE.out
    clear hk hb
    go_upto_region 7 with fail
    obtain⟨W5,hW5,HE2⟩:=Env.st4_1 HE.out (.bool k2.num.neg) (.slice k2.num.A k2.num.k k2.num.c) (.bool k2.den.neg) (.slice k2.den.A k2.den.k k2.den.c)
    rw[hW5]
    clear hW5 c HE
    go_wp2_with fail
    go_roundw
    case rel=>exact⟨i+1,k2,s+t.q,by go_num,by omega,HS2,znd (HE2.out.drop.imp (fun _ h=>h) (fun _ h=>h.1))⟩
    case measure=>(simp[intOf]<;>omega)
   ·have hbq:(t.pl==a)=false:=by simpa using he
    have HS2:=znd (show s=getQ ((ts.take (i+1)).map plq) a by rw[HN2.out,if_neg he,Rat.add_zero,HS.out])
    clear he
    go_wp2_with fail
    go_roundw
    case rel=>exact⟨i+1,k,s,by go_num,by omega,HS2,znd HE.out.drop⟩
    case measure=>(simp[intOf]<;>omega)
  ·have HF:=znd (show s=getQ (ts.map plq) a by rw[HS.out,List.take_of_length_le (by rw[←HL.out];omega)])
   have c:=Env.c2 HE.out
   have hnu:¬(i:Int)<(L:Int):=by omega
   go_wp2_with fail
   rw[←HF.out]
   first
    |exact bodyPost_ret (v:=.agg #[.bool k.num.neg,.slice k.num.A k.num.k k.num.c,.bool k.den.neg,.slice k.den.A k.den.k k.den.c]) (by simp[results,Tryz.results17,go_sem,c]) rfl ((HE.out.put4_1 _ _ _ _).retR' rfl fun _ h=>h)
    |exact bodyPost_ret (v:=.agg #[.bool k.num.neg,.slice k.num.A k.num.k k.num.c,.bool k.den.neg,.slice k.den.A k.den.k k.den.c]) (by simp[results,Tryz.results17,go_sem,Env.c2 (HE.out.put4_1 (.bool k.num.neg) (.slice k.num.A k.num.k k.num.c) (.bool k.den.neg) (.slice k.den.A k.den.k k.den.c))]) rfl ((HE.out.put4_1 _ _ _ _).retR' rfl fun _ h=>h)
end Go.Proofs.YtfdmajmhmligpaaGreatDoor
