/-
 Sorting a rising list with one term more behind it. sparse.Norm of a list that rises but for its last term.
-/
import Derived.Test.YtfdmajmhmligpaaGreatDoorSV
import Derived.Test.YtfdmajmhmligpaaGreatDoorV5
namespace Go.Proofs.YtfdmajmhmligpaaGreatDoor
set_option maxHeartbeats 4000000
open Go.RowKit

theorem za1 (A:Option Addr) {n m:Nat} (h:n≠m) (V:World) (v:Value):(V.setCell (adr A n) v).cell? (adr A m)=V.cell? (adr A m):=
 World.cell?_setCell_other _ _ _ _ (fun e=>by injection e;omega)
def midT (us:List TeV) (t:TeV) (j:Nat):List TeV:=us.take j++t::us.drop j
theorem zcz (us:List TeV) (t:TeV) (j:Nat) (h:j≤us.length):(midT us t j).length=us.length+1:=by
 unfold midT;simp;omega
theorem zfF {us:List TeV} {k:Nat} (hk:k<us.length) (t:TeV):midT us t (k+1)=us.take k++us[k]::t::us.drop (k+1):=by
 unfold midT;rw[List.take_succ_eq_append_getElem hk,List.append_assoc];rfl
theorem zlt {us:List TeV} {k:Nat} (hk:k<us.length) (t:TeV):midT us t k=us.take k++t::us[k]::us.drop (k+1):=by
 unfold midT;rw[List.drop_eq_getElem_cons hk]
theorem zm8 {us:List TeV} {k:Nat} (hk:k<us.length) (t:TeV):∃h1 h2,(midT us t (k+1))[k]'h1=us[k]∧(midT us t (k+1))[k+1]'h2=t:=by
 have hl:=zcz us t (k+1) hk
 have ht:(us.take k).length=k:=by simp;omega
 refine⟨by omega,by omega,?_,?_⟩
 ·simp only[zfF hk]
  rw[List.getElem_append_right (by omega)]
  simp[ht]
 ·simp only[zfF hk]
  rw[List.getElem_append_right (by omega)]
  simp[ht]
theorem zjB {α:Type} (l1:List α) (a b:α) (l2:List α):((l1++a::b::l2).set (l1.length+1) a).set l1.length b=l1++b::a::l2:=by
 rw[List.set_append_right _ _ (by omega),List.set_append_right _ _ (Nat.le_refl _)]
 simp
theorem ziK {us:List TeV} {k:Nat} (hk:k<us.length) (t:TeV):(((midT us t (k+1)).map tecells).set (k+1) (tecells us[k])).set k (tecells t)=(midT us t k).map tecells:=by
 have ht:(us.take k).length=k:=by simp;omega
 have h:=zjB ((us.take k).map tecells) (tecells us[k]) (tecells t) ((us.drop (k+1)).map tecells)
 rw[List.length_map,ht]at h
 rw[zfF hk,zlt hk,List.map_append,List.map_append]
 exact h
theorem zfr {us:List TeV} {t:TeV} {j:Nat} (hj:j≤us.length) (hr:Rise us) (h1:∀k (hk:k<us.length),k<j→(us[k]).pl<t.pl) (h2:∀k (hk:k<us.length),j≤k→t.pl<(us[k]).pl):Rise (midT us t j):=by
 unfold Rise midT at*
 rw[List.pairwise_append]
 refine⟨hr.sublist (List.take_sublist ..),List.pairwise_cons.2 ⟨fun u hu=>?_,hr.sublist (List.drop_sublist ..)⟩,fun a ha b hb=>?_⟩
 ·obtain⟨m,hm,rfl⟩:=List.mem_iff_getElem.1 hu
  have hm':j+m<us.length:=by simp at hm;omega
  rw[List.getElem_drop]
  exact h2 _ hm' (by omega)
 ·obtain⟨m,hm,rfl⟩:=List.mem_iff_getElem.1 ha
  have hm':m<us.length:=by simp at hm;omega
  have hmj:m<j:=by simp at hm;omega
  rw[List.getElem_take]
  have h3:=h1 m hm' hmj
  rcases List.mem_cons.1 hb with rfl|hb
  ·exact h3
  ·obtain⟨x,hx,rfl⟩:=List.mem_iff_getElem.1 hb
   have hx':j+x<us.length:=by simp at hx;omega
   have h4:=h2 _ hx' (by omega)
   rw[List.getElem_drop]
   omega
theorem GL.tc {w W:World} {ls:List Ow} {old new:World→Prop} {e:TypeId} {n cp:Nat} {B:Option Addr} {l:List TeV} (h:GL w (⟨e,5,.slice B n cp,l.map tecells⟩::ls) old new W) {i:Nat} (hi:i<l.length):TC B i l[i] W:=
 LsR.tc (ok:=fun _ _=>True) ⟨(show OwnE W w.heap.size e 5 (.slice B n cp) (l.map tecells)from h.own _ (List.mem_cons_self ..)).el.1,fun _ _=>trivial⟩ i hi
theorem GL.fr {w W:World} {ls:List Ow} {old new:World→Prop} {e:TypeId} {n cp g:Nat} {B:Option Addr} {cs:List (Array Value)} (hB:B=some ⟨g,0,none⟩) (h:GL w (⟨e,5,.slice B n cp,cs⟩::ls) old new W) (i:Nat):W.frozen? (adr B i)=false:=
 (show OwnE W w.heap.size e 5 (.slice B n cp) cs from h.own _ (List.mem_cons_self ..)).free hB i
theorem GL.skip {w W W':World} {ls:List Ow} {old new:World→Prop} (h:GL w ls old new W) (hb:Below W.heap.size W W'):GL w ls old new W':=
 (h.keep (Rests.pure (p:=True) trivial _ _) hb).imp (fun _ h=>h) (fun _ h=>h.2)
set_option maxRecDepth 100000 in
theorem ze0 (w W:World) (old new:World→Prop) (B:Option Addr) (g n cp:Nat) (hB:B=some ⟨g,0,none⟩) (us:List TeV) (t:TeV) (zb:Int) (hzb:zb=(n:Int)) (hn:n=us.length+1) (h:GL w [⟨65,5,.slice B n cp,(midT us t (us.length)).map tecells⟩] old new W) (hr:Rise us) (hne:∀u∈us,u.pl≠t.pl) (hl:us.length≤1000000):
 Calls Tryz.prog 130 #[.slice B n cp,.int .i64 0,.int .i64 zb,.func (.func 82) #[] #[]] W fun e w'=>e=.returned (.tuple #[])∧∃j,j≤us.length∧Rise (midT us t j)∧GL w [⟨65,5,.slice B n cp,(midT us t (j)).map tecells⟩] old new w':=by
 subst hzb
 have sl1:Sl B n:=by rw[hB];exact Sl.some_ _ _ _
 have hsz1:=zbV
 have hadd:=zaa
 have HG:=znd h
 have HR:=znd hr
 have HNE:=znd hne
 have HB:=znd hB
 have Hn:=znd hn
 obtain⟨L,hL⟩:∃L,L=us.length:=⟨_,rfl⟩
 have HL:=znd hL
 have hnL1:n≤L+1:=by omega
 have hnL2:L+1≤n:=by omega
 have hL1:L≤1000000:=by omega
 clear h hr hne hB hn hL hl
 go_enter Tryz.func130,Tryz.ntmps130
 go_wp2_with fail
 go_loopw [8] (fun iv wr=>∃m j:Nat,iv=.int .i64 ((m:Int)+1)∧m≤L∧j≤L∧Hid (m<L→j=L)∧Hid (m=L→Rise (midT us t j))∧Hid (GL w [⟨65,5,.slice B n cp,(midT us t (j)).map tecells⟩] old new wr)) (fun iv _=>n-(intOf iv).toNat)
 case atStart=>exact⟨0,L,by go_num,Nat.zero_le _,Nat.le_refl _,znd (fun _=>rfl),znd (fun h0=>by
  have h1:us=[]:=List.eq_nil_of_length_eq_zero (by rw[←HL.out];exact h0.symm)
  subst h1
  simp[Rise,midT]),by have h:=HG.out;rw[←HL.out]at h;exact znd h⟩
 case round=>
  clear HG
  obtain⟨m,j,rfl,hm,hj,Hj,Hri,HG⟩:=hrel
  by_cases hlt:m<L
  ·obtain rfl:j=L:=Hj.out hlt
   have hlt':(m:Int)+1<(n:Int):=by omega
   have hgt:(0:Int)<(m:Int)+1:=by omega
   have hi2:(0:Int)≤(m:Int)+1:=by omega
   clear Hj Hri
   by_cases hlast:m+1<j
   ·-- the list rises here
    have hi3:(m:Int)<(n:Int):=by omega
    have hi4:m<n:=by omega
    have hi5:IntKind.i64.wrap ((m:Int)+1-1)=(m:Int):=by rw[IntKind.wrap_i64];omega
    have hi6:IntKind.i64.wrap (m:Int)=(m:Int):=by rw[IntKind.wrap_i64];omega
    obtain⟨y,hy⟩:∃y,y=us[m+1]'(by have:=HL.out;omega):=⟨_,rfl⟩
    obtain⟨u,hu⟩:∃u,u=us[m]'(by have:=HL.out;omega):=⟨_,rfl⟩
    have hcmp:cmpI y.pl u.pl=1:=by
     have h1:=HR.out.at_ (i:=m) (j:=m+1) (by omega) (by have:=HL.out;omega)
     rw[←hy,←hu]at h1
     unfold cmpI
     rw[if_neg (by omega),if_pos h1]
    have Hx:=znd (show∀V,GL w [⟨65,5,.slice B n cp,(midT us t (j)).map tecells⟩] old new V→TC B (m+1) y V∧TC B m u V from fun V h=>by
     have hlen:(midT us t j).length=us.length+1:=zcz us t j (by have:=HL.out;omega)
     have e1:(midT us t j)[m+1]'(by have:=HL.out;omega)=y:=by
      rw[hy];simp only[midT];rw[List.getElem_append_left (by simp;have:=HL.out;omega),List.getElem_take]
     have e2:(midT us t j)[m]'(by have:=HL.out;omega)=u:=by
      rw[hu];simp only[midT];rw[List.getElem_append_left (by simp;have:=HL.out;omega),List.getElem_take]
     have h1:=h.tc (i:=m+1) (by have:=HL.out;omega)
     have h2:=h.tc (i:=m) (by have:=HL.out;omega)
     rw[e1]at h1
     rw[e2]at h2
     exact⟨h1,h2⟩)
    clear hy hu
    go_wp2_with fail
    go_loopw [9] (fun jv wr=>jv=.int .i64 ((m:Int)+1)∧Hid (GL w [⟨65,5,.slice B n cp,(midT us t (j)).map tecells⟩] old new wr)) (fun _ _=>0)
    case atStart=>exact⟨rfl,HG⟩
    case round=>
     clear HG
     obtain⟨rfl,HG⟩:=hrel
     have c:=Hx.out _ HG.out
     go_upto_region 4 with fail
     go_region_held3 (fun W=>TC B (m+1) y W∧TC B m u W) (first|with_reducible exact c|((repeat' apply And.intro)<;>go_keep)|exact c)
     (first
      |(go_at_call 82;go_must (refine(zd8 _ y u).mono ?_;rintro e w1 ⟨rfl,hb⟩;replace HG:=znd (by first|exact HG.out.skip hb|exact(HG.out.skip (Below.drew (Below.refl _ _))).skip hb);replace c:=Hx.out _ HG.out;clear hb;rw[hcmp])))
     go_wp2_with fail
     go_roundw
     case rel=>exact⟨m+1,j,by go_num,by omega,by omega,znd (fun _=>rfl),znd (fun h=>by omega),HG⟩
     case measure=>(simp[intOf]<;>omega)
   ·-- the last term finds its place
    obtain rfl:j=m+1:=by omega
    go_wp2_with fail
    go_loopw [9] (fun jv wr=>∃z:Nat,jv=.int .i64 (z:Int)∧z≤m+1∧Hid (∀k (hk:k<us.length),z≤k→t.pl<(us[k]).pl)∧Hid (GL w [⟨65,5,.slice B n cp,(midT us t (z)).map tecells⟩] old new wr)) (fun jv _=>(intOf jv).toNat)
    case atStart=>exact⟨m+1,by go_num,Nat.le_refl _,znd (fun k hk h=>by have:=HL.out;omega),HG⟩
    case round=>
     clear HG
     obtain⟨z,rfl,hz,Hz,HG⟩:=hrel
     rcases Nat.eq_zero_or_pos z with rfl|h0
     ·go_upto_region 4 with fail
      go_quiet (fail)
      go_wp2_with fail
      go_roundw
      case rel=>exact⟨m+1,0,by go_num,by omega,by omega,znd (fun h=>by omega),znd (fun _=>zfr (Nat.zero_le _) HR.out (fun k hk h=>by omega) (fun k hk h=>Hz.out k hk h)),znd (HG.out.skip (Below.drewN (Below.refl _ _) _))⟩
      case measure=>(simp[intOf]<;>omega)
     ·obtain⟨k,hzk⟩:∃k,z=k+1:=⟨z-1,by omega⟩
      have hku:k<us.length:=by have:=HL.out;omega
      have hi3:(z:Int)<(n:Int):=by omega
      have hi4:z<n:=by omega
      have hi7:k<n:=by omega
      have hi8:(k:Int)<(n:Int):=by omega
      have hi9:(0:Int)<(z:Int):=by omega
      have hi10:(0:Int)≤(z:Int):=by omega
      have hi5:IntKind.i64.wrap ((z:Int)-1)=(k:Int):=by rw[IntKind.wrap_i64];omega
      have hi6:IntKind.i64.wrap (k:Int)=(k:Int):=by rw[IntKind.wrap_i64];omega
      obtain⟨u,hu⟩:∃u,u=us[k]'hku:=⟨_,rfl⟩
      have hun:u.pl≠t.pl:=by rw[hu];exact HNE.out _ (List.getElem_mem hku)
      have Hx:=znd (show∀V,GL w [⟨65,5,.slice B n cp,(midT us t (z)).map tecells⟩] old new V→TC B z t V∧TC B k u V from fun V h=>by
       subst hzk
       obtain⟨h1,h2,e1,e2⟩:=zm8 hku t
       have k1:=h.tc h2
       have k2:=h.tc h1
       rw[e2]at k1
       rw[e1,←hu]at k2
       exact⟨k1,k2⟩)
      have c:=Hx.out _ HG.out
      by_cases hlo:u.pl<t.pl
      ·have hcmp:cmpI t.pl u.pl=1:=by
        unfold cmpI
        rw[if_neg (by omega),if_pos hlo]
       have HRz:=znd (show Rise (midT us t z)from zfr (by omega) HR.out (fun i hi h=>by
        rcases Nat.eq_or_lt_of_le (show i≤k by omega)with e|e
        ·subst e;rw[←hu];exact hlo
        ·have:=HR.out.at_ e hku;rw[←hu]at this;omega) (fun i hi h=>Hz.out i hi h))
       clear hu hlo hun hzk
       go_upto_region 4 with fail
       go_region_held3 (fun W=>TC B z t W∧TC B k u W) (first|with_reducible exact c|((repeat' apply And.intro)<;>go_keep)|exact c)
     (first
      |(go_at_call 82;go_must (refine(zd8 _ t u).mono ?_;rintro e w1 ⟨rfl,hb⟩;replace HG:=znd (by first|exact HG.out.skip hb|exact(HG.out.skip (Below.drew (Below.refl _ _))).skip hb);replace c:=Hx.out _ HG.out;clear hb;rw[hcmp])))
       go_wp2_with fail
       go_roundw
       case rel=>exact⟨m+1,z,by go_num,by omega,by omega,znd (fun h=>by omega),znd (fun _=>HRz.out),HG⟩
       case measure=>(simp[intOf]<;>omega)
      ·have hcmp:cmpI t.pl u.pl=-1:=by
        unfold cmpI
        rw[if_pos (by omega)]
       have HZ2:=znd (show∀i (hi:i<us.length),k≤i→t.pl<(us[i]).pl from fun i hi h=>by
        rcases Nat.eq_or_lt_of_le h with e|e
        ·subst e;rw[←hu];omega
        ·exact Hz.out i hi (by omega))
       have Hsw:=znd (ziK hku t)
       rw[←hu,←hzk]at Hsw
       have hlm:z<((midT us t z).map tecells).length:=by rw[List.length_map,zcz _ _ _ (by omega)];omega
       have hlk:k<((midT us t z).map tecells).length:=by omega
       have hkm:k≤m+1:=by omega
       have hkz:k<z:=by omega
       have hs01:=za1 B (show z*5≠z*5+1 by omega)
       have hs02:=za1 B (show z*5≠z*5+2 by omega)
       have hs03:=za1 B (show z*5≠z*5+3 by omega)
       have hs04:=za1 B (show z*5≠z*5+4 by omega)
       have hs05:=za1 B (show z*5≠k*5 by omega)
       have hs06:=za1 B (show z*5≠k*5+1 by omega)
       have hs07:=za1 B (show z*5≠k*5+2 by omega)
       have hs08:=za1 B (show z*5≠k*5+3 by omega)
       have hs09:=za1 B (show z*5≠k*5+4 by omega)
       have hs12:=za1 B (show z*5+1≠z*5+2 by omega)
       have hs13:=za1 B (show z*5+1≠z*5+3 by omega)
       have hs14:=za1 B (show z*5+1≠z*5+4 by omega)
       have hs15:=za1 B (show z*5+1≠k*5 by omega)
       have hs16:=za1 B (show z*5+1≠k*5+1 by omega)
       have hs17:=za1 B (show z*5+1≠k*5+2 by omega)
       have hs18:=za1 B (show z*5+1≠k*5+3 by omega)
       have hs19:=za1 B (show z*5+1≠k*5+4 by omega)
       have hs23:=za1 B (show z*5+2≠z*5+3 by omega)
       have hs24:=za1 B (show z*5+2≠z*5+4 by omega)
       have hs25:=za1 B (show z*5+2≠k*5 by omega)
       have hs26:=za1 B (show z*5+2≠k*5+1 by omega)
       have hs27:=za1 B (show z*5+2≠k*5+2 by omega)
       have hs28:=za1 B (show z*5+2≠k*5+3 by omega)
       have hs29:=za1 B (show z*5+2≠k*5+4 by omega)
       have hs34:=za1 B (show z*5+3≠z*5+4 by omega)
       have hs35:=za1 B (show z*5+3≠k*5 by omega)
       have hs36:=za1 B (show z*5+3≠k*5+1 by omega)
       have hs37:=za1 B (show z*5+3≠k*5+2 by omega)
       have hs38:=za1 B (show z*5+3≠k*5+3 by omega)
       have hs39:=za1 B (show z*5+3≠k*5+4 by omega)
       have hs45:=za1 B (show z*5+4≠k*5 by omega)
       have hs46:=za1 B (show z*5+4≠k*5+1 by omega)
       have hs47:=za1 B (show z*5+4≠k*5+2 by omega)
       have hs48:=za1 B (show z*5+4≠k*5+3 by omega)
       have hs49:=za1 B (show z*5+4≠k*5+4 by omega)
       have hs56:=za1 B (show k*5≠k*5+1 by omega)
       have hs57:=za1 B (show k*5≠k*5+2 by omega)
       have hs58:=za1 B (show k*5≠k*5+3 by omega)
       have hs59:=za1 B (show k*5≠k*5+4 by omega)
       have hs67:=za1 B (show k*5+1≠k*5+2 by omega)
       have hs68:=za1 B (show k*5+1≠k*5+3 by omega)
       have hs69:=za1 B (show k*5+1≠k*5+4 by omega)
       have hs78:=za1 B (show k*5+2≠k*5+3 by omega)
       have hs79:=za1 B (show k*5+2≠k*5+4 by omega)
       have hs89:=za1 B (show k*5+3≠k*5+4 by omega)
       have hadd2:∀(n j:Nat),(⟨(adr B n).block,(adr B n).off+j,none⟩:Addr)=adr B (n+j):=fun n j=>by unfold adr;simp[Nat.add_assoc]
       clear hu hlo hun hzk
       go_upto_region 4 with fail
       go_region_held3 (fun W=>TC B z t W∧TC B k u W) (first|with_reducible exact c|((repeat' apply And.intro)<;>go_keep)|exact c)
     (first
      |(go_at_call 82;go_must (refine(zd8 _ t u).mono ?_;rintro e w1 ⟨rfl,hb⟩;replace HG:=znd (by first|exact HG.out.skip hb|exact(HG.out.skip (Below.drew (Below.refl _ _))).skip hb);replace c:=Hx.out _ HG.out;clear hb;rw[hcmp])))
       have fr:=fun x=>HG.out.fr HB.out x
       go_upto_region 6 with fail
       go_region
       have HG2:=(HG.out.put5 HB.out HG.out.env z hlm (.int .i64 u.pl) (.bool u.r.num.neg) (.slice u.r.num.A u.r.num.k u.r.num.c) (.bool u.r.den.neg) (.slice u.r.den.A u.r.den.k u.r.den.c))
       have HG3:=(HG2.put5 HB.out HG2.env k (by rw[List.length_set];exact hlk) (.int .i64 t.pl) (.bool t.r.num.neg) (.slice t.r.num.A t.r.num.k t.r.num.c) (.bool t.r.den.neg) (.slice t.r.den.A t.r.den.k t.r.den.c)).imp (φ:=old) (ψ:=new) (fun _ h=>h) (fun _ h=>h.2.2)
       obtain⟨W9,hW9⟩:∃W9,W9=(((((((((w1.setCell (adr B (z*5)) (.int .i64 u.pl)).setCell (adr B (z*5+1)) (.bool u.r.num.neg)).setCell (adr B (z*5+2)) (.slice u.r.num.A u.r.num.k u.r.num.c)).setCell (adr B (z*5+3)) (.bool u.r.den.neg)).setCell (adr B (z*5+4)) (.slice u.r.den.A u.r.den.k u.r.den.c)).setCell (adr B (k*5)) (.int .i64 t.pl)).setCell (adr B (k*5+1)) (.bool t.r.num.neg)).setCell (adr B (k*5+2)) (.slice t.r.num.A t.r.num.k t.r.num.c)).setCell (adr B (k*5+3)) (.bool t.r.den.neg)).setCell (adr B (k*5+4)) (.slice t.r.den.A t.r.den.k t.r.den.c):=⟨_,rfl⟩
       rw[←hW9]at HG3⊢
       have HG4:=znd (show GL w [⟨65,5,.slice B n cp,(midT us t (k)).map tecells⟩] old new W9.drew from by rw[←Hsw.out];exact HG3.skip (Below.drew (Below.refl _ _)))
       clear HG3 HG2 hW9 c HG hs01 hs02 hs03 hs04 hs05 hs06 hs07 hs08 hs09 hs12 hs13 hs14 hs15 hs16 hs17 hs18 hs19 hs23 hs24 hs25 hs26 hs27 hs28 hs29 hs34 hs35 hs36 hs37 hs38 hs39 hs45 hs46 hs47 hs48 hs49 hs56 hs57 hs58 hs59 hs67 hs68 hs69 hs78 hs79 hs89 fr hadd2 Hx Hsw Hz
       go_wp2_with fail
       go_roundw
       case rel=>exact⟨k,by first|rfl|go_num,hkm,HZ2,HG4⟩
       case measure=>(simp[intOf]<;>omega)
  ·obtain rfl:m=L:=by omega
   have HRf:=znd (Hri.out rfl)
   clear Hri
   have hlt':¬(m:Int)+1<(n:Int):=by omega
   go_wp2_with fail
   go_end0
   exact⟨rfl,j,by have:=HL.out;omega,HRf.out,HG.out⟩

theorem GL.read {w W:World} {ls:List Ow} {old new:World→Prop} {e:TypeId} {sz n c:Nat} {A:Option Addr} {cs:List (Array Value)} (h:GL w (⟨e,sz,.slice A n c,cs⟩::ls) old new W):GL w ls old (fun V=>El V sz A cs∧new V) W:=by
 have ho:OwnE W w.heap.size e sz (.slice A n c) cs:=h.own _ (List.mem_cons_self ..)
 have hnd:=List.pairwise_cons.1 h.nd
 obtain⟨A',c',hv,-,-,hel,hB⟩:=ho.form
 obtain⟨rfl,rfl,rfl⟩:A=A'∧n=cs.length∧c=c':=by simpa using hv
 refine⟨fun o hm=>h.own o (List.mem_cons_of_mem _ hm),hnd.2,h.rso.mono fun n hn o hm=>hn o (List.mem_cons_of_mem _ hm),Rests.and ?_ (h.rsn.mono fun n hn=>⟨hn.1,fun o hm=>hn.2 o (List.mem_cons_of_mem _ hm)⟩),h.bel⟩
 rcases Nat.eq_zero_or_pos cs.length with h0|h0
 ·have:cs=[]:=List.eq_nil_of_length_eq_zero h0
  subst this
  exact⟨El.nil_ _ _ _,fun _ _=>El.nil_ _ _ _⟩
 ·obtain⟨b,o,rfl⟩:=hel.sl h0
  have hb:=hB b (by rfl)
  exact⟨hel,fun w' hw=>hel.keep fun p hp hp0=>World.cell?_of_block (hw _ (by rw[hp0];exact⟨hb,fun o ho=>hnd.1 o ho b rfl⟩) hp)⟩
theorem zgn {us:List TeV} {t:TeV} {j:Nat}:∀u∈midT us t j,u∈us++[t]:=fun u hu=>by
 unfold midT at hu
 rcases List.mem_append.1 hu with h|h
 ·exact List.mem_append_left _ (List.mem_of_mem_take h)
 ·rcases List.mem_cons.1 h with rfl|h
  ·simp
  ·exact List.mem_append_left _ (List.mem_of_mem_drop h)
set_option maxRecDepth 100000 in
theorem zhc (w W:World) (old new:World→Prop) (B:Option Addr) (g n cp:Nat) (hB:B=some ⟨g,0,none⟩) (us:List TeV) (t:TeV) (hn:n=us.length+1) (h:GL w [⟨65,5,.slice B n cp,(midT us t (us.length)).map tecells⟩] old new W) (hr:Rise us) (hne:∀u∈us,u.pl≠t.pl) (hl:us.length+1≤20):Calls Tryz.prog 113 #[.slice B n cp,.int .i64 (n:Int),.func (.func 82) #[] #[]] W (fun e w'=>e=.returned (.tuple #[])∧∃j,j≤us.length∧Rise (midT us t j)∧GL w [⟨65,5,.slice B n cp,(midT us t (j)).map tecells⟩] old new w'):=by
 have HG:=znd h
 have HR:=znd hr
 have HNE:=znd hne
 have HB:=znd hB
 have Hn:=znd hn
 have hn20:n≤20:=by omega
 clear h hr hne hB hn hl
 go_enter Tryz.func113,Tryz.ntmps113
 go_wp2_with fail
 go_loopw [7,8] (fun av bv wr=>∃a b j:Nat,av=.int .i64 (a:Int)∧bv=.int .i64 (b:Int)∧j≤us.length∧Hid ((a=0∧b=20∧j=us.length)∨(a=20∧b=40∧n=20∧Rise (midT us t j)))∧Hid (GL w [⟨65,5,.slice B n cp,(midT us t (j)).map tecells⟩] old new wr)) (fun _ bv _=>40-(intOf bv).toNat)
 case atStart=>exact⟨0,20,us.length,rfl,rfl,Nat.le_refl _,znd (.inl ⟨rfl,rfl,rfl⟩),HG⟩
 case round=>
  clear HG
  obtain⟨a,b,j,rfl,rfl,hj,Hab,HG⟩:=hrel
  by_cases hb:b≤n
  ·have hb':(b:Int)≤(n:Int):=by omega
   obtain⟨rfl,rfl,rfl,h3⟩:a=0∧b=20∧j=us.length∧n=20:=by have:=Hab.out;omega
   have H3:=znd h3
   clear h3 Hab
   go_wp2_with fail
   refine(ze0 w _ old new B g n cp HB.out us t _ (by have:=H3.out;omega) Hn.out HG.out HR.out HNE.out (by have:=Hn.out;omega)).mono ?_
   rintro e w1 ⟨rfl,j2,hj2,hri,hg⟩
   have HG2:=znd hg
   have HRi:=znd hri
   clear hg hri HG
   go_wp2_with fail
   go_roundw
   case rel=>exact⟨20,40,j2,rfl,rfl,hj2,znd (.inr ⟨rfl,rfl,H3.out,HRi.out⟩),HG2⟩
   case measure=>(simp[intOf]<;>omega)
  ·have hb':¬(b:Int)≤(n:Int):=by omega
   have hn2:¬(20:Int)<(n:Int):=by omega
   have HC:Hid (Calls Tryz.prog 130 #[.slice B n cp,.int .i64 (a:Int),.int .i64 (n:Int),.func (.func 82) #[] #[]] wr (fun e w'=>e=.returned (.tuple #[])∧∃j,j≤us.length∧Rise (midT us t j)∧GL w [⟨65,5,.slice B n cp,(midT us t (j)).map tecells⟩] old new w')):=by
    rcases Hab.out with⟨rfl,-,rfl⟩|⟨rfl,-,h3,h4⟩
    ·exact znd (ze0 w _ old new B g n cp HB.out us t _ rfl Hn.out HG.out HR.out HNE.out (by have:=Hn.out;omega))
    ·have hlen:n=(midT us t j).length:=by rw[zcz _ _ _ hj];exact Hn.out
     have hL:LsR 5 tecells (fun _ _=>True) B (midT us t j) wr:=⟨(show OwnE wr w.heap.size 65 5 (.slice B n cp) ((midT us t j).map tecells)from HG.out.own _ (List.mem_cons_self ..)).el.1,fun _ _=>trivial⟩
     have hc:=zcm wr (fun _ _=>True) (fun _ W _=>Rests.pure (p:=True) trivial _ _) B cp (midT us t j) hL 20 n _ _ rfl rfl (by omega) (by omega) (by omega) h4
     rw[←hlen]at hc
     refine znd (hc.mono ?_)
     rintro e w1 ⟨rfl,hb⟩
     exact⟨rfl,j,hj,h4,HG.out.skip hb⟩
   clear Hab HG
   go_wp2_with fail
   refine HC.out.mono ?_
   rintro e w1 ⟨rfl,j2,hj2,hri,hg⟩
   have HG:=znd hg
   have HRi:=znd hri
   clear hg hri HC
   go_wp2_with fail
   go_loopw [6] (fun sv wr=>sv=.int .i64 20∧Hid (GL w [⟨65,5,.slice B n cp,(midT us t (j2)).map tecells⟩] old new wr)) (fun _ _=>0)
   case atStart=>exact⟨rfl,HG⟩
   case round=>
    clear HG
    obtain⟨rfl,HG⟩:=hrel
    go_wp2_with fail
    go_end0
    exact⟨rfl,j2,hj2,HRi.out,HG.out⟩
set_option maxRecDepth 100000 in
theorem zkc (w W:World) (old new:World→Prop) (B:Option Addr) (g n cp:Nat) (hB:B=some ⟨g,0,none⟩) (us:List TeV) (t:TeV) (hn:n=us.length+1) (h:GL w [⟨65,5,.slice B n cp,(midT us t (us.length)).map tecells⟩] old new W) (hr:Rise us) (hne:∀u∈us,u.pl≠t.pl) (hl:us.length+1≤20):Calls Tryz.prog 81 #[.slice B n cp,.func (.func 82) #[] #[]] W (fun e w'=>e=.returned (.tuple #[])∧∃j,j≤us.length∧Rise (midT us t j)∧GL w [⟨65,5,.slice B n cp,(midT us t (j)).map tecells⟩] old new w'):=by
 have HC:=znd (zhc w W old new B g n cp hB us t hn h hr hne hl)
 clear hB hn h hr hne hl
 go_enter Tryz.func81,Tryz.ntmps81
 go_wp2_with fail
 refine HC.out.mono ?_
 rintro e w1 ⟨rfl,hg⟩
 have HG:=znd hg
 clear hg
 go_wp2_with fail
 go_end0
 exact⟨rfl,HG.out⟩
set_option maxRecDepth 100000 in
theorem zi1 (w:World) (ok:TeV→World→Prop) (A:Option Addr) (c:Nat) (ts:List TeV) (h:LsR 5 tecells ok A ts w) (hl:ts.length≤1000000) (h0:0<ts.length):Calls Tryz.prog 80 #[.slice A ts.length c] w fun e w'=>∃A' c',e=.returned (.slice A' ts.length c')∧OwnE w' w.heap.size 65 5 (.slice A' ts.length c') (ts.map tecells)∧Below w.heap.size w w':=by
 obtain⟨b0,o0,rfl⟩:=h.sl h0
 have hX:Below w.heap.size w (w.alloc (.cells #[] 65)):=Below.of_alloc w (.cells #[] 65)
 have hel:=h.el.alloc (.cells #[] 65)
 obtain⟨v',w',hrun,ho,hb⟩:=OwnE.apps' (P:=Tryz.prog) (c:=c) zaJ zbD rfl (by decide) (OwnE.made w (Nat.le_refl _) 65 5) hel (fun d hd u hu=>by
  obtain⟨t,-,rfl⟩:=List.mem_map.1 hd
  exact zcd t u hu) (by simp;omega) (by simp[maxLen];omega) (by simp)
 rw[List.nil_append]at ho
 rw[List.length_map]at hrun
 obtain⟨A',c',hv,hc,-⟩:=ho.reads
 rw[List.length_map]at hv hc
 subst hv
 have Hrun:=znd hrun
 have Hb:=znd (hX.trans hb)
 have Ho:=znd ho
 obtain⟨L,hL⟩:∃L,L=ts.length:=⟨_,rfl⟩
 rw[←hL]at Hrun Ho⊢
 have heq:=fun(W:World)=>Lib.run_eql_slice_nil (P:=Tryz.prog) W 24 65 (some ⟨b0,o0,none⟩) L c 0 0 zaJ
 clear h hX hel hrun ho hb hc hL h0 hl
 go_enter Tryz.func80,Tryz.ntmps80
 go_wp2_with (at_builtin;refine zac rfl (.tmp 5) (.tmp 6) 24 _ _ _ rfl rfl rfl Hrun.out ?_)
 go_wp2_with fail
 go_ret
 exact⟨_,_,rfl,Ho.out,Hb.out⟩
set_option maxRecDepth 100000 in
theorem zkC (w:World) (n:Nat) (hn:n≤100000000000) (h1n:1≤n) (A:Option Addr) (c:Nat) (ts:List TeV) (Φ:List TeV→Prop) (h:LsR 5 tecells (teD n) A ts w) (h20:ts.length≤1000000) (h0:0<ts.length) (hT:Tz w)
 (hS:∀(W:World) (B:Option Addr) (cp:Nat),GL w [⟨65,5,.slice B ts.length cp,ts.map tecells⟩] (fun V=>LsR 5 tecells (teD n) A ts V∧Tz V) (fun _=>True) W→Calls Tryz.prog 81 #[.slice B ts.length cp,.func (.func 82) #[] #[]] W fun e w'=>e=.returned (.tuple #[])∧∃vs:List TeV,vs.length=ts.length∧Rise vs∧(∀u∈vs,u∈ts)∧Φ vs∧GL w [⟨65,5,.slice B ts.length cp,vs.map tecells⟩] (fun V=>LsR 5 tecells (teD n) A ts V∧Tz V) (fun _=>True) w'):
 Calls Tryz.prog 44 #[.slice A ts.length c] w fun e w'=>∃vs:List TeV,vs.length=ts.length∧Rise vs∧(∀u∈vs,u∈ts)∧Φ vs∧RetVec ((vs.map plq).filter nzP) w e w':=by
 have HE:=znd (Env.start ((h.old zah).and hT.old))
 have HS0:=znd (show∀t∈ts,Sz t.q n from fun t ht=>RatD.sz (h.ok t ht) h1n)
 have HQ:=znd hS
 have H0:=znd h0
 have HO:=znd ((h.old zah).and hT.old)
 obtain⟨L,hL⟩:∃L,L=ts.length:=⟨_,rfl⟩
 rw[←hL]at HQ⊢
 have HL:=znd hL
 have hL1:L≤1000000:=by omega
 clear h hS hT h0 hL h20
 have hsz1:=zbV
 have hsz2:=zai
 have hadd:=zaa
 go_enter Tryz.func44,Tryz.ntmps44
 go_wp2_with fail
 refine(show Calls Tryz.prog 80 #[.slice A L c] w _ from by have:=zi1 _ (teD n) A c ts HE.out.o.1 (by have:=HL.out;omega) H0.out;rw[←HL.out]at this;exact this).mono ?_
 rintro e w1 ⟨A1,c1,rfl,hk,hb⟩
 have HG:=znd (GL.mk0 hk HO.out hb)
 clear hk hb HE
 go_wp2_with fail
 refine(HQ.out _ _ _ HG.out).mono ?_
 rintro e w2 ⟨rfl,vs,hvl,hvr,hvm,hvp,hg⟩
 replace HG:=znd hg
 have HVL:=znd hvl
 have HR:=znd hvr
 have HVM:=znd hvm
 have HVP:=znd hvp
 have HS:=znd (show∀t∈vs,Sz t.q n from fun t ht=>HS0.out t (HVM.out t ht))
 have sl1:Sl A1 L:=by
  have hw:=(show OwnE w2 w.heap.size 65 5 (.slice A1 L c1) (vs.map tecells)from HG.out.own _ (List.mem_cons_self ..)).el
  have hs:=hw.1.sl
  rwa [←hw.2]at hs
 clear hg hvl hvr hvm hvp HQ
 go_wp2_with fail
 have HG9:=znd ((HG.out.read).new_ 65 5)
 clear HG
 have HG:=HG9
 clear HG9
 go_loopw [4,14] (fun ov iv wr=>∃(Ao:Option Addr) (co i:Nat) (os:List TeV),ov=.slice Ao i co∧iv=.int .i64 (i:Int)∧i≤L∧Hid (os.length=i)∧Hid (os.map plq=(vs.take i).map plq)∧Hid (GL w [⟨65,5,.slice Ao i co,os.map tecells⟩] (fun V=>LsR 5 tecells (teD n) A ts V∧Tz V) (fun V=>(∀p∈os,teN p V)∧El V 5 A1 (vs.map tecells)) wr)) (fun _ iv _=>L-(intOf iv).toNat)
 case atStart=>exact⟨none,0,0,[],rfl,rfl,Nat.zero_le _,znd rfl,znd rfl,znd (HG.out.imp (fun _ h=>h) (fun _ h=>⟨by simp,h.1⟩))⟩
 case round=>
  clear HG
  obtain⟨Ao,co,i,os,rfl,rfl,hi,Hoi,HM,HG⟩:=hrel
  by_cases hlt:i<L
  ·have HE:=znd HG.out.env
   have hlv:i<vs.length:=by have h1:=HVL.out;have h2:=HL.out;omega
   have HLs:=znd (show LsR 5 tecells (teD n) A1 vs wr from⟨HE.out.o.2.2,fun u hu=>HE.out.o.1.1.ok u (HVM.out u hu)⟩)
   have c0:=HLs.out.tc i hlv
   obtain⟨t,ht⟩:∃t,t=vs[i]:=⟨_,rfl⟩
   rw[←ht]at c0
   have Hm:=znd (show t∈ts from HVM.out t (by rw[ht];exact List.getElem_mem hlv))
   have Ht:=znd ht
   clear ht
   go_upto_region 7 with fail
   obtain⟨W2,gt,hW2,hgt,HE⟩:=Env.al HE.out 65 #[.int .i64 t.pl,.bool t.r.num.neg,.slice t.r.num.A t.r.num.k t.r.num.c,.bool t.r.den.neg,.slice t.r.den.A t.r.den.k t.r.den.c]
   rw[hW2,hgt]
   clear hW2 hgt c0
   have c:=Env.c1 HE.out
   go_upto_region 8 with fail
   go_cut [32]from 15 to 56 (fun bv wx=>bv=.bool false∧Hid (Env wr [⟨gt,65,#[.int .i64 t.pl,.bool t.r.num.neg,.slice t.r.num.A t.r.num.k t.r.num.c,.bool t.r.den.neg,.slice t.r.den.A t.r.den.k t.r.den.c]⟩] (fun V=>(fun V=>LsR 5 tecells (teD n) A ts V∧Tz V) V∧(fun V=>(∀p∈os,teN p V)∧El V 5 A1 (vs.map tecells)) V) (fun _=>True) wx))
   case first=>
    rcases Nat.eq_zero_or_pos i with rfl|h0
    ·go_quiet (fail)
     go_wp2_with fail
     go_meet
     case rel=>exact⟨rfl,znd (HE.out.drewN _)⟩
    ·obtain⟨k,rfl⟩:∃k,i=k+1:=⟨i-1,by omega⟩
     have hko:k<os.length:=by have:=Hoi.out;omega
     have hlt2:(os[k]'hko).pl<t.pl:=by
      have h2:=congrArg (fun l=>l[k]?) HM.out
      simp only[List.getElem?_map,List.getElem?_take,List.getElem?_eq_getElem hko]at h2
      rw[if_pos (by omega),List.getElem?_eq_getElem (by have:=HL.out;have:=HVL.out;omega)]at h2
      have h3:(os[k]'hko).pl=(vs[k]'(by have:=HL.out;have:=HVL.out;omega)).pl:=by simpa[plq] using congrArg (fun o=>(o.map Prod.fst).getD 0) h2
      rw[h3,Ht.out]
      exact HR.out.at_ (by omega) hlv
     have cc:Hid (LsR 5 tecells teN Ao os wr):=znd ⟨(show OwnE wr w.heap.size 65 5 (.slice Ao (k+1) co) (os.map tecells)from HG.out.own _ (List.mem_cons_self ..)).el.1,HG.out.n.1⟩
     have c2:=((cc.out.old zda).below HE.out.bel).now.tc k hko
     have slo:Sl Ao (k+1):=by have:=cc.out.sl;rwa [Hoi.out]at this
     have hne:((os[k]'hko).pl==t.pl)=false:=by simp;omega
     generalize (os[k]'hko)=u at*
     have hi1:(0:Int)<(k:Int)+1:=by omega
     have hi3:(k:Int)<(k:Int)+1:=by omega
     have hi4:k<k+1:=by omega
     have hi5:IntKind.i64.wrap ((k:Int)+1-1)=(k:Int):=by rw[IntKind.wrap_i64];omega
     have hi6:IntKind.i64.wrap (k:Int)=(k:Int):=by rw[IntKind.wrap_i64];omega
     clear cc hlt2 hko
     go_quiet (fail)
     go_wp2_with fail
     go_meet
     case rel=>exact⟨rfl,znd (HE.out.drewN _)⟩
   case rest=>
    clear HE c
    obtain⟨rfl,HE⟩:=hcut
    have c:=Env.c1 HE.out
    go_upto_region 10 with fail
    go_region_held3 (fun W=>CB gt #[.int .i64 t.pl,.bool t.r.num.neg,.slice t.r.num.A t.r.num.k t.r.num.c,.bool t.r.den.neg,.slice t.r.den.A t.r.den.k t.r.den.c] W) (first|with_reducible exact c|((repeat' apply And.intro)<;>go_keep)|exact c|exact Env.c1 (HE.out.other _)|exact Env.c1 (HE.out.drew.other _))
     (first
      |(go_at_call 24;go_must (refine(zaG _ t.r t.q n (by omega) h1n (by first|exact HE.out.o.1.1.ok t Hm.out|exact HE.out.drew.o.1.1.ok t Hm.out) (by first|exact HE.out.o.1.2|exact HE.out.drew.o.1.2)).mono ?_;rintro e w3 ⟨rk,rfl,hk,hb⟩;replace HE:=znd (Env.rx HE.out hk hb);replace c:=Env.c1 HE.out;clear hk hb))
      |(obtain⟨Ap,cp,w8,hrun,hG⟩:=GL.appT zaE (os:=os) (by rw[Hoi.out];exact HG.out) (by first|exact HE.out.read|exact HE.out.drew.read) ⟨t.pl,rk,t.q⟩ (by have:=Hoi.out;omega);rw[Hoi.out]at hrun;refine zbr rfl (.tmp 47) (.tmp 54) 25 _ _ _ rfl rfl rfl hrun ?_;replace c:=Blk.cb hG.n.1.1;have HG2:=znd hG;clear hrun hG HE))
    go_wp2_with fail
    go_roundw
    case rel=>exact⟨Ap,cp,i+1,os++[⟨t.pl,rk,t.q⟩],by rw[Hoi.out],by go_num,by omega,znd (by have:=Hoi.out;simp;omega),znd (by rw[List.map_append,HM.out,List.take_succ_eq_append_getElem hlv,List.map_append,←Ht.out];rfl),znd (by have hX:=HG2.out;rw[List.length_append,Hoi.out]at hX;exact hX.imp (fun _ h=>h) (fun V h=>⟨fun p hp=>by
     rcases List.mem_append.1 hp with hp|hp
     ·exact h.2.1 p hp
     ·rw[List.mem_singleton.1 hp];exact h.1.2.1,h.2.2⟩))⟩
    case measure=>(simp[intOf]<;>omega)
  ·obtain rfl:i=L:=by omega
   have hol:os.length≤1000000:=by have:=Hoi.out;omega
   have HM2:=znd (show os.map plq=vs.map plq by have h1:=HM.out;rwa [List.take_of_length_le (by have:=HL.out;have:=HVL.out;omega)]at h1)
   have HS2:=znd (show∀p∈os,Sz p.q n from fun p hp=>by
    have h1:=List.mem_map_of_mem (f:=plq) hp
    rw[HM2.out]at h1
    obtain⟨t,ht,e⟩:=List.mem_map.1 h1
    have e2:t.q=p.q:=congrArg Prod.snd e
    rw[←e2];exact HS.out t ht)
   clear HM
   go_wp2_with fail
   refine(zed w _ (.slice Ao i co) os n hn _ _ HG.out (fun V hV p hp=>RatN.rat (hV.1 p hp) (HS2.out p hp)) hol).mono ?_
   rintro e w9 ⟨⟨Ap,cp,rfl,hc,hr⟩,hb⟩
   have Hr:=znd hr
   clear hr
   go_wp2_with fail
   go_ret
   refine⟨vs,HVL.out.trans rfl,HR.out,HVM.out,HVP.out,Ap,cp,os.filter nzT,rfl,hc,by rw[filter_plq,HM2.out],Hr.out.imp fun V h=>⟨h.1,fun p hp=>h.2.1 p (List.mem_filter.1 hp).1⟩,hb⟩
theorem zky (w:World) (n:Nat) (hn:n≤100000000000) (h1n:1≤n) (A:Option Addr) (c:Nat) (us:List TeV) (t:TeV) (h:LsR 5 tecells (teD n) A (us++[t]) w) (h20:us.length+1≤20) (hr:Rise us) (hne:∀u∈us,u.pl≠t.pl) (hT:Tz w):
 Calls Tryz.prog 44 #[.slice A (us.length+1) c] w fun e w'=>∃j,j≤us.length∧Rise (midT us t j)∧RetVec (((midT us t j).map plq).filter nzP) w e w':=by
 have hl:(us++[t]).length=us.length+1:=by simp
 have e0:us++[t]=midT us t us.length:=by unfold midT;simp
 have k:=zkC w n hn h1n A c (us++[t]) (fun vs=>∃j,j≤us.length∧vs=midT us t j) h (by rw[hl];omega) (by rw[hl];omega) hT (fun W B cp hG=>by
  rw[hl]at hG⊢
  have ho:OwnE W w.heap.size 65 5 (.slice B (us.length+1) cp) ((us++[t]).map tecells):=hG.own _ (List.mem_cons_self ..)
  obtain⟨b,o,hB⟩:=ho.el.1.sl (by simp)
  obtain⟨g,hg⟩:∃g,B=some ⟨g,0,none⟩:=by
   rcases ho.2.2 with⟨h1,-⟩|⟨g',cap',cur,hv,-⟩
   ·rw[hB]at h1;cases h1
   ·injection hv with h1;exact⟨g',h1⟩
  have hG2:=hG
  rw[show List.map tecells (us++[t])=List.map tecells (midT us t us.length)from by rw[←e0]]at hG2
  refine(zkc w W _ _ B g (us.length+1) cp hg us t rfl hG2 hr hne h20).mono ?_
  rintro e w' ⟨rfl,j,hj,hri,hg'⟩
  exact⟨rfl,midT us t j,zcz us t j hj,hri,zgn,⟨j,hj,rfl⟩,hg'⟩)
 rw[hl]at k
 refine k.mono ?_
 rintro e w' ⟨vs,-,hri,-,⟨j,hj,rfl⟩,hret⟩
 exact⟨j,hj,hri,hret⟩
end Go.Proofs.YtfdmajmhmligpaaGreatDoor
