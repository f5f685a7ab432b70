/-
 whole: Sign, Cmp, Add, Sub, Of.
-/
import Derived.Test.YtfdmajmhmligpaaGreatDoorWA
namespace Go.Proofs.YtfdmajmhmligpaaGreatDoor
set_option maxHeartbeats 2000000
open Go.RowKit

theorem zmJ {W:World} {i:IV} {z:Int} {n:Nat} (h:IntD i z n W) (hn:n≤900000000000):∃b:Nat,(b=0↔z=0)∧Calls Tryz.prog 98 #[.slice i.A i.k i.c] W fun e w'=>e=.returned (.int .i64 (b:Int))∧W=w':=by
 obtain⟨l,hk,hr,hx,rfl⟩:=h.ex
 have:=h.le
 refine⟨bitsN l,?_,by rw[hk];exact zjY W i.A i.c l (by omega) hr hx⟩
 rw[zhf hx]
 unfold iv;split<;>omega
theorem IntD.neg_of {i:IV} {z:Int} {n:Nat} {w:World} (h:IntD i z n w) (h0:z≠0):i.neg=decide (z<0):=by
 obtain⟨l,-,-,-,rfl⟩:=h.ex
 unfold iv at*
 cases i.neg<;>simp_all<;>omega

set_option maxRecDepth 100000 in
theorem zau (w:World) (i:IV) (z:Int) (n:Nat) (hn:n≤900000000000) (h:IntD i z n w):
 Calls Tryz.prog 52 #[iA i] w fun e w'=>e=.returned (.int .i64 z.sign)∧Below w.heap.size w w':=by
 obtain⟨b,hb0,hbc⟩:=zmJ (h.old.alloc (.cells #[.bool i.neg,.slice i.A i.k i.c] 46)).now hn
 have Hbc:=znd hbc
 have Hbel:=znd (Below.of_alloc w (.cells #[.bool i.neg,.slice i.A i.k i.c] 46))
 by_cases h0:z=0
 ·have hq:((b:Int)==0)=true:=by simp[hb0.2 h0]
  have Hs:=znd (show z.sign=0 by rw[h0];rfl)
  clear h hbc hb0 h0
  unfold iA
  go_enter Tryz.func52,Tryz.ntmps52
  go_wp2_with fail
  refine Hbc.out.mono ?_
  rintro e w' ⟨rfl,rfl⟩
  go_wp2_with fail
  go_ret
  rw[Hs.out]
  exact⟨rfl,Hbel.out⟩
 ·have hq:((b:Int)==0)=false:=by have:b≠0:=fun e=>h0 (hb0.1 e);simp;omega
  have hneg:=h.neg_of h0
  clear h hbc hb0
  by_cases hz:z<0
  ·have hn':i.neg=true:=by rw[hneg];simp[hz]
   have Hs:=znd (Int.sign_eq_neg_one_of_neg hz)
   have Hbel':=znd Hbel.out
   clear hneg hz h0
   unfold iA
   go_enter Tryz.func52,Tryz.ntmps52
   go_wp2_with fail
   refine Calls.mono (by rw[←hn'];exact Hbc.out) ?_
   rintro e w' ⟨rfl,rfl⟩
   go_wp2_with fail
   go_ret
   rw[Hs.out]
   exact⟨rfl,by rw[←hn'];exact Hbel.out⟩
  ·have hn':i.neg=false:=by rw[hneg];simp[hz]
   have Hs:=znd (Int.sign_eq_one_of_pos (a:=z) (by omega))
   clear hneg hz h0
   unfold iA
   go_enter Tryz.func52,Tryz.ntmps52
   go_wp2_with fail
   refine Calls.mono (by rw[←hn'];exact Hbc.out) ?_
   rintro e w' ⟨rfl,rfl⟩
   go_wp2_with fail
   go_ret
   rw[Hs.out]
   exact⟨rfl,by rw[←hn'];exact Hbel.out⟩

set_option maxRecDepth 100000 in
theorem zeY (w:World) (i:IV) (z:Int) (n:Nat) (hn:n≤900000000000) (h:IntD i z n w):
 Calls Tryz.prog 87 #[iA i] w fun e w'=>e=.returned (.bool (decide (z<0)))∧Below w.heap.size w w':=by
 have Hc:=znd (zau (w.alloc (.cells #[.bool i.neg,.slice i.A i.k i.c] 46)) i z n hn (h.old.alloc (.cells #[.bool i.neg,.slice i.A i.k i.c] 46)).now)
 have Hbel:=znd (Below.of_alloc w (.cells #[.bool i.neg,.slice i.A i.k i.c] 46))
 have Hs:=znd (show decide (z.sign<0)=decide (z<0)from decide_eq_decide.2 Int.sign_neg_iff)
 clear h
 unfold iA
 go_enter Tryz.func87,Tryz.ntmps87
 go_wp2_with fail
 refine Hc.out.mono ?_
 rintro e w1 ⟨rfl,hb1⟩
 have Hb1:=znd (Below.after Hbel.out hb1)
 clear hb1
 generalize z.sign=s at*
 go_wp2_with fail
 go_ret
 rw[←Hs.out]
 exact⟨rfl,Hb1.out⟩

theorem zmM {W:World} {i j:IV} {z y:Int} {n m:Nat} (h:IntD i z n W) (h':IntD j y m W) (hn:n≤900000000000) (hm:m≤900000000000):Calls Tryz.prog 89 #[.slice i.A i.k i.c,.slice j.A j.k j.c] W (RetL .u64 (digs B64 (z.natAbs+y.natAbs)) W):=by
 obtain⟨l,hk,hr,hx,rfl⟩:=h.ex
 obtain⟨l',hk',hr',hx',rfl⟩:=h'.ex
 have:=h.le;have:=h'.le
 rw[hk,hk',zad,zad]
 exact zik W i.A j.A i.c j.c l l' (by omega) (by omega) hr hr' hx hx'
theorem zko {W:World} {i j:IV} {z y:Int} {n m:Nat} (h:IntD i z n W) (h':IntD j y m W) (hn:n≤900000000000) (hm:m≤900000000000):Calls Tryz.prog 91 #[.slice i.A i.k i.c,.slice j.A j.k j.c] W (RetL .u64 (digs B64 (z.natAbs-y.natAbs)) W):=by
 obtain⟨l,hk,hr,hx,rfl⟩:=h.ex
 obtain⟨l',hk',hr',hx',rfl⟩:=h'.ex
 have:=h.le;have:=h'.le
 rw[hk,hk',zad,zad]
 exact zih W i.A j.A i.c j.c l l' (by omega) (by omega) hr hr' hx hx'
theorem zkM {W:World} {i j:IV} {z y:Int} {n m:Nat} (h:IntD i z n W) (h':IntD j y m W) (hn:n≤900000000000) (hm:m≤900000000000):Calls Tryz.prog 90 #[.slice i.A i.k i.c,.slice j.A j.k j.c] W fun e w'=>e=.returned (.int .i64 (cmpN z.natAbs y.natAbs))∧∃q,w'=W.drewN q:=by
 obtain⟨l,hk,hr,hx,rfl⟩:=h.ex
 obtain⟨l',hk',hr',hx',rfl⟩:=h'.ex
 have:=h.le;have:=h'.le
 rw[hk,hk',zad,zad]
 exact zdO W i.A j.A i.c j.c l l' (by omega) (by omega) hr hr' hx hx'

theorem Env.wn {w W:World} {bs:List Bo} {old new:World→Prop} (h:Env w bs old new W):∃W2,W=W2∧Hid (Env w bs old new W2):=⟨W,rfl,znd h⟩
theorem znh {z y:Int} {b:Bool} (hz:decide (z<0)=b) (hy:decide (y<0)=b):(b&&decide (0<(digs B64 (z.natAbs+y.natAbs)).length))=decide (z+y<0)∧(z+y).natAbs=z.natAbs+y.natAbs:=by
 cases b
 ·have h1:=of_decide_eq_false hz
  have h2:=of_decide_eq_false hy
  exact⟨by rw[Bool.false_and];exact(decide_eq_false (by omega)).symm,by omega⟩
 ·have h1:=of_decide_eq_true hz
  have h2:=of_decide_eq_true hy
  exact⟨by rw[Bool.true_and,decide_eq_true (zas (by omega)),decide_eq_true (by omega)],by omega⟩
theorem zni {z y:Int} {b:Bool} (hz:decide (z<0)=b) (hy:decide (y<0)=!b) (hl:y.natAbs≤z.natAbs):(b&&decide (0<(digs B64 (z.natAbs-y.natAbs)).length))=decide (z+y<0)∧(z+y).natAbs=z.natAbs-y.natAbs:=by
 cases b
 ·have h1:=of_decide_eq_false hz
  have h2:=of_decide_eq_true hy
  exact⟨by rw[Bool.false_and];exact(decide_eq_false (by omega)).symm,by omega⟩
 ·have h1:=of_decide_eq_true hz
  have h2:=of_decide_eq_false hy
  refine⟨?_,by omega⟩
  rw[Bool.true_and]
  by_cases h:z.natAbs=y.natAbs
  ·rw[h,Nat.sub_self,zbF,decide_eq_false (show¬0<([]:List Nat).length by simp),decide_eq_false (by omega)]
  ·rw[decide_eq_true (zas (by omega)),decide_eq_true (by omega)]
set_option maxRecDepth 100000 in
theorem zne (w:World) (i j:IV) (z y:Int) (n m:Nat) (hn:n≤900000000000) (hm:m≤900000000000) (h:IntD i z n w) (h':IntD j y m w) (b:Bool) (hz:decide (z<0)=b) (hy:decide (y<0)=b):
 Calls Tryz.prog 48 #[iA i,iA j] w (RetZ (z+y) w):=by
 have HZ:=znd hz
 have HY:=znd hy
 have HE:=znd (zmx i j ((h.old).and (h'.old)))
 have c:=Env.c3 HE.out
 have dd:=Env.d3 HE.out
 clear h h' hz hy
 unfold iA
 go_enter Tryz.func48,Tryz.ntmps48
 go_wp2_with fail
 go_region_held3 (fun W=>CB (w.heap.size+1) #[.bool j.neg,.slice j.A j.k j.c] W∧CB (w.heap.size) #[.bool i.neg,.slice i.A i.k i.c] W) (first|with_reducible exact⟨c.2.1,c.2.2⟩|((repeat' apply And.intro)<;>go_keep)|exact⟨c.2.1,c.2.2⟩)
  (first
   |(go_at_call_of 87 (Value.agg #[.bool i.neg,.slice i.A i.k i.c]);go_must (refine(zeY _ i z n hn (by first|exact HE.out.o.1|exact HE.out.drew.o.1)).mono ?_;rintro e w1 ⟨rfl,hb⟩;replace HE:=znd (Env.cx HE.out hb);replace c:=Env.c3 HE.out;clear hb;rw[HZ.out]))
   |(go_at_call_of 87 (Value.agg #[.bool j.neg,.slice j.A j.k j.c]);go_must (refine(zeY _ j y m hm (by first|exact HE.out.o.2|exact HE.out.drew.o.2)).mono ?_;rintro e w2 ⟨rfl,hb⟩;replace HE:=znd (Env.cx HE.out hb);replace c:=Env.c3 HE.out;clear hb;rw[HY.out])))
 all_goals
  go_wp2_with fail
  go_region_held3 (fun W=>CB (w.heap.size+1) #[.bool j.neg,.slice j.A j.k j.c] W∧CB (w.heap.size) #[.bool i.neg,.slice i.A i.k i.c] W) (first|with_reducible exact⟨c.2.1,c.2.2⟩|((repeat' apply And.intro)<;>go_keep)|exact⟨c.2.1,c.2.2⟩)
   (first
    |(go_at_call_of 87 (Value.agg #[.bool i.neg,.slice i.A i.k i.c]);go_must (refine(zeY _ i z n hn (by first|exact HE.out.o.1|exact HE.out.drew.o.1)).mono ?_;rintro e w3 ⟨rfl,hb⟩;replace HE:=znd (Env.cx HE.out hb);replace c:=Env.c3 HE.out;clear hb;rw[HZ.out]))
    |(go_at_call 89;go_must (refine(zmM (i:=i) (j:=j) (z:=z) (y:=y) (n:=n) (m:=m) (by first|exact HE.out.o.1|exact HE.out.drew.o.1) (by first|exact HE.out.o.2|exact HE.out.drew.o.2) hn hm).mono ?_;rintro e w4 ⟨As,cs,rfl,hcp,hrd,hb,hf⟩;replace HE:=znd (Env.rx HE.out (zam hrd (fun k hk=>hf k hk)) hb);replace c:=Env.c3 HE.out;have Hcs:=znd hcp;clear hcp hrd hb hf))
    |(go_at_call 88;go_must (refine(zag _ _ _ _ _).mono ?_;rintro e w5 ⟨rfl,hb⟩;replace HE:=znd (Env.cx HE.out hb);replace c:=Env.c3 HE.out;clear hb)))
  all_goals
   go_wp2_with fail
   replace HE:=znd (Env.put2 (by first|exact HE.out|exact HE.out.drew) (.bool (b&&decide (0<(digs B64 (z.natAbs+y.natAbs)).length))) (.slice As (digs B64 (z.natAbs+y.natAbs)).length cs))
   replace c:=Env.c3 HE.out
   have HS:=znh HZ.out HY.out
   exact bodyPost_ret (v:=.agg #[.bool (b&&decide (0<(digs B64 (z.natAbs+y.natAbs)).length)),.slice As (digs B64 (z.natAbs+y.natAbs)).length cs]) (by simp[results,Tryz.results48,go_sem,c]) rfl (Env.retZ (i:=⟨b&&decide (0<(digs B64 (z.natAbs+y.natAbs)).length),As,(digs B64 (z.natAbs+y.natAbs)).length,cs⟩) HE.out (fun V h=>IntN.of_digs h.1 Hcs.out HS.1 HS.2))
set_option maxRecDepth 100000 in
theorem znf (w:World) (i j:IV) (z y:Int) (n m:Nat) (hn:n≤900000000000) (hm:m≤900000000000) (h:IntD i z n w) (h':IntD j y m w) (b:Bool) (hz:decide (z<0)=b) (hy:decide (y<0)=!b):
 Calls Tryz.prog 48 #[iA i,iA j] w (RetZ (z+y) w):=by
 have HZ:=znd hz
 have HY:=znd hy
 have HE:=znd (zmx i j ((h.old).and (h'.old)))
 have c:=Env.c3 HE.out
 have dd:=Env.d3 HE.out
 clear h h' hz hy
 unfold iA
 go_enter Tryz.func48,Tryz.ntmps48
 go_wp2_with fail
 go_region_held3 (fun W=>CB (w.heap.size+1) #[.bool j.neg,.slice j.A j.k j.c] W∧CB (w.heap.size) #[.bool i.neg,.slice i.A i.k i.c] W) (first|with_reducible exact⟨c.2.1,c.2.2⟩|((repeat' apply And.intro)<;>go_keep)|exact⟨c.2.1,c.2.2⟩)
  (first
   |(go_at_call_of 87 (Value.agg #[.bool i.neg,.slice i.A i.k i.c]);go_must (refine(zeY _ i z n hn (by first|exact HE.out.o.1|exact HE.out.drew.o.1)).mono ?_;rintro e w1 ⟨rfl,hb⟩;replace HE:=znd (Env.cx HE.out hb);replace c:=Env.c3 HE.out;clear hb;rw[HZ.out]))
   |(go_at_call_of 87 (Value.agg #[.bool j.neg,.slice j.A j.k j.c]);go_must (refine(zeY _ j y m hm (by first|exact HE.out.o.2|exact HE.out.drew.o.2)).mono ?_;rintro e w2 ⟨rfl,hb⟩;replace HE:=znd (Env.cx HE.out hb);replace c:=Env.c3 HE.out;clear hb;rw[HY.out])))
 all_goals
  go_wp2_with fail
  replace HE:=znd (by first|exact HE.out|exact HE.out.drew)
  refine(zkM (i:=i) (j:=j) (z:=z) (y:=y) (n:=n) (m:=m) HE.out.o.1 HE.out.o.2 hn hm).mono ?_
  rintro e w3 ⟨rfl,qd,rfl⟩
  replace HE:=znd (Env.call HE.out (Below.drewN (Below.refl _ _) qd))
  replace c:=Env.c3 HE.out
  have hcn:=znd (show z.natAbs<y.natAbs↔cmpN z.natAbs y.natAbs<0 from by unfold cmpN;split<;>(try split)<;>omega)
  by_cases hlt:cmpN z.natAbs y.natAbs<0
  case' pos=>
   go_upto_region 6 with fail
   obtain⟨W3,hW3,HE2⟩:=Env.wn ((HE.out.put2_2 (.bool j.neg) (.slice j.A j.k j.c)).put2_1 (.bool i.neg) (.slice i.A i.k i.c))
   rw[hW3]
   have HX:∃(p q:IV) (x u:Int) (a:Bool),Hid (decide (x<0)=a∧decide (u<0)=!a∧u.natAbs≤x.natAbs∧x+u=z+y∧∀V,IntD i z n V∧IntD j y m V→IntD p x 900000000000 V∧IntD q u 900000000000 V)∧Hid (Env w [⟨w.heap.size+1+1,46,#[.bool false,.slice none 0 0]⟩,⟨w.heap.size+1,46,#[.bool q.neg,.slice q.A q.k q.c]⟩,⟨w.heap.size,46,#[.bool p.neg,.slice p.A p.k p.c]⟩] (fun V=>IntD i z n V∧IntD j y m V) (fun _=>True) W3):=⟨j,i,y,z,!b,znd ⟨HY.out,by rw[HZ.out,Bool.not_not],by have:=hcn.out.2 hlt;omega,Int.add_comm _ _,fun V h=>⟨h.2.mono hm,h.1.mono hn⟩⟩,HE2⟩
   clear hW3 HE2 hlt
  case' neg=>
   go_upto_region 6 with fail
   obtain⟨W3,hW3,HE2⟩:=Env.wn HE.out
   rw[hW3]
   have HX:∃(p q:IV) (x u:Int) (a:Bool),Hid (decide (x<0)=a∧decide (u<0)=!a∧u.natAbs≤x.natAbs∧x+u=z+y∧∀V,IntD i z n V∧IntD j y m V→IntD p x 900000000000 V∧IntD q u 900000000000 V)∧Hid (Env w [⟨w.heap.size+1+1,46,#[.bool false,.slice none 0 0]⟩,⟨w.heap.size+1,46,#[.bool q.neg,.slice q.A q.k q.c]⟩,⟨w.heap.size,46,#[.bool p.neg,.slice p.A p.k p.c]⟩] (fun V=>IntD i z n V∧IntD j y m V) (fun _=>True) W3):=⟨i,j,z,y,b,znd ⟨HZ.out,HY.out,by have h8:=hcn.out;omega,rfl,fun V h=>⟨h.1.mono hn,h.2.mono hm⟩⟩,HE2⟩
   clear hW3 HE2 hlt
  all_goals
   clear HE c HZ HY hcn
   obtain⟨p,q,x,u,a,HP,HE⟩:=HX
   have HX:=znd HP.out.1
   have HU:=znd HP.out.2.2.2.2
   have c:=Env.c3 HE.out
   go_region_held3 (fun W=>CB (w.heap.size+1) #[.bool q.neg,.slice q.A q.k q.c] W∧CB (w.heap.size) #[.bool p.neg,.slice p.A p.k p.c] W) (first|with_reducible exact⟨c.2.1,c.2.2⟩|((repeat' apply And.intro)<;>go_keep)|exact⟨c.2.1,c.2.2⟩)
    (first
     |(go_at_call_of 87 (Value.agg #[.bool p.neg,.slice p.A p.k p.c]);go_must (refine(zeY _ p x 900000000000 (by decide) (by first|exact(HU.out _ HE.out.o).1|exact(HU.out _ HE.out.drew.o).1)).mono ?_;rintro e w3 ⟨rfl,hb⟩;replace HE:=znd (Env.cx HE.out hb);replace c:=Env.c3 HE.out;clear hb;rw[HX.out]))
     |(go_at_call 91;go_must (refine(zko (i:=p) (j:=q) (z:=x) (y:=u) (n:=900000000000) (m:=900000000000) (by first|exact(HU.out _ HE.out.o).1|exact(HU.out _ HE.out.drew.o).1) (by first|exact(HU.out _ HE.out.o).2|exact(HU.out _ HE.out.drew.o).2) (by decide) (by decide)).mono ?_;rintro e w4 ⟨As,cs,rfl,hcp,hrd,hb,hf⟩;replace HE:=znd (Env.rx HE.out (zam hrd (fun k hk=>hf k hk)) hb);replace c:=Env.c3 HE.out;have Hcs:=znd hcp;clear hcp hrd hb hf))
     |(go_at_call 88;go_must (refine(zag _ _ _ _ _).mono ?_;rintro e w5 ⟨rfl,hb⟩;replace HE:=znd (Env.cx HE.out hb);replace c:=Env.c3 HE.out;clear hb)))
   all_goals
    go_wp2_with fail
    replace HE:=znd (Env.put2 (by first|exact HE.out|exact HE.out.drew) (.bool (a&&decide (0<(digs B64 (x.natAbs-u.natAbs)).length))) (.slice As (digs B64 (x.natAbs-u.natAbs)).length cs))
    replace c:=Env.c3 HE.out
    obtain⟨h1,h2,h3,h4,-⟩:=HP.out
    have HS:=zni h1 h2 h3
    rw[h4]at HS
    exact bodyPost_ret (v:=.agg #[.bool (a&&decide (0<(digs B64 (x.natAbs-u.natAbs)).length)),.slice As (digs B64 (x.natAbs-u.natAbs)).length cs]) (by simp[results,Tryz.results48,go_sem,c]) rfl (Env.retZ (i:=⟨a&&decide (0<(digs B64 (x.natAbs-u.natAbs)).length),As,(digs B64 (x.natAbs-u.natAbs)).length,cs⟩) HE.out (fun V h=>IntN.of_digs h.1 Hcs.out HS.1 HS.2))
theorem zgj (w:World) (i j:IV) (z y:Int) (n m:Nat) (hn:n≤900000000000) (hm:m≤900000000000) (h_:IntD i z n w) (h':IntD j y m w):
 Calls Tryz.prog 48 #[iA i,iA j] w (RetZ (z+y) w):=by
 by_cases h:decide (y<0)=decide (z<0)
 ·exact zne w i j z y n m hn hm h_ h' _ rfl h
 ·exact znf w i j z y n m hn hm h_ h' _ rfl (by cases h1:decide (z<0)<;>cases h2:decide (y<0)<;>simp_all)
end Go.Proofs.YtfdmajmhmligpaaGreatDoor
