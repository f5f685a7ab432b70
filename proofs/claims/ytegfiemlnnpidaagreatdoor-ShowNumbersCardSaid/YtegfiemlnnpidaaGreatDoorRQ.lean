/-
 ratio: over, parts, lowest. ratio: lowest. ratio: Make, Norm, Of, Mul, Quo, Neg, Abs, Whole, both, Add, Sub. whole.Cmp; ratio: Sign, Cmp, Same, Max, Min, Floor, IsWhole, Div. Plain laws of fractions: the order by the sign of a difference; ends; the whole numbers next to a fraction. ratio: Ceil.
-/
import Derived.Test.YtegfiemlnnpidaaGreatDoorEM
import Derived.Deep.DeepCutAuto
import Derived.Deep.DeepMust
namespace Go.Proofs.YtegfiemlnnpidaaGreatDoor
set_option maxHeartbeats 2000000
open Go.RowKit

def RetP (x d:Int) (N:Nat) (F:Nat->Prop) (w:World) (e:Ending) (w':World):Prop:=
 ∃i j:IV,e=.returned (.tuple #[.agg (cI i),.agg (cI j)])/\Rests w' F (IntD i x N)/\Rests w' F (IntD j d N)/\Below w.heap.size w w'
def ovN (x y:Int):Int:=if y=0 then 0 else if y<0 then -x else x
def ovD (y:Int):Int:=if y=0 then 1 else if y<0 then -y else y
theorem zi6 (y:Int):0<ovD y:=by unfold ovD;split;omega;split<;>omega
theorem zms (x y:Int):Rat.divInt (ovN x y) (ovD y)=Rat.divInt x y:=by
 unfold ovN ovD
 split
 ·rename_i h;subst h;simp
 ·split
  ·exact Rat.neg_divInt_neg x y
  ·rfl
def paN (r:RV) (x d:Int):Int:=if r.den.k=0 then x else ovN x d
def paD (r:RV) (d:Int):Int:=if r.den.k=0 then 1 else ovD d
theorem zm2 (r:RV) (d:Int):0<paD r d:=by unfold paD;split;omega;exact zi6 d
theorem zn7 (r:RV) (x d:Int):Rat.divInt (paN r x d) (paD r d)=if r.den.k=0 then Rat.divInt x 1 else Rat.divInt x d:=by
 unfold paN paD
 split
 ·rfl
 ·exact zms x d

section
variable {w W W':World} {bs:List Bo} {old new φ ψ:World->Prop}
theorem Env.retP {G:Nat->Prop} {i j:IV} {x d:Int} {N:Nat} {v:Value} (h:Env w bs old new W) (hv:v=.tuple #[.agg (cI i),.agg (cI j)]) (hi:Rests W G (IntD i x N)) (hj:Rests W G (IntD j d N)):RetP x d N G w (.returned v) W:=by
 subst hv;exact⟨i,j,rfl,hi,hj,h.bel⟩
theorem zlS {x d G:Int} (hd:0<d) (hG:G=(Nat.gcd x.natAbs d.natAbs:Int)):0<G/\G.natAbs<=d.natAbs/\0<d/G/\Nat.gcd (x/G).natAbs (d/G).natAbs=1/\Rat.divInt (x/G) (d/G)=Rat.divInt x d:=by
 have h0:0<Nat.gcd x.natAbs d.natAbs:=Nat.gcd_pos_of_pos_right _ (by omega);have h1:Nat.gcd x.natAbs d.natAbs∣x.natAbs:=Nat.gcd_dvd_left _ _;have h2:Nat.gcd x.natAbs d.natAbs∣d.natAbs:=Nat.gcd_dvd_right _ _;have hle:=Nat.le_of_dvd (by omega) h2;have e1:x=G*(x/G):=by rw[hG];exact(Int.mul_ediv_cancel' (Int.ofNat_dvd_left.2 h1)).symm
 have e2:d=G*(d/G):=by rw[hG];exact(Int.mul_ediv_cancel' (Int.ofNat_dvd_left.2 h2)).symm
 have hp:0<G:=by omega
 have hdp:0<d/G:=by
  rcases Int.lt_trichotomy (d/G) 0 with h|h|h
  ·have:=Int.mul_neg_of_pos_of_neg hp h;omega
  ·rw[h]at e2;omega
  ·exact h
 refine⟨hp,by omega,hdp,?_,?_⟩
 ·have hx:(x/G).natAbs=x.natAbs/Nat.gcd x.natAbs d.natAbs:=by rw[hG,Int.natAbs_ediv_of_dvd (Int.ofNat_dvd_left.2 h1)];simp
  have hy:(d/G).natAbs=d.natAbs/Nat.gcd x.natAbs d.natAbs:=by rw[hG,Int.natAbs_ediv_of_dvd (Int.ofNat_dvd_left.2 h2)];simp
  rw[hx,hy,Nat.gcd_div h1 h2,Nat.div_self h0]
 ·rw[Rat.divInt_eq_divInt_iff (by omega) (by omega)];generalize x/G=X at*;generalize d/G=Y at*;subst e1;subst e2;rw[Int.mul_comm X,Int.mul_comm (G*X),Int.mul_comm G Y,Int.mul_assoc,Int.mul_comm G X]
theorem zmb {X D:Int} (hD:0<D) (hg:Nat.gcd X.natAbs D.natAbs=1):(Rat.divInt X D).num=X/\((Rat.divInt X D).den:Int)=D:=by
 obtain⟨a,b⟩:=zfY (x:=X) hD;rw[hg]at a b;exact⟨by rw[a];exact Int.ediv_one X,by rw[b];exact Int.ediv_one D⟩
theorem zmv (W:World) (i j:IV) (z y G:Int) (n m:Nat) (hn:n<=900000000000) (hm:m<=900000000000) (h:IntD i z n W) (h':IntD j y m W) (hT:Tz W) (hG:G=(Nat.gcd z.natAbs y.natAbs:Int)):
 Calls Tryz.prog 136 #[iA i,iA j] W (RetZ G W):=by
 rw[hG];exact zkd W i j z y n m hn hm h h' hT
end
set_option maxRecDepth 100000 in
theorem zjg (w:World) (i j:IV) (x y:Int) (n:Nat) (F:Nat->Prop) (hn:n<=900000000000) (h1n:1<=n) (h:Rests w F (IntD i x n)) (h':Rests w F (IntD j y n)) (hy:y=0):
 Calls Tryz.prog 139 #[iA i,iA j] w (RetP 0 1 n (fun b=>F b\/w.heap.size<=b) w):=by
 have Hs:=znd (show y.sign=0 by rw[hy];rfl);have H1:=znd (show(1:Int).natAbs<B64^n from Nat.lt_of_lt_of_le (by decide:1<B64^1) (Nat.pow_le_pow_right za4 h1n));have HI:=znd h;have HJ:=znd h';have Hn:=znd h1n;have HE:=znd (zi7 i j ((h.now.old).and (h'.now.old)));have c:=Env.c4 HE.out;have dd:=Env.d4 HE.out;clear h h' hy h1n;unfold iA;go_enter Tryz.func139,Tryz.ntmps139;go_wp2_with fail;refine(zau _ j y n hn (HE.out.wd.o.2)).mono ?_;rintro e w1 ⟨rfl,hb⟩;replace HE:=znd (Env.cx HE.out hb);replace c:=Env.c4 HE.out;clear hb;rw[Hs.out];go_wp2_with fail;refine(zeU _ 1 (by decide) (by decide)).mono ?_;rintro e w2 ⟨k,rfl,hk,hb⟩;replace HE:=znd (Env.rx HE.out hk hb);replace c:=Env.c4 HE.out;clear hk hb;go_wp2_with fail;obtain⟨W5,hW5,HE⟩:=Env.st2_1 HE.out (.bool false) (.slice none 0 0);rw[hW5];clear hW5;obtain⟨W6,hW6,HE⟩:=Env.st2_0 HE.out (.bool k.neg) (.slice k.A k.k k.c);rw[hW6];clear hW6;(try(obtain⟨W7,hW7,HE⟩:=Env.dr HE.out;rw[hW7];clear hW7))
 have hE:=HE.out;replace c:=Env.c4 hE;exact bodyPost_ret (v:=.tuple #[.agg #[.bool false,.slice none 0 0],.agg (cI k)]) (by simp[results,Tryz.results139,go_sem,c]) rfl (hE.retP (i:=⟨false,none,0,0⟩) (j:=k) rfl (hE.up fun V _=>(zd9 V).int (Nat.zero_le _)) (hE.up fun V h=>h.1.ofLt H1.out))
set_option maxRecDepth 100000 in
theorem zk7 (w:World) (i j:IV) (x y:Int) (n:Nat) (F:Nat->Prop) (hn:n<=900000000000) (h1n:1<=n) (h:Rests w F (IntD i x n)) (h':Rests w F (IntD j y n)) (hy:y<0):
 Calls Tryz.prog 139 #[iA i,iA j] w (RetP (-x) (-y) n (fun b=>F b\/w.heap.size<=b) w):=by
 have Hs:=znd (Int.sign_eq_neg_one_of_neg hy);have HI:=znd h;have HJ:=znd h';have Hn:=znd h1n;have HLi:=znd h.now.lt;have HLj:=znd h'.now.lt;have HE:=znd (zi7 i j ((h.now.old).and (h'.now.old)));have c:=Env.c4 HE.out;have dd:=Env.d4 HE.out;clear h h' hy h1n;unfold iA;go_enter Tryz.func139,Tryz.ntmps139;go_wp2_with fail;refine(zau _ j y n hn (HE.out.wd.o.2)).mono ?_;rintro e w1 ⟨rfl,hb⟩;replace HE:=znd (Env.cx HE.out hb);replace c:=Env.c4 HE.out;clear hb;rw[Hs.out];go_wp2_with fail
 go_region_held3 (fun W=>CB (w.heap.size) (cI i) W/\CB (w.heap.size+1) (cI j) W) (first|with_reducible exact⟨c.2.2.2,c.2.2.1⟩|((repeat' apply And.intro)<;>go_keep)|exact⟨c.2.2.2,c.2.2.1⟩)
  (first
   |(go_at_call_of 180 (Value.agg #[.bool i.neg,.slice i.A i.k i.c]);go_must (refine(zeG _ i x n hn (HE.out.wd.o.1)).mono ?_;rintro e w1 ⟨k,rfl,hk,hb⟩;replace HE:=znd (Env.rx HE.out hk hb);replace c:=Env.c4 HE.out;clear hk hb))
   |(go_at_call_of 180 (Value.agg #[.bool j.neg,.slice j.A j.k j.c]);go_must (refine(zeG _ j y n hn (HE.out.wd.o.2)).mono ?_;rintro e w2 ⟨l,rfl,hk,hb⟩;replace HE:=znd (Env.rx HE.out hk hb);replace c:=Env.c4 HE.out;clear hk hb)))
 all_goals
  go_wp2_with fail;obtain⟨W5,hW5,HE⟩:=Env.st2_1 HE.out (.bool k.neg) (.slice k.A k.k k.c);rw[hW5];clear hW5;obtain⟨W6,hW6,HE⟩:=Env.st2_0 HE.out (.bool l.neg) (.slice l.A l.k l.c);rw[hW6];clear hW6;(try(obtain⟨W7,hW7,HE⟩:=Env.dr HE.out;rw[hW7];clear hW7))
  have hE:=HE.out;replace c:=Env.c4 hE;exact bodyPost_ret (v:=.tuple #[.agg (cI k),.agg (cI l)]) (by simp[results,Tryz.results139,go_sem,c]) rfl (hE.retP rfl (by first|exact hE.up fun V h=>h.1.ofLt (by rw[Int.natAbs_neg];exact HLi.out)|exact hE.up fun V h=>h.2.1.ofLt (by rw[Int.natAbs_neg];exact HLi.out)) (by first|exact hE.up fun V h=>h.1.ofLt (by rw[Int.natAbs_neg];exact HLj.out)|exact hE.up fun V h=>h.2.1.ofLt (by rw[Int.natAbs_neg];exact HLj.out)))
set_option maxRecDepth 100000 in
theorem zkt (w:World) (i j:IV) (x y:Int) (n:Nat) (F:Nat->Prop) (hn:n<=900000000000) (h1n:1<=n) (h:Rests w F (IntD i x n)) (h':Rests w F (IntD j y n)) (hy:0<y):
 Calls Tryz.prog 139 #[iA i,iA j] w (RetP x y n (fun b=>F b\/w.heap.size<=b) w):=by
 have Hs:=znd (Int.sign_eq_one_of_pos hy);have HI:=znd h;have HJ:=znd h';have Hn:=znd h1n;have HE:=znd (zi7 i j ((h.now.old).and (h'.now.old)));have c:=Env.c4 HE.out;have dd:=Env.d4 HE.out;clear h h' hy h1n;unfold iA;go_enter Tryz.func139,Tryz.ntmps139;go_wp2_with fail;refine(zau _ j y n hn (HE.out.wd.o.2)).mono ?_;rintro e w1 ⟨rfl,hb⟩;replace HE:=znd (Env.cx HE.out hb);replace c:=Env.c4 HE.out;clear hb;rw[Hs.out];go_wp2_with fail
 go_region_held3 (fun W=>CB (w.heap.size) (cI i) W/\CB (w.heap.size+1) (cI j) W) (first|with_reducible exact⟨c.2.2.2,c.2.2.1⟩|((repeat' apply And.intro)<;>go_keep)|exact⟨c.2.2.2,c.2.2.1⟩) (fail)
 all_goals
  go_wp2_with fail;obtain⟨W5,hW5,HE⟩:=Env.st2_1 HE.out (.bool i.neg) (.slice i.A i.k i.c);rw[hW5];clear hW5;obtain⟨W6,hW6,HE⟩:=Env.st2_0 HE.out (.bool j.neg) (.slice j.A j.k j.c);rw[hW6];clear hW6;(try(obtain⟨W7,hW7,HE⟩:=Env.dr HE.out;rw[hW7];clear hW7))
  have hE:=HE.out;replace c:=Env.c4 hE;exact bodyPost_ret (v:=.tuple #[.agg (cI i),.agg (cI j)]) (by simp[results,Tryz.results139,go_sem,c]) rfl (hE.retP rfl (hE.keep_ HI.out) (hE.keep_ HJ.out))
theorem zgB (w:World) (i j:IV) (x y:Int) (n:Nat) (F:Nat->Prop) (hn:n<=900000000000) (h1n:1<=n) (h:Rests w F (IntD i x n)) (h':Rests w F (IntD j y n)):
 Calls Tryz.prog 139 #[iA i,iA j] w (RetP (ovN x y) (ovD y) n (fun b=>F b\/w.heap.size<=b) w):=by
 unfold ovN ovD;by_cases h0:y=0
 ·rw[if_pos h0,if_pos h0];exact zjg w i j x y n F hn h1n h h' h0
 ·rw[if_neg h0,if_neg h0];by_cases hl:y<0
  ·rw[if_pos hl,if_pos hl];exact zk7 w i j x y n F hn h1n h h' hl
  ·rw[if_neg hl,if_neg hl];exact zkt w i j x y n F hn h1n h h' (by omega)
set_option maxRecDepth 100000 in
theorem zjd (w:World) (r:RV) (x d:Int) (n:Nat) (F:Nat->Prop) (_hn:n<=900000000000) (h1n:1<=n) (h:Rests w F (IntD r.num x n)) (h':Rests w F (IntD r.den d n)) (hk0:r.den.k=0):
 Calls Tryz.prog 93 #[rA r] w (RetP x 1 n (fun b=>F b\/w.heap.size<=b) w):=by
 have hq:((r.den.k:Int)==0)=true:=by simp[hk0]
 have H1:=znd (show(1:Int).natAbs<B64^n from Nat.lt_of_lt_of_le (by decide:1<B64^1) (Nat.pow_le_pow_right za4 h1n));have HI:=znd h;have HJ:=znd h';have Hn:=znd h1n;have HE:=znd (zmu r ((h.now.old).and (h'.now.old)));have c:=Env.c3 HE.out;have dd:=Env.d3 HE.out;clear h h' hk0 h1n;unfold rA;go_enter Tryz.func93,Tryz.ntmps93;go_wp2_with fail
 go_region_held3 (fun W=>CB (w.heap.size) (cR r) W) (first|with_reducible exact c.2.2|((repeat' apply And.intro)<;>go_keep)|exact c.2.2)
  (first
   |(go_at_call 138;go_must (refine(zeU _ 1 (by decide) (by decide)).mono ?_;rintro e w1 ⟨k,rfl,hk,hb⟩;replace HE:=znd (Env.rx HE.out hk hb);replace c:=Env.c3 HE.out;clear hk hb)))
 all_goals
  go_wp2_with fail;obtain⟨W5,hW5,HE⟩:=Env.st2_1 HE.out (.bool r.num.neg) (.slice r.num.A r.num.k r.num.c);rw[hW5];clear hW5;obtain⟨W6,hW6,HE⟩:=Env.st2_0 HE.out (.bool k.neg) (.slice k.A k.k k.c);rw[hW6];clear hW6;(try(obtain⟨W7,hW7,HE⟩:=Env.dr HE.out;rw[hW7];clear hW7))
  have hE:=HE.out;replace c:=Env.c3 hE;exact bodyPost_ret (v:=.tuple #[.agg (cI r.num),.agg (cI k)]) (by simp[results,Tryz.results93,go_sem,c]) rfl (hE.retP rfl (hE.keep_ HI.out) (hE.up fun V h=>h.1.ofLt H1.out))
set_option maxRecDepth 100000 in
theorem zhJ (w:World) (r:RV) (x d:Int) (n:Nat) (F:Nat->Prop) (hF:∀b,F b->b<w.heap.size) (hn:n<=900000000000) (h1n:1<=n) (h:Rests w F (IntD r.num x n)) (h':Rests w F (IntD r.den d n)) (hk0:r.den.k≠0):
 Calls Tryz.prog 93 #[rA r] w (RetP (ovN x d) (ovD d) n (fun b=>F b\/w.heap.size<=b) w):=by
 have hq:((r.den.k:Int)==0)=false:=by simp;omega
 have HI:=znd h;have HJ:=znd h';have Hn:=znd h1n;have HE:=znd (zmu r ((h.now.old).and (h'.now.old)));have c:=Env.c3 HE.out;have dd:=Env.d3 HE.out;clear h h' hk0 h1n;unfold rA;go_enter Tryz.func93,Tryz.ntmps93;go_wp2_with fail;have HF:=znd hF;clear hF;go_wp2_with fail;refine(zgB _ r.num r.den x d n F hn Hn.out (HI.out.below (HE.out.wd.bel)) (HJ.out.below (HE.out.wd.bel))).mono ?_;rintro e w1 ⟨k,l,rfl,hk,hl,hb⟩;have HK:=znd (hk.mono (G:=fun b=>F b\/w.heap.size+3<=b) fun b h=>h.imp_right fun h=>by simp at h;omega);have HL:=znd (hl.mono (G:=fun b=>F b\/w.heap.size+3<=b) fun b h=>h.imp_right fun h=>by simp at h;omega);replace HE:=znd (Env.cx HE.out hb);replace c:=Env.c3 HE.out;clear hk hl hb;go_wp2_with fail;obtain⟨W5,hW5,HE⟩:=Env.st2_1 HE.out (.bool k.neg) (.slice k.A k.k k.c);rw[hW5];have HW5:=znd hW5;clear hW5;obtain⟨W6,hW6,HE⟩:=Env.st2_0 HE.out (.bool l.neg) (.slice l.A l.k l.c);rw[hW6];have HW6:=znd hW6;clear hW6;have hE:=HE.out;replace c:=Env.c3 hE;exact bodyPost_ret (v:=.tuple #[.agg (cI k),.agg (cI l)]) (by simp[results,Tryz.results93,go_sem,c]) rfl (hE.retP rfl (by rw[<-HW6.out,<-HW5.out];refine Rests.mono (F:=fun b=>F b\/w.heap.size+3<=b) ?_ (fun b hb=>hb.imp_right fun h=>by omega);repeat(first|(with_reducible exact HK.out)|(refine Rests.set ?_ (fun h=>h.elim (fun h=>by have h2:=HF.out _ h;simp only at h2;omega) fun h=>by simp only at h;omega) _))) (by rw[<-HW6.out,<-HW5.out];refine Rests.mono (F:=fun b=>F b\/w.heap.size+3<=b) ?_ (fun b hb=>hb.imp_right fun h=>by omega);repeat(first|(with_reducible exact HL.out)|(refine Rests.set ?_ (fun h=>h.elim (fun h=>by have h2:=HF.out _ h;simp only at h2;omega) fun h=>by simp only at h;omega) _))))
theorem zhR (w:World) (r:RV) (x d:Int) (n:Nat) (F:Nat->Prop) (hF:∀b,F b->b<w.heap.size) (hn:n<=900000000000) (h1n:1<=n) (h:Rests w F (IntD r.num x n)) (h':Rests w F (IntD r.den d n)):
 Calls Tryz.prog 93 #[rA r] w (RetP (paN r x d) (paD r d) n (fun b=>F b\/w.heap.size<=b) w):=by
 unfold paN paD;by_cases hk:r.den.k=0
 ·rw[if_pos hk,if_pos hk];exact zjd w r x d n F hn h1n h h' hk
 ·rw[if_neg hk,if_neg hk];exact zhJ w r x d n F hF hn h1n h h' hk
theorem Env.parts {w W:World} {bs:List Bo} {old new:World->Prop} {r:RV} {x y:Int} {n:Nat} (h:Env w bs old new W) (hn:n<=900000000000) (h1n:1<=n) (hx:∀V,old V->IntD r.num x n V) (hy:∀V,old V->IntD r.den y n V) {X Y:Int} (hX:paN r x y=X) (hY:paD r y=Y):
 Calls Tryz.prog 93 #[rA r] W fun e W'=>∃i j:IV,e=.returned (.tuple #[iA i,iA j])/\Env w bs (fun V=>IntD i X n V/\IntD j Y n V/\old V) new W':=by
 subst hX hY;exact(zhR W r x y n (fun b=>b<W.heap.size/\∀c∈bs,c.g≠b) (fun _ h=>h.1) hn h1n ((h.rso.imp hx).clip' fun _ h hb=>⟨hb,h⟩) ((h.rso.imp hy).clip' fun _ h hb=>⟨hb,h⟩)).mono fun e W' ⟨i,j,he,hi,hj,hb⟩=>by
  have k:=h.call hb;have hG:∀b,((b<W.heap.size/\∀c∈bs,c.g≠b)\/W.heap.size<=b)->∀c∈bs,c.g≠b:=fun b hb=>hb.elim (fun h=>h.2) fun hb c hc e=>by have:=(h.bx c hc).lt;omega
  exact⟨i,j,he,k.bx,((hi.mono hG).and ((hj.mono hG).and k.rso)),k.rsn,k.bel,k.own,k.nd⟩

set_option maxRecDepth 100000 in
theorem zb8 (w:World) (i j:IV) (x d:Int) (n:Nat) (hn:n<=900000000000) (h:IntD i x n w) (h':IntD j d n w) (hT:Tz w) (hd:0<d):
 Calls Tryz.prog 92 #[iA i,iA j] w (RetR (Rat.divInt x d) w):=by
 have Hd:=znd hd;have Hx:=znd h.lt;have Hy:=znd h'.lt;have HE:=znd (zmD i j ((h.old).and ((h'.old).and (hT.old))));have c:=Env.c3 HE.out;have dd:=Env.d3 HE.out;clear h h' hT hd;unfold iA;go_enter Tryz.func92,Tryz.ntmps92;go_wp2_with fail;go_upto_region 1 with fail;go_cut [] (fun wx=>∃p q,Hid (Env w [⟨w.heap.size+1+1,55,cZ⟩,⟨w.heap.size+1,53,(cI q)⟩,⟨w.heap.size,53,(cI p)⟩] (fun V=>IntD i x n V/\IntD j d n V/\Tz V) (fun V=>IntN p x V/\IntN q d V) wx))
 case first=>
  go_region_with (first
   |(go_at_call_of 78 (Value.agg #[.bool i.neg,.slice i.A i.k i.c]);go_must (refine(zdJ _ i x n hn (HE.out.wd.o.1)).mono ?_;rintro e w1 ⟨p,rfl,hk,hb⟩;replace HE:=znd (Env.rx HE.out hk hb);replace c:=Env.c3 HE.out;clear hk hb))
   |(go_at_call_of 78 (Value.agg #[.bool j.neg,.slice j.A j.k j.c]);go_must (refine(zdJ _ j d n hn (HE.out.wd.o.2.1)).mono ?_;rintro e w2 ⟨q,rfl,hk,hb⟩;replace HE:=znd (Env.rx HE.out hk hb);replace c:=Env.c3 HE.out;clear hk hb)))
  all_goals
   go_wp2_with fail
   go_meet
   first
   |exact⟨p,q,znd (((HE.out.put2_2 (.bool p.neg) (.slice p.A p.k p.c)).put2_1 (.bool q.neg) (.slice q.A q.k q.c)).imp (fun _ h=>h) (fun _ h=>⟨h.1,h.2.1⟩))⟩
   |exact⟨p,q,znd (((HE.out.put2_2 (.bool p.neg) (.slice p.A p.k p.c)).put2_1 (.bool q.neg) (.slice q.A q.k q.c)).imp (fun _ h=>h) (fun _ h=>⟨h.2.1,h.1⟩))⟩
   |exact⟨p,q,znd (((HE.out.drew.put2_2 (.bool p.neg) (.slice p.A p.k p.c)).put2_1 (.bool q.neg) (.slice q.A q.k q.c)).imp (fun _ h=>h) (fun _ h=>⟨h.1,h.2.1⟩))⟩
   |exact⟨p,q,znd (((HE.out.drew.put2_2 (.bool p.neg) (.slice p.A p.k p.c)).put2_1 (.bool q.neg) (.slice q.A q.k q.c)).imp (fun _ h=>h) (fun _ h=>⟨h.2.1,h.1⟩))⟩
 case rest=>
  clear HE c;obtain⟨p,q,HE⟩:=hcut;have c:=Env.c3 HE.out;obtain⟨B,hB⟩:∃B,decide (d=1)=B:=⟨_,rfl⟩;have HB:=znd hB;clear hB;go_upto_if 12 with(first|(go_at_call 135;go_must (refine(zeA _ q d (HE.out.wd.n.2)).mono ?_;rintro e w2 ⟨rfl,hb⟩;replace HE:=znd (Env.cx HE.out hb);replace c:=Env.c3 HE.out;clear hb;rw[HB.out])));go_cut [] (fun wx=>∃k l X D,(0<D/\Nat.gcd X.natAbs D.natAbs=1/\Rat.divInt X D=Rat.divInt x d)/\Hid (Env w [⟨w.heap.size+1+1,55,cZ⟩,⟨w.heap.size+1,53,(cI l)⟩,⟨w.heap.size,53,(cI k)⟩] (fun V=>IntD i x n V/\IntD j d n V/\Tz V) (fun V=>IntN k X V/\IntN l D V) wx))
  case first=>
   cases B
   ·obtain⟨G,hG⟩:∃G:Int,G=(Nat.gcd x.natAbs d.natAbs:Int):=⟨_,rfl⟩;have HG:=znd hG;have Hl:=znd (zlS Hd.out hG);clear hG;obtain⟨B',hB'⟩:∃B',decide (G=1)=B':=⟨_,rfl⟩;have HB':=znd hB';clear hB';go_wp2_with fail;refine(zmv _ p q x d G n n hn hn (IntN.ofLt (HE.out.wd.n.1) Hx.out) (IntN.ofLt (HE.out.wd.n.2) Hy.out) (HE.out.wd.o.2.2) HG.out).mono ?_;rintro e w3 ⟨t,rfl,hk,hb⟩;replace HE:=znd (Env.rx HE.out hk hb);replace c:=Env.c3 HE.out;clear hk hb;go_upto_region 4 with fail;obtain⟨W2,g2,hW2,hg2,HE⟩:=Env.al HE.out 53 (cI t);rw[hW2,hg2];clear hW2 hg2;replace c:=Env.c4 HE.out;replace dd:=Env.d4 HE.out;go_upto_if 18 with(first|(go_at_call 135;go_must (refine(zeA _ t G (HE.out.wd.n.1)).mono ?_;rintro e w2 ⟨rfl,hb⟩;replace HE:=znd (Env.cx HE.out hb);replace c:=Env.c4 HE.out;clear hb;rw[HB'.out])))
    cases B'
    ·go_wp2_with fail;refine(zdy _ p t x G n n hn hn (IntN.ofLt (HE.out.wd.n.2.1) Hx.out) (IntN.ofLt (HE.out.wd.n.1) (Nat.lt_of_le_of_lt Hl.out.2.1 Hy.out)) (by have:=Hl.out.1;omega)).mono ?_;rintro e w4 ⟨k,k',rfl,hk,hk',hb⟩;replace HE:=znd (Env.rx HE.out (hk.and hk') hb);replace c:=Env.c4 HE.out;clear hk hk' hb;go_upto_region 6 with fail;obtain⟨W5,hW5,HE⟩:=Env.st2_3 HE.out (.bool k.neg) (.slice k.A k.k k.c);rw[hW5];clear hW5;replace c:=Env.c4 HE.out;go_wp2_with fail;refine(zdy _ q t d G n n hn hn (IntN.ofLt (HE.out.wd.n.2.2.2) Hy.out) (IntN.ofLt (HE.out.wd.n.2.1) (Nat.lt_of_le_of_lt Hl.out.2.1 Hy.out)) (by have:=Hl.out.1;omega)).mono ?_;rintro e w6 ⟨l,l',rfl,hk,hk',hb⟩;replace HE:=znd (Env.rx HE.out (hk.and hk') hb);replace c:=Env.c4 HE.out;clear hk hk' hb;go_wp2_with fail
     go_meet
     exact⟨k,l,x/G,d/G,Hl.out.2.2,znd ((HE.out.put2_2 (.bool l.neg) (.slice l.A l.k l.c)).drop.imp (fun _ h=>h) (fun _ h=>⟨h.2.1.1,h.1.1⟩))⟩
    ·go_wp2_with fail
     go_meet
     exact⟨p,q,x,d,⟨Hd.out,by have h1:=of_decide_eq_true HB'.out;have h2:=HG.out;omega,rfl⟩,znd (HE.out.drop.imp (fun _ h=>h) (fun _ h=>h.2))⟩
   ·go_wp2_with fail
    go_meet
    exact⟨p,q,x,d,⟨Hd.out,by rw[of_decide_eq_true HB.out];exact Nat.gcd_one_right _,rfl⟩,HE⟩
  case rest=>
   clear HE c HB B;obtain⟨k,l,X,D,⟨hD,hg,hq⟩,HE⟩:=hcut;have c:=Env.c3 HE.out;have HC:=znd (zmb hD hg);have Hq:=znd hq;clear hD hg hq;by_cases h1:D=1
   ·have H1:=znd h1;have HB:=znd (decide_eq_true H1.out);clear h1;go_wp2_with fail;refine(zeA _ l D (HE.out.wd.n.2)).mono ?_;rintro e w7 ⟨rfl,hb⟩;replace HE:=znd (Env.cx HE.out hb);replace c:=Env.c3 HE.out;clear hb;rw[HB.out];go_wp2_with fail;obtain⟨W5,hW5,HE⟩:=Env.st4_0 HE.out (.bool k.neg) (.slice k.A k.k k.c) (.bool false) (.slice none 0 0);rw[hW5];clear hW5;have hE:=HE.out;replace c:=Env.c3 hE;exact bodyPost_ret (v:=.agg #[.bool k.neg,.slice k.A k.k k.c,.bool false,.slice none 0 0]) (by simp[results,Tryz.results92,go_sem,c]) rfl ((by rw[<-Hq.out];exact hE.retR' (r:=⟨k,⟨false,none,0,0⟩⟩) rfl fun V h=>RatN.zd h.1 HC.out.1 (by have h2:=HC.out.2;have h3:=H1.out;omega)))
   ·have H1:=znd h1;have HB:=znd (decide_eq_false H1.out);clear h1;go_wp2_with fail;refine(zeA _ l D (HE.out.wd.n.2)).mono ?_;rintro e w7 ⟨rfl,hb⟩;replace HE:=znd (Env.cx HE.out hb);replace c:=Env.c3 HE.out;clear hb;rw[HB.out];go_wp2_with fail;obtain⟨W5,hW5,HE⟩:=Env.st4_0 HE.out (.bool k.neg) (.slice k.A k.k k.c) (.bool l.neg) (.slice l.A l.k l.c);rw[hW5];clear hW5;have hE:=HE.out;replace c:=Env.c3 hE;exact bodyPost_ret (v:=.agg #[.bool k.neg,.slice k.A k.k k.c,.bool l.neg,.slice l.A l.k l.c]) (by simp[results,Tryz.results92,go_sem,c]) rfl ((by rw[<-Hq.out];exact hE.retR' (r:=⟨k,l⟩) rfl fun V h=>RatN.md h.1 h.2 HC.out.1 HC.out.2 H1.out))

theorem zaI {a b:Int} {n m:Nat} (ha:a.natAbs<B64^n) (hb:b.natAbs<B64^m):(a*b).natAbs<B64^(n+m):=by
 rw[Int.natAbs_mul,Nat.pow_add];exact Nat.mul_lt_mul_of_lt_of_lt ha hb
theorem zgP {a:Rat} {p d:Int} (hd:0<d) (h:a=Rat.divInt p d):a.num.sign=p.sign:=by
 have hp:0<(a.den:Int):=Int.natCast_pos.2 a.den_pos;have e:a.num*d=p*a.den:=by
  rw[<-Rat.divInt_eq_divInt_iff (by omega) (by omega),Rat.num_divInt_den,<-h]
 have e2:=congrArg Int.sign e;rw[Int.sign_mul,Int.sign_mul,Int.sign_eq_one_of_pos hd,Int.sign_eq_one_of_pos hp]at e2;omega
theorem sgn3 (x:Int):x.sign=-1\/x.sign=0\/x.sign=1:=by
 rcases Int.lt_trichotomy x 0 with h|h|h
 ·exact .inl (Int.sign_eq_neg_one_of_neg h)
 ·exact .inr (.inl (by rw[h];rfl))
 ·exact .inr (.inr (Int.sign_eq_one_of_pos h))
theorem zhS (x d:Int):(Rat.divInt x d).num.sign=x.sign*d.sign:=by
 rcases Int.lt_trichotomy d 0 with h|h|h
 ·have:Rat.divInt x d=Rat.divInt (-x) (-d):=by rw[Rat.divInt_eq_divInt_iff (by omega) (by omega)];simp[Int.neg_mul,Int.mul_neg]
  rw[this,zgP (by omega) rfl,Int.sign_neg,Int.sign_eq_neg_one_of_neg h];omega
 ·rw[h,Rat.divInt_zero];simp
 ·rw[zgP h rfl,Int.sign_eq_one_of_pos h];omega

theorem RatD.pa {r:RV} {q:Rat} {n:Nat} {w:World} (h:RatD r q n w):∃x y X Y,IntD r.num x n w/\IntD r.den y n w/\(paN r x y=X/\paD r y=Y/\0<Y)/\Rat.divInt X Y=q:=by
 obtain⟨x,y,hx,hy,hq⟩:=h.ex;exact⟨x,y,_,_,hx,hy,⟨rfl,rfl,zm2 r y⟩,by rw[zn7,hq]⟩
set_option maxRecDepth 100000 in
theorem zaG (w:World) (r:RV) (a:Rat) (n:Nat) (hn:n<=900000000000) (h1n:1<=n) (h:RatD r a n w) (hT:Tz w):
 Calls Tryz.prog 54 #[rA r] w (RetR a w):=by
 obtain⟨x,y,X,Y,hx,hy,hq,rfl⟩:=h.pa;have HA:=znd hq;have hn9:n<=900000000000:=by omega
 clear h hq;have HE:=znd (lyRZ r ((hx.old).and ((hy.old).and (hT.old))));have c:=Env.c2 HE.out;have dd:=Env.d2 HE.out;clear hx hy hT;unfold rA;go_enter Tryz.func54,Tryz.ntmps54;go_wp2_with fail;refine(Env.parts HE.out hn9 h1n (fun V h=>h.1) (fun V h=>h.2.1) HA.out.1 HA.out.2.1).mono ?_;rintro e w1 ⟨i,j,rfl,hE⟩;replace HE:=znd hE;replace c:=Env.c2 HE.out;clear hE;have HL1:=znd (And.intro HE.out.o.1.lt HE.out.o.2.1.lt);go_wp2_with fail;refine(zb8 _ i j (X) (Y) (n) (by omega) (HE.out.wd.o.1) (HE.out.wd.o.2.1) (HE.out.wd.o.2.2.2.2) HA.out.2.2).mono ?_;rintro e w9 ⟨q,rfl,hk,hb⟩;replace HE:=znd (Env.rx HE.out hk hb);replace c:=Env.c2 HE.out;clear hk hb;go_wp2_with fail;obtain⟨W5,hW5,HE⟩:=Env.st4_0 HE.out (.bool q.num.neg) (.slice q.num.A q.num.k q.num.c) (.bool q.den.neg) (.slice q.den.A q.den.k q.den.c);rw[hW5];clear hW5;have hE:=HE.out;replace c:=Env.c2 hE;exact bodyPost_ret (v:=.agg (cR q)) (by simp[results,Tryz.results54,go_sem,c]) rfl (hE.retR' rfl fun V h=>h.1)
set_option maxRecDepth 100000 in
theorem zeg (w:World) (i:IV) (z:Int) (n:Nat) (hn:n<=900000000000) (h:IntD i z n w):
 Calls Tryz.prog 39 #[iA i] w (RetR (Rat.divInt z 1) w):=by
 have HE:=znd (lyIZ i (h.old));have c:=Env.c2 HE.out;have dd:=Env.d2 HE.out;clear h;unfold iA;go_enter Tryz.func39,Tryz.ntmps39;go_wp2_with fail;refine(zdJ _ i z n hn (HE.out.wd.o)).mono ?_;rintro e w1 ⟨k,rfl,hk,hb⟩;replace HE:=znd (Env.rx HE.out hk hb);replace c:=Env.c2 HE.out;clear hk hb;go_wp2_with fail;obtain⟨W5,hW5,HE⟩:=Env.st4_0 HE.out (.bool k.neg) (.slice k.A k.k k.c) (.bool false) (.slice none 0 0);rw[hW5];clear hW5;have hE:=HE.out;replace c:=Env.c2 hE;exact bodyPost_ret (v:=.agg #[.bool k.neg,.slice k.A k.k k.c,.bool false,.slice none 0 0]) (by simp[results,Tryz.results39,go_sem,c]) rfl (hE.retR' (r:=⟨k,⟨false,none,0,0⟩⟩) rfl fun V h=>RatN.zd h.1 (ziJ rfl).1 (ziJ rfl).2)
def cmpZ (a b:Int):Int:=if a<b then -1 else if a=b then 0 else 1
theorem zjb (a b:Int) (w:World):Calls Tryz.prog 147 #[.int .i64 a,.int .i64 b] w fun e w'=>e=.returned (.int .i64 (cmpZ a b))/\w=w':=by
 unfold cmpZ;by_cases h1:a<b
 ·rw[if_pos h1];have h2:¬b<a:=by omega
  go_enter Tryz.func147,Tryz.ntmps147;go_wp2;go_ret;exact⟨rfl,rfl⟩
 ·rw[if_neg h1];by_cases h2:a=b
  ·subst h2;rw[if_pos rfl];go_enter Tryz.func147,Tryz.ntmps147;go_wp2;go_ret;exact⟨rfl,rfl⟩
  ·rw[if_neg h2];have h3:b<a:=by omega
   go_enter Tryz.func147,Tryz.ntmps147;go_wp2;go_ret;exact⟨rfl,rfl⟩
theorem zf6 (x y:Int):cmpZ x y=(x-y).sign:=by
 unfold cmpZ;rcases Int.lt_trichotomy x y with h|h|h
 ·rw[if_pos h,Int.sign_eq_neg_one_of_neg (by omega)]
 ·subst h;simp
 ·rw[if_neg (by omega),if_neg (by omega),Int.sign_eq_one_of_pos (by omega)]
def cmpQ (a b:Rat):Int:=if a<b then -1 else if a=b then 0 else 1
theorem zkm (a b:Rat):cmpQ a b=cmpZ (a.num*b.den) (b.num*a.den):=by
 have ha:(a.den:Int)≠0:=by have:=a.den_pos;omega
 have hb:(b.den:Int)≠0:=by have:=b.den_pos;omega
 have he:a=b↔a.num*b.den=b.num*a.den:=by
  rw[<-Rat.divInt_eq_divInt_iff ha hb,Rat.num_divInt_den,Rat.num_divInt_den]
 unfold cmpQ cmpZ;simp only[Rat.lt_iff,he]
theorem zmL (N M A B p d p' d':Int) (e:N*d=p*A) (e':M*d'=p'*B):(N*B-M*A)*(d*d')=(p*d'-p'*d)*(A*B):=by
 grind
theorem zlB {a b:Rat} {p d p' d':Int} (hd:0<d) (hd':0<d') (h:a=Rat.divInt p d) (h':b=Rat.divInt p' d'):cmpQ a b=cmpZ (p*d') (p'*d):=by
 have ha:0<(a.den:Int):=Int.natCast_pos.2 a.den_pos;have hb:0<(b.den:Int):=Int.natCast_pos.2 b.den_pos;have e:a.num*d=p*a.den:=by
  rw[<-Rat.divInt_eq_divInt_iff (by omega) (by omega),Rat.num_divInt_den,<-h]
 have e':b.num*d'=p'*b.den:=by
  rw[<-Rat.divInt_eq_divInt_iff (by omega) (by omega),Rat.num_divInt_den,<-h']
 have k:=congrArg Int.sign (zmL _ _ _ _ _ _ _ _ e e');simp only[Int.sign_mul,Int.sign_eq_one_of_pos hd,Int.sign_eq_one_of_pos hd',Int.sign_eq_one_of_pos ha,Int.sign_eq_one_of_pos hb,Int.mul_one]at k;rw[zkm,zf6,zf6];exact k
theorem zhu {z y:Int} (h:z.sign≠y.sign):cmpZ z y=cmpZ z.sign y.sign:=by
 unfold cmpZ
 rcases Int.lt_trichotomy z 0 with hz|hz|hz<;>rcases Int.lt_trichotomy y 0 with hy|hy|hy<;>
  simp_all [Int.sign_eq_neg_one_of_neg,Int.sign_eq_one_of_pos]<;>(try omega)<;>(repeat' split)<;>omega
theorem zfW {z y:Int} (h:z.sign=y.sign) (hl:z.sign<0):cmpZ z y=cmpN y.natAbs z.natAbs:=by
 have h1:z<0:=Int.sign_neg_iff.1 hl;have h2:y<0:=Int.sign_neg_iff.1 (h▸hl);unfold cmpZ cmpN
 (repeat' split)<;>omega
theorem zfG {z y:Int} (h:z.sign=y.sign) (hl:¬z.sign<0):cmpZ z y=cmpN z.natAbs y.natAbs:=by
 have h1:¬z<0:=fun k=>hl (Int.sign_neg_iff.2 k);have h2:¬y<0:=fun k=>hl (h▸Int.sign_neg_iff.2 k);unfold cmpZ cmpN
 (repeat' split)<;>omega
set_option maxRecDepth 100000 in
theorem zlo (w:World) (i j:IV) (z y:Int) (n m:Nat) (hn:n<=900000000000) (hm:m<=900000000000) (h:IntD i z n w) (h':IntD j y m w) (hs:z.sign≠y.sign):
 Calls Tryz.prog 99 #[iA i,iA j] w fun e w'=>e=.returned (.int .i64 (cmpZ z y))/\Below w.heap.size w w':=by
 obtain⟨sz,hsz⟩:∃v,z.sign=v:=⟨_,rfl⟩;obtain⟨sy,hsy⟩:∃v,y.sign=v:=⟨_,rfl⟩;have HZ:=znd hsz;have HY:=znd hsy;rw[hsz,hsy]at hs;have HS:=znd hs;clear hsz hsy;have hne:(sz != sy)=true:=by simpa using hs
 clear hs;have HE:=znd (lyII i j ((h.old).and (h'.old)));have c:=Env.c2 HE.out;have dd:=Env.d2 HE.out;clear h h';unfold iA;go_enter Tryz.func99,Tryz.ntmps99;go_wp2_with fail
 go_region_held3 (fun W=>CB (w.heap.size) (cI i) W/\CB (w.heap.size+1) (cI j) W) (first|with_reducible exact⟨c.2,c.1⟩|((repeat' apply And.intro)<;>go_keep)|exact⟨c.2,c.1⟩)
  (first
   |(go_at_call_of 146 (Value.agg #[.bool i.neg,.slice i.A i.k i.c]);go_must (refine(zau _ i z n (by omega) (HE.out.wd.o.1)).mono ?_;rintro e w1 ⟨rfl,hb⟩;replace HE:=znd (Env.cx HE.out hb);replace c:=Env.c2 HE.out;clear hb;rw[HZ.out]))
   |(go_at_call_of 146 (Value.agg #[.bool j.neg,.slice j.A j.k j.c]);go_must (refine(zau _ j y m (by omega) (HE.out.wd.o.2)).mono ?_;rintro e w2 ⟨rfl,hb⟩;replace HE:=znd (Env.cx HE.out hb);replace c:=Env.c2 HE.out;clear hb;rw[HY.out])))
 all_goals
  go_wp2_with fail;refine(zjb sz sy _).mono ?_;rintro e w' ⟨rfl,rfl⟩;go_wp2_with fail;go_ret;exact⟨by rw[show cmpZ sz sy=cmpZ z y by have h1:=HZ.out;have h2:=HY.out;have h3:=HS.out;subst h1;subst h2;exact(zhu h3).symm];rfl,(HE.out.wd.bel)⟩
set_option maxRecDepth 100000 in
theorem zmf (w:World) (i j:IV) (z y:Int) (n m:Nat) (hn:n<=900000000000) (hm:m<=900000000000) (h:IntD i z n w) (h':IntD j y m w) (hs:z.sign=y.sign) (hl:z.sign<0):
 Calls Tryz.prog 99 #[iA i,iA j] w fun e w'=>e=.returned (.int .i64 (cmpZ z y))/\Below w.heap.size w w':=by
 obtain⟨sz,hsz⟩:∃v,z.sign=v:=⟨_,rfl⟩;obtain⟨sy,hsy⟩:∃v,y.sign=v:=⟨_,rfl⟩;have HZ:=znd hsz;have HY:=znd hsy;rw[hsz,hsy]at hs;rw[hsz]at hl;have HS:=znd hs;clear hsz hsy;subst hs;have hne:(sz != sz)=false:=by simp
 have HE:=znd (lyII i j ((h.old).and (h'.old)));have c:=Env.c2 HE.out;have dd:=Env.d2 HE.out;clear h h';unfold iA;go_enter Tryz.func99,Tryz.ntmps99;go_wp2_with fail
 go_region_held3 (fun W=>CB (w.heap.size) (cI i) W/\CB (w.heap.size+1) (cI j) W) (first|with_reducible exact⟨c.2,c.1⟩|((repeat' apply And.intro)<;>go_keep)|exact⟨c.2,c.1⟩)
  (first
   |(go_at_call_of 146 (Value.agg #[.bool i.neg,.slice i.A i.k i.c]);go_must (refine(zau _ i z n (by omega) (HE.out.wd.o.1)).mono ?_;rintro e w1 ⟨rfl,hb⟩;replace HE:=znd (Env.cx HE.out hb);replace c:=Env.c2 HE.out;clear hb;rw[HZ.out]))
   |(go_at_call_of 146 (Value.agg #[.bool j.neg,.slice j.A j.k j.c]);go_must (refine(zau _ j y m (by omega) (HE.out.wd.o.2)).mono ?_;rintro e w2 ⟨rfl,hb⟩;replace HE:=znd (Env.cx HE.out hb);replace c:=Env.c2 HE.out;clear hb;rw[HY.out])))
 all_goals
  go_wp2_with fail;refine(zkM (HE.out.wd.o.2) (HE.out.wd.o.1) hm hn).mono ?_;rintro e w' ⟨rfl,q,rfl⟩;go_wp2_with fail;go_ret;exact⟨by rw[show cmpN y.natAbs z.natAbs=cmpZ z y by exact(zfW (by have h1:=HZ.out;have h2:=HY.out;omega) (by have h1:=HZ.out;omega)).symm];rfl,by first|exact Below.drewN HE.out.bel q|exact Below.drewN (Below.drew HE.out.bel) q⟩
set_option maxRecDepth 100000 in
theorem zmn (w:World) (i j:IV) (z y:Int) (n m:Nat) (hn:n<=900000000000) (hm:m<=900000000000) (h:IntD i z n w) (h':IntD j y m w) (hs:z.sign=y.sign) (hl:¬z.sign<0):
 Calls Tryz.prog 99 #[iA i,iA j] w fun e w'=>e=.returned (.int .i64 (cmpZ z y))/\Below w.heap.size w w':=by
 obtain⟨sz,hsz⟩:∃v,z.sign=v:=⟨_,rfl⟩;obtain⟨sy,hsy⟩:∃v,y.sign=v:=⟨_,rfl⟩;have HZ:=znd hsz;have HY:=znd hsy;rw[hsz,hsy]at hs;rw[hsz]at hl;have HS:=znd hs;clear hsz hsy;subst hs;have hne:(sz != sz)=false:=by simp
 have HE:=znd (lyII i j ((h.old).and (h'.old)));have c:=Env.c2 HE.out;have dd:=Env.d2 HE.out;clear h h';unfold iA;go_enter Tryz.func99,Tryz.ntmps99;go_wp2_with fail
 go_region_held3 (fun W=>CB (w.heap.size) (cI i) W/\CB (w.heap.size+1) (cI j) W) (first|with_reducible exact⟨c.2,c.1⟩|((repeat' apply And.intro)<;>go_keep)|exact⟨c.2,c.1⟩)
  (first
   |(go_at_call_of 146 (Value.agg #[.bool i.neg,.slice i.A i.k i.c]);go_must (refine(zau _ i z n (by omega) (HE.out.wd.o.1)).mono ?_;rintro e w1 ⟨rfl,hb⟩;replace HE:=znd (Env.cx HE.out hb);replace c:=Env.c2 HE.out;clear hb;rw[HZ.out]))
   |(go_at_call_of 146 (Value.agg #[.bool j.neg,.slice j.A j.k j.c]);go_must (refine(zau _ j y m (by omega) (HE.out.wd.o.2)).mono ?_;rintro e w2 ⟨rfl,hb⟩;replace HE:=znd (Env.cx HE.out hb);replace c:=Env.c2 HE.out;clear hb;rw[HY.out])))
 all_goals
  go_wp2_with fail;refine(zkM (HE.out.wd.o.1) (HE.out.wd.o.2) hn hm).mono ?_;rintro e w' ⟨rfl,q,rfl⟩;go_wp2_with fail;go_ret;exact⟨by rw[show cmpN z.natAbs y.natAbs=cmpZ z y by exact(zfG (by have h1:=HZ.out;have h2:=HY.out;omega) (by have h1:=HZ.out;omega)).symm];rfl,by first|exact Below.drewN HE.out.bel q|exact Below.drewN (Below.drew HE.out.bel) q⟩
theorem zkj (w:World) (i j:IV) (z y:Int) (n m:Nat) (hn:n<=900000000000) (hm:m<=900000000000) (h:IntD i z n w) (h':IntD j y m w):
 Calls Tryz.prog 99 #[iA i,iA j] w fun e w'=>e=.returned (.int .i64 (cmpZ z y))/\Below w.heap.size w w':=by
 by_cases hs:z.sign=y.sign
 ·by_cases hl:z.sign<0
  ·exact zmf w i j z y n m hn hm h h' hs hl
  ·exact zmn w i j z y n m hn hm h h' hs hl
 ·exact zlo w i j z y n m hn hm h h' hs
set_option maxRecDepth 100000 in
theorem zhU (w:World) (r:RV) (a:Rat) (n:Nat) (hn:n<=400000000000) (h:RatD r a n w) (hk:r.den.k=0):
 Calls Tryz.prog 194 #[rA r] w fun e w'=>e=.returned (.int .i64 a.num.sign)/\Below w.heap.size w w':=by
 obtain⟨x,d,hx,hd,hq⟩:=h.ex;rw[if_pos hk]at hq;have HQ:=znd (show a.num.sign=x.sign by rw[hq,zhS];simp);have hg1:¬(0:Int)<(r.den.k:Int):=by omega
 have HE:=znd (lyR r ((hx.old).and (hd.old)));have c:=Env.c1 HE.out;clear h hx hd hq hk;unfold rA;go_enter Tryz.func194,Tryz.ntmps194;go_wp2_with fail;refine(zau _ r.num x n (by omega) (HE.out.wd.o.1)).mono ?_;rintro e w1 ⟨rfl,hb⟩;replace HE:=znd (Env.cx HE.out hb);replace c:=Env.c1 HE.out;clear hb;go_wp2_with fail;go_ret;exact⟨by rw[HQ.out];rfl,HE.out.bel⟩
set_option maxRecDepth 100000 in
theorem zhg (w:World) (r:RV) (a:Rat) (n:Nat) (hn:n<=400000000000) (h:RatD r a n w) (hk:r.den.k≠0):
 Calls Tryz.prog 194 #[rA r] w fun e w'=>e=.returned (.int .i64 a.num.sign)/\Below w.heap.size w w':=by
 obtain⟨x,d,hx,hd,hq⟩:=h.ex;rw[if_neg hk]at hq;obtain⟨sx,hsx⟩:∃v,x.sign=v:=⟨_,rfl⟩;obtain⟨sd,hsd⟩:∃v,d.sign=v:=⟨_,rfl⟩;have HQ:=znd (show a.num.sign=sx*sd by rw[hq,zhS,hsx,hsd]);have h3:=sgn3 x;have h3':=sgn3 d;rw[hsx]at h3;rw[hsd]at h3';have HX:=znd hsx;have HD:=znd hsd;have hg1:(0:Int)<(r.den.k:Int):=by omega
 clear hsx hsd;have HE:=znd (lyR r ((hx.old).and (hd.old)));have c:=Env.c1 HE.out;clear h hx hd hq hk;rcases h3 with rfl|rfl|rfl<;>rcases h3' with rfl|rfl|rfl
 all_goals
  unfold rA;go_enter Tryz.func194,Tryz.ntmps194;go_wp2_with fail;refine(zau _ r.num x n (by omega) (HE.out.wd.o.1)).mono ?_;rintro e w1 ⟨rfl,hb⟩;replace HE:=znd (Env.cx HE.out hb);replace c:=Env.c1 HE.out;clear hb;rw[HX.out];go_wp2_with fail;refine(zau _ r.den d n (by omega) (HE.out.wd.o.2)).mono ?_;rintro e w2 ⟨rfl,hb⟩;replace HE:=znd (Env.cx HE.out hb);clear hb c;rw[HD.out];go_wp2_with fail;go_ret;exact⟨by rw[HQ.out];rfl,HE.out.bel⟩
theorem zaV (w:World) (r:RV) (a:Rat) (n:Nat) (hn:n<=400000000000) (h:RatD r a n w):Calls Tryz.prog 194 #[rA r] w fun e w'=>e=.returned (.int .i64 a.num.sign)/\Below w.heap.size w w':=by
 by_cases hk:r.den.k=0
 ·exact zhU w r a n hn h hk
 ·exact zhg w r a n hn h hk
set_option maxRecDepth 100000 in
theorem zbb (w:World) (r s:RV) (a b:Rat) (n:Nat) (hn:n<=400000000000) (h1n:1<=n) (h:RatD r a n w) (h':RatD s b n w):
 Calls Tryz.prog 64 #[rA r,rA s] w fun e w'=>e=.returned (.int .i64 (cmpQ a b))/\Below w.heap.size w w':=by
 obtain⟨x,y,X,Y,hx,hy,hq,rfl⟩:=h.pa;obtain⟨z,t,Z,T,hz,ht,hq',rfl⟩:=h'.pa;have HA:=znd hq;have HB:=znd hq';have hn9:n<=900000000000:=by omega
 clear h h' hq hq';have HQ:=znd (zlB (p:=X) (d:=Y) (p':=Z) (d':=T) HA.out.2.2 HB.out.2.2 rfl rfl);have HE:=znd (lyRR r s ((hx.old).and ((hy.old).and ((hz.old).and (ht.old)))));have c:=Env.c2 HE.out;have dd:=Env.d2 HE.out;clear hx hy hz ht;unfold rA;go_enter Tryz.func64,Tryz.ntmps64;go_wp2_with fail;refine(Env.parts HE.out hn9 h1n (fun V h=>h.1) (fun V h=>h.2.1) HA.out.1 HA.out.2.1).mono ?_;rintro e w1 ⟨i,j,rfl,hE⟩;replace HE:=znd hE;replace c:=Env.c2 HE.out;clear hE;have HL1:=znd (And.intro HE.out.o.1.lt HE.out.o.2.1.lt);go_upto_region 2 with fail;obtain⟨W2,g5,g6,hW2,hg2,hg3,HE⟩:=Env.al2 HE.out 53 53 (cI i) (cI j);rw[hW2,hg2,hg3];clear hW2 hg2 hg3;replace c:=Env.c4 HE.out;replace dd:=Env.d4 HE.out;go_wp2_with fail;refine(Env.parts HE.out hn9 h1n (fun V h=>h.2.2.2.2.1) (fun V h=>h.2.2.2.2.2) HB.out.1 HB.out.2.1).mono ?_;rintro e w3 ⟨k,l,rfl,hE⟩;replace HE:=znd hE;replace c:=Env.c4 HE.out;clear hE;have HL3:=znd (And.intro HE.out.o.1.lt HE.out.o.2.1.lt);go_upto_region 3 with fail;obtain⟨W2,g7,g8,hW2,hg2,hg3,HE⟩:=Env.al2 HE.out 53 53 (cI k) (cI l);rw[hW2,hg2,hg3];clear hW2 hg2 hg3;replace c:=Env.c6 HE.out;replace dd:=Env.d6 HE.out;go_wp2_with fail
 go_region_held3 (fun W=>CB (g5) (cI i) W/\CB (g6) (cI j) W/\CB (g7) (cI k) W/\CB (g8) (cI l) W) (first|with_reducible exact⟨c.2.2.2.1,c.2.2.1,c.2.1,c.1⟩|((repeat' apply And.intro)<;>go_keep)|exact⟨c.2.2.2.1,c.2.2.1,c.2.1,c.1⟩)
  (first
   |(go_at_call_of 100 ((#[.agg #[.bool i.neg,.slice i.A i.k i.c],.agg #[.bool l.neg,.slice l.A l.k l.c]]:Array Value));go_must (refine(zax _ i l X T n n hn9 hn9 (HE.out.wd.o.2.2.1) (HE.out.wd.o.2.1)).mono ?_;rintro e w1 ⟨p,rfl,hk,hb⟩;replace HE:=znd (Env.rx HE.out hk hb);replace c:=Env.c6 HE.out;clear hk hb))
   |(go_at_call_of 100 ((#[.agg #[.bool k.neg,.slice k.A k.k k.c],.agg #[.bool j.neg,.slice j.A j.k j.c]]:Array Value));go_must (refine(zax _ k j Z Y n n hn9 hn9 (HE.out.wd.o.1) (HE.out.wd.o.2.2.2.1)).mono ?_;rintro e w2 ⟨o,rfl,hk,hb⟩;replace HE:=znd (Env.rx HE.out hk hb);replace c:=Env.c6 HE.out;clear hk hb))
   |(go_at_call 99;go_must (refine(zkj _ p o (X*T) (Z*Y) (n+n) (n+n) (by omega) (by omega) (IntN.ofLt (by first|exact HE.out.wd.n.1|exact HE.out.wd.n.2.1|exact HE.out.wd.n.2.2.1|exact HE.out.wd.n.2.2.2.1) (zaI HL1.out.1 HL3.out.2)) (IntN.ofLt (by first|exact HE.out.wd.n.1|exact HE.out.wd.n.2.1|exact HE.out.wd.n.2.2.1|exact HE.out.wd.n.2.2.2.1) (zaI HL3.out.1 HL1.out.2))).mono ?_;rintro e w3 ⟨rfl,hb⟩;replace HE:=znd (Env.cx HE.out hb);replace c:=Env.c6 HE.out;clear hb)))
 all_goals
  go_wp2_with fail;go_ret;exact⟨by rw[HQ.out];rfl,(HE.out.wd.bel)⟩
def sg (q:Rat):Int:=q.num.sign
theorem zyS (a b:Rat):cmpQ a b=sg (a-b):=by
 have ha:0<(a.den:Int):=Int.natCast_pos.2 a.den_pos;have hb:0<(b.den:Int):=Int.natCast_pos.2 b.den_pos;have e:a-b=Rat.divInt (a.num*b.den-b.num*a.den) (a.den*b.den):=by
  have:=Rat.divInt_sub_divInt a.num b.num (d₁:=a.den) (d₂:=b.den) (by omega) (by omega);rw[Rat.num_divInt_den,Rat.num_divInt_den]at this;exact this
 rw[zkm,zf6];exact(zgP (Int.mul_pos ha hb) e).symm
section
variable {w W W':World} {g:Nat} {p e:IV} {x d:Int} {n:Nat}
end
theorem Blk.set2 {W:World} {g:Nat} {t:TypeId} {x y:Value} (h:Blk W g t #[x,y]) (a b:Value):Blk ((W.setCell ⟨g,0,none⟩ a).setCell ⟨g,1,none⟩ b) g t #[a,b]:=(h.set_ 0 a).set_ 1 b
theorem z1 {X W':World} (hb:Below (X.alloc (.cells #[.bool false,.slice none 0 0] 53)).heap.size (X.alloc (.cells #[.bool false,.slice none 0 0] 53)) W'):Blk W' X.heap.size 53 #[.bool false,.slice none 0 0]:=(Blk.new X _ _).below hb (by simp)
theorem z2 {X W':World} (hb:Below ((X.alloc (.cells #[.bool false,.slice none 0 0] 53)).alloc (.cells #[.bool false,.slice none 0 0] 53)).heap.size ((X.alloc (.cells #[.bool false,.slice none 0 0] 53)).alloc (.cells #[.bool false,.slice none 0 0] 53)) W'):Blk W' X.heap.size 53 #[.bool false,.slice none 0 0]/\Blk W' (X.heap.size+1) 53 #[.bool false,.slice none 0 0]:=
 ⟨((Blk.new X _ _).alloc _).below hb (by simp;omega),by have:=(Blk.new (X.alloc (.cells #[.bool false,.slice none 0 0] 53)) 53 #[.bool false,.slice none 0 0]).below hb (by simp);simpa using this⟩
end Go.Proofs.YtegfiemlnnpidaaGreatDoor
