/-
 tripwireref04: Parts, Norm, Add, Mul, Quo, Neg, Sign, Cmp. tripwireref04: Norm, Neg, Sign, Add, Mul, Quo, Cmp. tripwireref04: Add. tripwireref04: Sub, Abs, Max, Min, Floor, Ceil.
-/
import Derived.Test.YtegfiemlnnpidaaGreatDoorRef7
import Derived.Test.YtegfiemlnnpidaaGreatDoorSL
import Derived.Test.YtegfiemlnnpidaaGreatDoorRQ
namespace Go.Proofs.YtegfiemlnnpidaaGreatDoor
set_option maxHeartbeats 2000000
open Go.RowKit

def ptN (r:RV) (x y:Int):Int:=if r.den.k=0 then x else if y=0 then 0 else if y<0 then -x else x
def ptD (r:RV) (y:Int):Int:=if r.den.k=0 then 1 else if y=0 then 1 else if y<0 then -y else y
theorem zp5 (r:RV) (y:Int):0<ptD r y:=by
 unfold ptD;split;decide;split;decide;split<;>omega
theorem zn2 (r:RV) (x y:Int):Rat.divInt (ptN r x y) (ptD r y)=if r.den.k=0 then Rat.divInt x 1 else Rat.divInt x y:=by
 unfold ptN ptD
 split
 ·rfl
 ·split
  ·rename_i h;rw[h];simp[Rat.divInt_zero]
  ·split
   ·exact Rat.neg_divInt_neg x y
   ·rfl
theorem zr9 {r:RV} {x y:Int} {n:Nat} (hx:x.natAbs<B64^n) (hy:y.natAbs<B64^n) (h1:1<=n):(ptN r x y).natAbs<B64^n/\(ptD r y).natAbs<B64^n:=by
 have h2:1<B64^n:=Nat.lt_of_lt_of_le (by decide:1<B64^1) (Nat.pow_le_pow_right za4 h1);unfold ptN ptD;refine⟨?_,?_⟩
 ·split;exact hx;split;simp;omega;split<;>omega
 ·split;simpa using h2;split;simpa using h2;split<;>omega
set_option maxRecDepth 100000 in
theorem zsi (w:World) (r:RV) (x y:Int) (n:Nat) (hn:n<=10000) (hx:IntD r.num x n w) (hy:IntD r.den y n w) (hk0:r.den.k=0):
 Calls Tryz.prog 96 #[rA r] w (zi8 x 1 w):=by
 have HE:=znd (zmu r ((hx.old).and (hy.old)));have c:=Env.c3 HE.out;have dd:=Env.d3 HE.out;have hq:((r.den.k:Int)==0)=true:=by simp[hk0]
 clear hk0;clear hx hy;unfold rA;go_enter Tryz.func96,Tryz.ntmps96;go_wp2_with fail;refine(zoE _ r.num x n (by omega) (HE.out.wd.o.1)).mono ?_;rintro e w1 ⟨i,rfl,hk,hb⟩;replace HE:=znd (Env.rx HE.out hk hb);replace c:=Env.c3 HE.out;clear hk hb;go_upto_region 2 with fail;obtain⟨W2,g4,hW2,hg4,HE⟩:=Env.al HE.out 53 (cI i);rw[hW2,hg4];clear hW2 hg4;replace c:=Env.c4 HE.out;replace dd:=Env.d4 HE.out;go_wp2_with fail;refine(zoE _ r.den y n (by omega) (HE.out.wd.o.2)).mono ?_;rintro e w3 ⟨j,rfl,hk,hb⟩;replace HE:=znd (Env.rx HE.out hk hb);replace c:=Env.c4 HE.out;clear hk hb;go_upto_region 3 with fail;obtain⟨W4,g5,hW4,hg5,HE⟩:=Env.al HE.out 53 (cI j);rw[hW4,hg5];clear hW4 hg5;replace c:=Env.c5 HE.out;replace dd:=Env.d5 HE.out;go_wp2_with fail;refine(zoY _ 1 (by decide) (by decide)).mono ?_;rintro e w1 ⟨k,rfl,hk,hb⟩;replace HE:=znd (Env.rx HE.out hk hb);replace c:=Env.c5 HE.out;clear hk hb;go_wp2_with fail;obtain⟨W5,hW5,HE⟩:=Env.st2_0 HE.out (.bool k.neg) (.slice k.A k.k k.c);rw[hW5];clear hW5;replace c:=Env.c5 HE.out;refine(zov _ k 1 1 (by decide) (IntN.ofLt (HE.out.wd.n.1) (by decide))).mono ?_;rintro e w2 ⟨rfl,hb⟩;replace HE:=znd (Env.cx HE.out hb);replace c:=Env.c5 HE.out;clear hb;have hs1:((1:Int).sign==0)=false:=rfl;have HN:=znd (show IntN k 1 _ from HE.out.n.1);have hng:k.neg=false:=by rw[HN.out.neg];rfl
 clear HN;go_upto_region 10 with fail;clear hng
 go_region_held3 (fun W=>CB (g4) (cI i) W/\CB (g5) (cI k) W) (first|exact⟨c.2.1,c.1⟩|((repeat' apply And.intro)<;>go_keep)) (fail)
 all_goals
  go_wp2_with fail
  first
  |(have hE:=((HE.out.put2_3 (.bool i.neg) (.slice i.A i.k i.c)).put2_2 (.bool k.neg) (.slice k.A k.k k.c)).drew;replace c:=Env.c5 hE;exact bodyPost_ret (v:=.tuple #[.agg (cI i),.agg (cI k)]) (by simp[results,Tryz.results96,go_sem,c]) rfl (hE.retZ2 (fun _ h=>h.2.2.1) fun _ h=>h.1))
  |(have hE:=((HE.out.put2_2 (.bool k.neg) (.slice k.A k.k k.c)).put2_3 (.bool i.neg) (.slice i.A i.k i.c)).drew;replace c:=Env.c5 hE;exact bodyPost_ret (v:=.tuple #[.agg (cI i),.agg (cI k)]) (by simp[results,Tryz.results96,go_sem,c]) rfl (hE.retZ2 (fun _ h=>h.2.2.1) fun _ h=>h.1))
  |(have hE:=(HE.out.put2_3 (.bool i.neg) (.slice i.A i.k i.c)).put2_2 (.bool k.neg) (.slice k.A k.k k.c);replace c:=Env.c5 hE;exact bodyPost_ret (v:=.tuple #[.agg (cI i),.agg (cI k)]) (by simp[results,Tryz.results96,go_sem,c]) rfl (hE.retZ2 (fun _ h=>h.2.2.1) fun _ h=>h.1))
  |(have hE:=(HE.out.put2_2 (.bool k.neg) (.slice k.A k.k k.c)).put2_3 (.bool i.neg) (.slice i.A i.k i.c);replace c:=Env.c5 hE;exact bodyPost_ret (v:=.tuple #[.agg (cI i),.agg (cI k)]) (by simp[results,Tryz.results96,go_sem,c]) rfl (hE.retZ2 (fun _ h=>h.2.2.1) fun _ h=>h.1))
set_option maxRecDepth 100000 in
theorem zsy (w:World) (r:RV) (x y:Int) (n:Nat) (hn:n<=10000) (hx:IntD r.num x n w) (hy:IntD r.den y n w) (hk0:r.den.k≠0) (h0:y=0):
 Calls Tryz.prog 96 #[rA r] w (zi8 0 1 w):=by
 have HE:=znd (zmu r ((hx.old).and (hy.old)));have c:=Env.c3 HE.out;have dd:=Env.d3 HE.out;have hq:((r.den.k:Int)==0)=false:=by simp;omega
 have Hly:=znd hy.lt;have Hlx:=znd hx.lt;have H0:=znd h0;have hs1:(y.sign==0)=true:=by rw[h0];rfl
 clear h0;clear hx hy;unfold rA;go_enter Tryz.func96,Tryz.ntmps96;go_wp2_with fail;refine(zoE _ r.num x n (by omega) (HE.out.wd.o.1)).mono ?_;rintro e w1 ⟨i,rfl,hk,hb⟩;replace HE:=znd (Env.rx HE.out hk hb);replace c:=Env.c3 HE.out;clear hk hb;go_upto_region 2 with fail;obtain⟨W2,g4,hW2,hg4,HE⟩:=Env.al HE.out 53 (cI i);rw[hW2,hg4];clear hW2 hg4;replace c:=Env.c4 HE.out;replace dd:=Env.d4 HE.out;go_wp2_with fail;refine(zoE _ r.den y n (by omega) (HE.out.wd.o.2)).mono ?_;rintro e w3 ⟨j,rfl,hk,hb⟩;replace HE:=znd (Env.rx HE.out hk hb);replace c:=Env.c4 HE.out;clear hk hb;go_upto_region 3 with fail;obtain⟨W4,g5,hW4,hg5,HE⟩:=Env.al HE.out 53 (cI j);rw[hW4,hg5];clear hW4 hg5;replace c:=Env.c5 HE.out;replace dd:=Env.d5 HE.out;go_wp2_with fail;refine(zov _ j y n (by omega) (IntN.ofLt (HE.out.wd.n.1) Hly.out)).mono ?_;rintro e w5 ⟨rfl,hb⟩;replace HE:=znd (Env.cx HE.out hb);replace c:=Env.c5 HE.out;clear hb;have HN:=znd (show IntN j y _ from HE.out.n.1);have hng:j.neg=decide (y<0):=HN.out.neg;clear HN;clear hng;go_wp2_with fail;refine(zoY _ 1 (by decide) (by decide)).mono ?_;rintro e w6 ⟨k,rfl,hk,hb⟩;replace HE:=znd (Env.rx HE.out hk hb);replace c:=Env.c5 HE.out;clear hk hb;go_wp2_with fail
 first
 |(have hE:=((HE.out.put2_3 (.bool false) (.slice none 0 0)).put2_2 (.bool k.neg) (.slice k.A k.k k.c));replace c:=Env.c5 hE;exact bodyPost_ret (v:=.tuple #[.agg #[.bool false,.slice none 0 0],.agg (cI k)]) (by simp[results,Tryz.results96,go_sem,c]) rfl (hE.retZ2 (i:=⟨false,none,0,0⟩) (fun V _=>zd9 V) fun _ h=>h.1))
 |(have hE:=((HE.out.put2_3 (.bool false) (.slice none 0 0)).put2_2 (.bool k.neg) (.slice k.A k.k k.c)).drew;replace c:=Env.c5 hE;exact bodyPost_ret (v:=.tuple #[.agg #[.bool false,.slice none 0 0],.agg (cI k)]) (by simp[results,Tryz.results96,go_sem,c]) rfl (hE.retZ2 (i:=⟨false,none,0,0⟩) (fun V _=>zd9 V) fun _ h=>h.1))
set_option maxRecDepth 100000 in
theorem zsc (w:World) (r:RV) (x y:Int) (n:Nat) (hn:n<=10000) (hx:IntD r.num x n w) (hy:IntD r.den y n w) (hk0:r.den.k≠0) (h0:0<y):
 Calls Tryz.prog 96 #[rA r] w (zi8 x y w):=by
 have HE:=znd (zmu r ((hx.old).and (hy.old)));have c:=Env.c3 HE.out;have dd:=Env.d3 HE.out;have hq:((r.den.k:Int)==0)=false:=by simp;omega
 have Hly:=znd hy.lt;have Hlx:=znd hx.lt;have H0:=znd h0;have hs1:(y.sign==0)=false:=by rw[Int.sign_eq_one_of_pos h0];rfl
 clear h0;clear hx hy;unfold rA;go_enter Tryz.func96,Tryz.ntmps96;go_wp2_with fail;refine(zoE _ r.num x n (by omega) (HE.out.wd.o.1)).mono ?_;rintro e w1 ⟨i,rfl,hk,hb⟩;replace HE:=znd (Env.rx HE.out hk hb);replace c:=Env.c3 HE.out;clear hk hb;go_upto_region 2 with fail;obtain⟨W2,g4,hW2,hg4,HE⟩:=Env.al HE.out 53 (cI i);rw[hW2,hg4];clear hW2 hg4;replace c:=Env.c4 HE.out;replace dd:=Env.d4 HE.out;go_wp2_with fail;refine(zoE _ r.den y n (by omega) (HE.out.wd.o.2)).mono ?_;rintro e w3 ⟨j,rfl,hk,hb⟩;replace HE:=znd (Env.rx HE.out hk hb);replace c:=Env.c4 HE.out;clear hk hb;go_upto_region 3 with fail;obtain⟨W4,g5,hW4,hg5,HE⟩:=Env.al HE.out 53 (cI j);rw[hW4,hg5];clear hW4 hg5;replace c:=Env.c5 HE.out;replace dd:=Env.d5 HE.out;go_wp2_with fail;refine(zov _ j y n (by omega) (IntN.ofLt (HE.out.wd.n.1) Hly.out)).mono ?_;rintro e w5 ⟨rfl,hb⟩;replace HE:=znd (Env.cx HE.out hb);replace c:=Env.c5 HE.out;clear hb;have HN:=znd (show IntN j y _ from HE.out.n.1);have hng:j.neg=decide (y<0):=HN.out.neg;clear HN;rw[decide_eq_false (by have:=H0.out;omega)]at hng;go_upto_region 10 with fail;clear hng
 go_region_held3 (fun W=>CB (g4) (cI i) W/\CB (g5) (cI j) W) (first|exact⟨c.2.1,c.1⟩|((repeat' apply And.intro)<;>go_keep)) (fail)
 all_goals
  go_wp2_with fail
  first
  |(have hE:=((HE.out.put2_3 (.bool i.neg) (.slice i.A i.k i.c)).put2_2 (.bool j.neg) (.slice j.A j.k j.c)).drew;replace c:=Env.c5 hE;exact bodyPost_ret (v:=.tuple #[.agg (cI i),.agg (cI j)]) (by simp[results,Tryz.results96,go_sem,c]) rfl (hE.retZ2 (fun _ h=>h.2.1) fun _ h=>h.1))
  |(have hE:=((HE.out.put2_2 (.bool j.neg) (.slice j.A j.k j.c)).put2_3 (.bool i.neg) (.slice i.A i.k i.c)).drew;replace c:=Env.c5 hE;exact bodyPost_ret (v:=.tuple #[.agg (cI i),.agg (cI j)]) (by simp[results,Tryz.results96,go_sem,c]) rfl (hE.retZ2 (fun _ h=>h.2.1) fun _ h=>h.1))
  |(have hE:=(HE.out.put2_3 (.bool i.neg) (.slice i.A i.k i.c)).put2_2 (.bool j.neg) (.slice j.A j.k j.c);replace c:=Env.c5 hE;exact bodyPost_ret (v:=.tuple #[.agg (cI i),.agg (cI j)]) (by simp[results,Tryz.results96,go_sem,c]) rfl (hE.retZ2 (fun _ h=>h.2.1) fun _ h=>h.1))
  |(have hE:=(HE.out.put2_2 (.bool j.neg) (.slice j.A j.k j.c)).put2_3 (.bool i.neg) (.slice i.A i.k i.c);replace c:=Env.c5 hE;exact bodyPost_ret (v:=.tuple #[.agg (cI i),.agg (cI j)]) (by simp[results,Tryz.results96,go_sem,c]) rfl (hE.retZ2 (fun _ h=>h.2.1) fun _ h=>h.1))
set_option maxRecDepth 100000 in
theorem zs8 (w:World) (r:RV) (x y:Int) (n:Nat) (hn:n<=10000) (hx:IntD r.num x n w) (hy:IntD r.den y n w) (hk0:r.den.k≠0) (h0:y<0):
 Calls Tryz.prog 96 #[rA r] w (zi8 (-x) (-y) w):=by
 have HE:=znd (zmu r ((hx.old).and (hy.old)));have c:=Env.c3 HE.out;have dd:=Env.d3 HE.out;have hq:((r.den.k:Int)==0)=false:=by simp;omega
 have Hly:=znd hy.lt;have Hlx:=znd hx.lt;have H0:=znd h0;have hs1:(y.sign==0)=false:=by rw[Int.sign_eq_neg_one_of_neg h0];rfl
 clear h0;clear hx hy;unfold rA;go_enter Tryz.func96,Tryz.ntmps96;go_wp2_with fail;refine(zoE _ r.num x n (by omega) (HE.out.wd.o.1)).mono ?_;rintro e w1 ⟨i,rfl,hk,hb⟩;replace HE:=znd (Env.rx HE.out hk hb);replace c:=Env.c3 HE.out;clear hk hb;go_upto_region 2 with fail;obtain⟨W2,g4,hW2,hg4,HE⟩:=Env.al HE.out 53 (cI i);rw[hW2,hg4];clear hW2 hg4;replace c:=Env.c4 HE.out;replace dd:=Env.d4 HE.out;go_wp2_with fail;refine(zoE _ r.den y n (by omega) (HE.out.wd.o.2)).mono ?_;rintro e w3 ⟨j,rfl,hk,hb⟩;replace HE:=znd (Env.rx HE.out hk hb);replace c:=Env.c4 HE.out;clear hk hb;go_upto_region 3 with fail;obtain⟨W4,g5,hW4,hg5,HE⟩:=Env.al HE.out 53 (cI j);rw[hW4,hg5];clear hW4 hg5;replace c:=Env.c5 HE.out;replace dd:=Env.d5 HE.out;go_wp2_with fail;refine(zov _ j y n (by omega) (IntN.ofLt (HE.out.wd.n.1) Hly.out)).mono ?_;rintro e w5 ⟨rfl,hb⟩;replace HE:=znd (Env.cx HE.out hb);replace c:=Env.c5 HE.out;clear hb;have HN:=znd (show IntN j y _ from HE.out.n.1);have hng:j.neg=decide (y<0):=HN.out.neg;clear HN;rw[decide_eq_true H0.out]at hng;go_upto_region 8 with fail;clear hng;go_wp2_with fail;refine(zpc _ i x n (by omega) (IntN.ofLt (HE.out.wd.n.2.1) Hlx.out)).mono ?_;rintro e w6 ⟨k,rfl,hk,hb⟩;replace HE:=znd (Env.rx HE.out hk hb);replace c:=Env.c5 HE.out;clear hk hb;go_wp2_with fail;obtain⟨W7,hW7,HE⟩:=Env.st2_1 HE.out (.bool k.neg) (.slice k.A k.k k.c);rw[hW7];clear hW7;replace c:=Env.c5 HE.out;refine(zpc _ j y n (by omega) (IntN.ofLt (HE.out.wd.n.2.1) Hly.out)).mono ?_;rintro e w8 ⟨l,rfl,hk,hb⟩;replace HE:=znd (Env.rx HE.out hk hb);replace c:=Env.c5 HE.out;clear hk hb;go_wp2_with fail;obtain⟨W9,hW9,HE⟩:=Env.st2_0 HE.out (.bool l.neg) (.slice l.A l.k l.c);rw[hW9];clear hW9;replace c:=Env.c5 HE.out
 go_region_held3 (fun W=>CB (g4) (cI k) W/\CB (g5) (cI l) W) (first|exact⟨c.2.1,c.1⟩|((repeat' apply And.intro)<;>go_keep)) (fail)
 all_goals
  go_wp2_with fail
  first
  |(have hE:=((HE.out.put2_3 (.bool k.neg) (.slice k.A k.k k.c)).put2_2 (.bool l.neg) (.slice l.A l.k l.c)).drew;replace c:=Env.c5 hE;exact bodyPost_ret (v:=.tuple #[.agg (cI k),.agg (cI l)]) (by simp[results,Tryz.results96,go_sem,c]) rfl (hE.retZ2 (fun _ h=>h.2.1) fun _ h=>h.1))
  |(have hE:=((HE.out.put2_2 (.bool l.neg) (.slice l.A l.k l.c)).put2_3 (.bool k.neg) (.slice k.A k.k k.c)).drew;replace c:=Env.c5 hE;exact bodyPost_ret (v:=.tuple #[.agg (cI k),.agg (cI l)]) (by simp[results,Tryz.results96,go_sem,c]) rfl (hE.retZ2 (fun _ h=>h.2.1) fun _ h=>h.1))
  |(have hE:=(HE.out.put2_3 (.bool k.neg) (.slice k.A k.k k.c)).put2_2 (.bool l.neg) (.slice l.A l.k l.c);replace c:=Env.c5 hE;exact bodyPost_ret (v:=.tuple #[.agg (cI k),.agg (cI l)]) (by simp[results,Tryz.results96,go_sem,c]) rfl (hE.retZ2 (fun _ h=>h.2.1) fun _ h=>h.1))
  |(have hE:=(HE.out.put2_2 (.bool l.neg) (.slice l.A l.k l.c)).put2_3 (.bool k.neg) (.slice k.A k.k k.c);replace c:=Env.c5 hE;exact bodyPost_ret (v:=.tuple #[.agg (cI k),.agg (cI l)]) (by simp[results,Tryz.results96,go_sem,c]) rfl (hE.retZ2 (fun _ h=>h.2.1) fun _ h=>h.1))
theorem zoJ (w:World) (r:RV) (x y:Int) (n:Nat) (hn:n<=10000) (hx:IntD r.num x n w) (hy:IntD r.den y n w):Calls Tryz.prog 96 #[rA r] w (zi8 (ptN r x y) (ptD r y) w):=by
 unfold ptN ptD;by_cases hk:r.den.k=0
 ·rw[if_pos hk,if_pos hk];exact zsi w r x y n hn hx hy hk
 ·rw[if_neg hk,if_neg hk];rcases Int.lt_trichotomy y 0 with h|h|h
  ·rw[if_neg (show¬y=0 by omega),if_neg (show¬y=0 by omega),if_pos h,if_pos h];exact zs8 w r x y n hn hx hy hk h
  ·rw[if_pos h,if_pos h];exact zsy w r x y n hn hx hy hk h
  ·rw[if_neg (show¬y=0 by omega),if_neg (show¬y=0 by omega),if_neg (show¬y<0 by omega),if_neg (show¬y<0 by omega)];exact zsc w r x y n hn hx hy hk h

theorem zvj {x y:Int} {n:Nat} (hx:x.natAbs<B64^n) (hy:y.natAbs<B64^n):(x+y).natAbs<B64^(n+1):=by
 have h3:2*B64^n<=B64^(n+1):=by rw[Nat.pow_succ,Nat.mul_comm];exact Nat.mul_le_mul_left _ (by decide)
 omega
theorem zvq {x y z t:Int} (hy:0<y) (ht:0<t):Rat.divInt (x*t+z*y) (y*t)=Rat.divInt x y+Rat.divInt z t:=by
 rw[Rat.divInt_add_divInt _ _ (by omega) (by omega)]
theorem ztJ {x y z t:Int}:Rat.divInt (x*z) (y*t)=Rat.divInt x y*Rat.divInt z t:=by
 rw[Rat.divInt_mul_divInt]
theorem RatD.parts {r:RV} {q:Rat} {n:Nat} {w:World} (h:RatD r q n w):∃x y,IntD r.num x n w/\IntD r.den y n w/\Rat.divInt (ptN r x y) (ptD r y)=q:=by
 obtain⟨x,y,hx,hy,hq⟩:=h.ex;exact⟨x,y,hx,hy,by rw[zn2,hq]⟩
set_option maxRecDepth 100000 in
theorem zp8 (w:World) (r:RV) (a:Rat) (n:Nat) (hn:n<=10000) (h1n:1<=n) (ha:RatD r a n w):
 Calls Tryz.prog 56 #[rA r] w (RetR a w):=by
 obtain⟨x,y,hx,hy,rfl⟩:=ha.parts;have Hl:=znd (zr9 (r:=r) hx.lt hy.lt h1n);have Hd:=znd (zp5 r y);clear ha;have HE:=znd (lyRZ r ((hx.old).and (hy.old)));have c:=Env.c2 HE.out;have dd:=Env.d2 HE.out;clear hx hy;unfold rA;go_enter Tryz.func56,Tryz.ntmps56;go_wp2_with fail;refine(zoJ _ r x y n hn (HE.out.wd.o.1) (HE.out.wd.o.2)).mono ?_;rintro e w1 ⟨i,j,rfl,hk,hk',hb⟩;replace HE:=znd (Env.rx HE.out (hk.and hk') hb);replace c:=Env.c2 HE.out;clear hk hk' hb;go_upto_region 2 with fail;obtain⟨W2,g3,g4,hW2,hg2,hg3,HE⟩:=Env.al2 HE.out 53 53 (cI i) (cI j);rw[hW2,hg2,hg3];clear hW2 hg2 hg3;replace c:=Env.c4 HE.out;replace dd:=Env.d4 HE.out;go_wp2_with fail;generalize ptN r x y=X at*;generalize ptD r y=Y at*;refine(zp3 _ i j X Y n hn (IntN.ofLt (HE.out.wd.n.1.1) Hl.out.1) (IntN.ofLt (HE.out.wd.n.1.2) Hl.out.2) Hd.out).mono ?_;rintro e w5 ⟨q,rfl,hk,hb⟩;replace HE:=znd (Env.rx HE.out hk hb);replace c:=Env.c4 HE.out;clear hk hb;go_wp2_with fail;have hE:=HE.out.put4_2 (.bool q.num.neg) (.slice q.num.A q.num.k q.num.c) (.bool q.den.neg) (.slice q.den.A q.den.k q.den.c);replace c:=Env.c4 hE;exact bodyPost_ret (v:=.agg (cR q)) (by simp[results,Tryz.results56,go_sem,c]) rfl (hE.retR' rfl fun _ h=>h.1)
theorem zqi {x y:Int} (hy:0<y):(Rat.divInt x y).num.sign=x.sign:=by
 rw[(zfY hy).1];have hg:0<((Nat.gcd x.natAbs y.natAbs:Nat):Int):=by have:=Nat.gcd_pos_of_pos_right x.natAbs (show 0<y.natAbs by omega);omega
 have hd:((Nat.gcd x.natAbs y.natAbs:Nat):Int)∣x:=Int.ofNat_dvd_left.2 (Nat.gcd_dvd_left _ _);obtain⟨k,hk⟩:=hd;generalize ((Nat.gcd x.natAbs y.natAbs:Nat):Int)=g at*;rw[hk,Int.mul_ediv_cancel_left _ (by omega),Int.sign_mul,Int.sign_eq_one_of_pos hg,Int.one_mul]
theorem zsB {x y z t:Int} (hy:0<y) (ht:0<t):(Rat.divInt x y-Rat.divInt z t).num.sign=(x*t-z*y).sign:=by
 rw[Rat.divInt_sub_divInt _ _ (by omega) (by omega),zqi (Int.mul_pos hy ht)]
set_option maxRecDepth 100000 in
theorem zq7 (w:World) (r:RV) (a:Rat) (n:Nat) (hn:n<=10000) (h1n:1<=n) (ha:RatD r a n w):
 Calls Tryz.prog 235 #[rA r] w fun e w'=>e=.returned (.int .i64 a.num.sign)/\Below w.heap.size w w':=by
 obtain⟨x,y,hx,hy,rfl⟩:=ha.parts;have Hl:=znd (zr9 (r:=r) hx.lt hy.lt h1n);have Hd:=znd (zp5 r y);clear ha;have HE:=znd (lyR r ((hx.old).and (hy.old)));have c:=Env.c1 HE.out;clear hx hy;rw[zqi (zp5 r y)];unfold rA;go_enter Tryz.func235,Tryz.ntmps235;go_wp2_with fail;refine(zoJ _ r x y n hn (HE.out.wd.o.1) (HE.out.wd.o.2)).mono ?_;rintro e w1 ⟨i,j,rfl,hk,hk',hb⟩;replace HE:=znd (Env.rx HE.out (hk.and hk') hb);replace c:=Env.c1 HE.out;clear hk hk' hb;go_upto_region 2 with fail;obtain⟨W2,g3,g4,hW2,hg2,hg3,HE⟩:=Env.al2 HE.out 53 53 (cI i) (cI j);rw[hW2,hg2,hg3];clear hW2 hg2 hg3;replace c:=Env.c3 HE.out;have dd:=Env.d3 HE.out;go_wp2_with fail;generalize hX:ptN r x y=X at*;generalize ptD r y=Y at*;refine(zov _ i X n (by omega) (IntN.ofLt (HE.out.wd.n.1.1) Hl.out.1)).mono ?_;rintro e w5 ⟨rfl,hb⟩;replace HE:=znd (Env.cx HE.out hb);clear hb c;go_wp2_with fail;go_ret;exact⟨by rw[hX];rfl,HE.out.bel⟩
set_option maxRecDepth 100000 in
theorem zrl (w:World) (r s:RV) (a b:Rat) (n:Nat) (hn:n<=3000) (h1n:1<=n) (ha:RatD r a n w) (hb:RatD s b n w):
 Calls Tryz.prog 211 #[rA r,rA s] w (RetR (a*b) w):=by
 obtain⟨x,y,hx,hy,rfl⟩:=ha.parts;obtain⟨z,t,hz,ht,rfl⟩:=hb.parts;have Hl:=znd (zr9 (r:=r) hx.lt hy.lt h1n);have Hd:=znd (zp5 r y);have Hm:=znd (zr9 (r:=s) hz.lt ht.lt h1n);have He:=znd (zp5 s t);have hn3:=hn;replace hn:n<=10000:=by omega
 clear ha hb;have HE:=znd (zcU r s ((hx.old).and ((hy.old).and ((hz.old).and (ht.old)))));have c:=Env.c3 HE.out;have dd:=Env.d3 HE.out;clear hx hy hz ht;unfold rA;go_enter Tryz.func211,Tryz.ntmps211;go_wp2_with fail;refine(zoJ _ r x y n hn (HE.out.wd.o.1) (HE.out.wd.o.2.1)).mono ?_;rintro e w1 ⟨i,j,rfl,hk,hk',hb⟩;replace HE:=znd (Env.rx HE.out (hk.and hk') hb);replace c:=Env.c3 HE.out;clear hk hk' hb;go_upto_region 2 with fail;obtain⟨W2,g5,g6,hW2,hg2,hg3,HE⟩:=Env.al2 HE.out 53 53 (cI i) (cI j);rw[hW2,hg2,hg3];clear hW2 hg2 hg3;replace c:=Env.c5 HE.out;replace dd:=Env.d5 HE.out;go_wp2_with fail;refine(zoJ _ s z t n hn (HE.out.wd.o.2.2.1) (HE.out.wd.o.2.2.2)).mono ?_;rintro e w3 ⟨k,l,rfl,hk,hk',hb⟩;replace HE:=znd (Env.rx HE.out (hk.and hk') hb);replace c:=Env.c5 HE.out;clear hk hk' hb;go_upto_region 3 with fail;obtain⟨W2,g7,g8,hW2,hg2,hg3,HE⟩:=Env.al2 HE.out 53 53 (cI k) (cI l);rw[hW2,hg2,hg3];clear hW2 hg2 hg3;replace c:=Env.c7 HE.out;replace dd:=Env.d7 HE.out;go_wp2_with fail;generalize ptN r x y=X at*;generalize ptD r y=Y at*;generalize ptN s z t=Z at*;generalize ptD s t=T at*
 go_region_held3 (fun W=>CB (g5) (cI i) W/\CB (g6) (cI j) W/\CB (g7) (cI k) W/\CB (g8) (cI l) W) (first|exact⟨c.2.2.2.1,c.2.2.1,c.2.1,c.1⟩|((repeat' apply And.intro)<;>go_keep))
  (first
   |(go_at_call_of 102 ((#[.agg #[.bool i.neg,.slice i.A i.k i.c],.agg #[.bool k.neg,.slice k.A k.k k.c]]:Array Value));go_must (refine(zoD _ i k X Z n n (by omega) (by omega) (IntN.ofLt (by first|exact HE.out.wd.n.2.1.1|exact HE.out.wd.n.2.2.1.1) Hl.out.1) (IntN.ofLt (by first|exact HE.out.wd.n.1.1|exact HE.out.wd.n.2.1.1) Hm.out.1)).mono ?_;rintro e w1 ⟨p,rfl,hk,hb⟩;replace HE:=znd (Env.rx HE.out hk hb);replace c:=Env.c7 HE.out;clear hk hb))
   |(go_at_call_of 102 ((#[.agg #[.bool j.neg,.slice j.A j.k j.c],.agg #[.bool l.neg,.slice l.A l.k l.c]]:Array Value));go_must (refine(zoD _ j l Y T n n (by omega) (by omega) (IntN.ofLt (by first|exact HE.out.wd.n.2.1.2|exact HE.out.wd.n.2.2.1.2) Hl.out.2) (IntN.ofLt (by first|exact HE.out.wd.n.1.2|exact HE.out.wd.n.2.1.2) Hm.out.2)).mono ?_;rintro e w2 ⟨o,rfl,hk,hb⟩;replace HE:=znd (Env.rx HE.out hk hb);replace c:=Env.c7 HE.out;clear hk hb))
   |(go_at_call 97;go_must (refine(zp3 _ p o (X*Z) (Y*T) (n+n) (by omega) (IntN.ofLt (by first|exact HE.out.wd.n.1|exact HE.out.wd.n.2.1|exact HE.out.wd.n.2.2.1|exact HE.out.wd.n.2.2.2.1) (zpg Hl.out.1 Hm.out.1)) (IntN.ofLt (by first|exact HE.out.wd.n.1|exact HE.out.wd.n.2.1|exact HE.out.wd.n.2.2.1|exact HE.out.wd.n.2.2.2.1) (zpg Hl.out.2 Hm.out.2)) (Int.mul_pos Hd.out He.out)).mono ?_;rintro e w3 ⟨q,rfl,hk,hb⟩;replace HE:=znd (Env.rx HE.out hk hb);replace c:=Env.c7 HE.out;clear hk hb)))
 all_goals
  go_wp2_with fail;rw[<-ztJ];have hE:=HE.out.put4_4 (.bool q.num.neg) (.slice q.num.A q.num.k q.num.c) (.bool q.den.neg) (.slice q.den.A q.den.k q.den.c);replace c:=Env.c7 hE;exact bodyPost_ret (v:=.agg (cR q)) (by simp[results,Tryz.results211,go_sem,c]) rfl (hE.retR' rfl fun _ h=>h.1)
set_option maxRecDepth 100000 in
theorem zxa (w:World) (r s:RV) (a b:Rat) (n:Nat) (hn:n<=3000) (h1n:1<=n) (ha:RatD r a n w) (hb:RatD s b n w):
 Calls Tryz.prog 65 #[rA r,rA s] w fun e w'=>e=.returned (.int .i64 (a-b).num.sign)/\Below w.heap.size w w':=by
 obtain⟨x,y,hx,hy,rfl⟩:=ha.parts;obtain⟨z,t,hz,ht,rfl⟩:=hb.parts;have Hl:=znd (zr9 (r:=r) hx.lt hy.lt h1n);have Hd:=znd (zp5 r y);have Hm:=znd (zr9 (r:=s) hz.lt ht.lt h1n);have He:=znd (zp5 s t);have hn3:=hn;replace hn:n<=10000:=by omega
 clear ha hb;have HE:=znd (lyRR r s ((hx.old).and ((hy.old).and ((hz.old).and (ht.old)))));have c:=Env.c2 HE.out;have dd:=Env.d2 HE.out;clear hx hy hz ht;rw[zsB (zp5 r y) (zp5 s t)];unfold rA;go_enter Tryz.func65,Tryz.ntmps65;go_wp2_with fail;refine(zoJ _ r x y n hn (HE.out.wd.o.1) (HE.out.wd.o.2.1)).mono ?_;rintro e w1 ⟨i,j,rfl,hk,hk',hb⟩;replace HE:=znd (Env.rx HE.out (hk.and hk') hb);replace c:=Env.c2 HE.out;clear hk hk' hb;go_upto_region 2 with fail;obtain⟨W2,g5,g6,hW2,hg2,hg3,HE⟩:=Env.al2 HE.out 53 53 (cI i) (cI j);rw[hW2,hg2,hg3];clear hW2 hg2 hg3;replace c:=Env.c4 HE.out;replace dd:=Env.d4 HE.out;go_wp2_with fail;refine(zoJ _ s z t n hn (HE.out.wd.o.2.2.1) (HE.out.wd.o.2.2.2)).mono ?_;rintro e w3 ⟨k,l,rfl,hk,hk',hb⟩;replace HE:=znd (Env.rx HE.out (hk.and hk') hb);replace c:=Env.c4 HE.out;clear hk hk' hb;go_upto_region 3 with fail;obtain⟨W2,g7,g8,hW2,hg2,hg3,HE⟩:=Env.al2 HE.out 53 53 (cI k) (cI l);rw[hW2,hg2,hg3];clear hW2 hg2 hg3;replace c:=Env.c6 HE.out;replace dd:=Env.d6 HE.out;go_wp2_with fail;generalize hX:ptN r x y=X at*;generalize hY:ptD r y=Y at*;generalize hZ:ptN s z t=Z at*;generalize hT:ptD s t=T at*
 go_region_held3 (fun W=>CB (g5) (cI i) W/\CB (g6) (cI j) W/\CB (g7) (cI k) W/\CB (g8) (cI l) W) (first|exact⟨c.2.2.2.1,c.2.2.1,c.2.1,c.1⟩|((repeat' apply And.intro)<;>go_keep))
  (first
   |(go_at_call_of 102 ((#[.agg #[.bool i.neg,.slice i.A i.k i.c],.agg #[.bool l.neg,.slice l.A l.k l.c]]:Array Value));go_must (refine(zoD _ i l X T n n (by omega) (by omega) (IntN.ofLt (by first|exact HE.out.wd.n.2.1.1|exact HE.out.wd.n.2.2.1.1) Hl.out.1) (IntN.ofLt (by first|exact HE.out.wd.n.1.2|exact HE.out.wd.n.2.1.2) Hm.out.2)).mono ?_;rintro e w1 ⟨p,rfl,hk,hb⟩;replace HE:=znd (Env.rx HE.out hk hb);replace c:=Env.c6 HE.out;clear hk hb))
   |(go_at_call_of 102 ((#[.agg #[.bool k.neg,.slice k.A k.k k.c],.agg #[.bool j.neg,.slice j.A j.k j.c]]:Array Value));go_must (refine(zoD _ k j Z Y n n (by omega) (by omega) (IntN.ofLt (by first|exact HE.out.wd.n.1.1|exact HE.out.wd.n.2.1.1) Hm.out.1) (IntN.ofLt (by first|exact HE.out.wd.n.2.1.2|exact HE.out.wd.n.2.2.1.2) Hl.out.2)).mono ?_;rintro e w2 ⟨o,rfl,hk,hb⟩;replace HE:=znd (Env.rx HE.out hk hb);replace c:=Env.c6 HE.out;clear hk hb))
   |(go_at_call 101;go_must (refine(zqt _ p o (X*T) (Z*Y) (n+n) (n+n) (by omega) (by omega) (IntN.ofLt (by first|exact HE.out.wd.n.1|exact HE.out.wd.n.2.1|exact HE.out.wd.n.2.2.1|exact HE.out.wd.n.2.2.2.1) (zpg Hl.out.1 Hm.out.2)) (IntN.ofLt (by first|exact HE.out.wd.n.1|exact HE.out.wd.n.2.1|exact HE.out.wd.n.2.2.1|exact HE.out.wd.n.2.2.2.1) (zpg Hm.out.1 Hl.out.2))).mono ?_;rintro e w3 ⟨rfl,hb⟩;replace HE:=znd (Env.cx HE.out hb);replace c:=Env.c6 HE.out;clear hb)))
 all_goals
  go_wp2_with fail;go_ret;exact⟨by rw[hX,hY,hZ,hT];rfl,by exact HE.out.wd.bel⟩

theorem ztR {x:Int} {n:Nat} (h:x.natAbs<B64^n):x.natAbs<B64^(n+1):=Nat.lt_of_lt_of_le h (Nat.pow_le_pow_right za4 (Nat.le_succ n))
set_option maxRecDepth 100000 in
theorem zql (w:World) (r s:RV) (a b:Rat) (n:Nat) (hn:n<=3000) (h1n:1<=n) (ha:RatD r a n w) (hb:RatD s b n w):
 Calls Tryz.prog 209 #[rA r,rA s] w (RetR (a+b) w):=by
 obtain⟨x,y,hx,hy,rfl⟩:=ha.parts;obtain⟨z,t,hz,ht,rfl⟩:=hb.parts;have Hl:=znd (zr9 (r:=r) hx.lt hy.lt h1n);have Hd:=znd (zp5 r y);have Hm:=znd (zr9 (r:=s) hz.lt ht.lt h1n);have He:=znd (zp5 s t);have hn3:=hn;replace hn:n<=10000:=by omega
 clear ha hb;have HE:=znd (zcU r s ((hx.old).and ((hy.old).and ((hz.old).and (ht.old)))));have c:=Env.c3 HE.out;have dd:=Env.d3 HE.out;clear hx hy hz ht;unfold rA;go_enter Tryz.func209,Tryz.ntmps209;go_wp2_with fail;refine(zoJ _ r x y n hn (HE.out.wd.o.1) (HE.out.wd.o.2.1)).mono ?_;rintro e w1 ⟨i,j,rfl,hk,hk',hb⟩;replace HE:=znd (Env.rx HE.out (hk.and hk') hb);replace c:=Env.c3 HE.out;clear hk hk' hb;go_upto_region 2 with fail;obtain⟨W2,g5,g6,hW2,hg2,hg3,HE⟩:=Env.al2 HE.out 53 53 (cI i) (cI j);rw[hW2,hg2,hg3];clear hW2 hg2 hg3;replace c:=Env.c5 HE.out;replace dd:=Env.d5 HE.out;go_wp2_with fail;refine(zoJ _ s z t n hn (HE.out.wd.o.2.2.1) (HE.out.wd.o.2.2.2)).mono ?_;rintro e w3 ⟨k,l,rfl,hk,hk',hb⟩;replace HE:=znd (Env.rx HE.out (hk.and hk') hb);replace c:=Env.c5 HE.out;clear hk hk' hb;go_upto_region 3 with fail;obtain⟨W2,g7,g8,hW2,hg2,hg3,HE⟩:=Env.al2 HE.out 53 53 (cI k) (cI l);rw[hW2,hg2,hg3];clear hW2 hg2 hg3;replace c:=Env.c7 HE.out;replace dd:=Env.d7 HE.out;go_wp2_with fail;generalize ptN r x y=X at*;generalize ptD r y=Y at*;generalize ptN s z t=Z at*;generalize ptD s t=T at*
 go_region_held3 (fun W=>CB (g5) (cI i) W/\CB (g6) (cI j) W/\CB (g7) (cI k) W/\CB (g8) (cI l) W) (first|exact⟨c.2.2.2.1,c.2.2.1,c.2.1,c.1⟩|((repeat' apply And.intro)<;>go_keep))
  (first
   |(go_at_call_of 102 ((#[.agg #[.bool i.neg,.slice i.A i.k i.c],.agg #[.bool l.neg,.slice l.A l.k l.c]]:Array Value));go_must (refine(zoD _ i l X T n n (by omega) (by omega) (IntN.ofLt (by first|exact HE.out.wd.n.2.1.1|exact HE.out.wd.n.2.2.1.1|exact HE.out.wd.n.2.2.2.1.1|exact HE.out.wd.n.2.2.2.2.1.1) Hl.out.1) (IntN.ofLt (by first|exact HE.out.wd.n.1.2|exact HE.out.wd.n.2.1.2|exact HE.out.wd.n.2.2.1.2|exact HE.out.wd.n.2.2.2.1.2) Hm.out.2)).mono ?_;rintro e w1 ⟨p,rfl,hk,hb⟩;replace HE:=znd (Env.rx HE.out hk hb);replace c:=Env.c7 HE.out;clear hk hb))
   |(go_at_call_of 102 ((#[.agg #[.bool k.neg,.slice k.A k.k k.c],.agg #[.bool j.neg,.slice j.A j.k j.c]]:Array Value));go_must (refine(zoD _ k j Z Y n n (by omega) (by omega) (IntN.ofLt (by first|exact HE.out.wd.n.1.1|exact HE.out.wd.n.2.1.1|exact HE.out.wd.n.2.2.1.1|exact HE.out.wd.n.2.2.2.1.1) Hm.out.1) (IntN.ofLt (by first|exact HE.out.wd.n.2.1.2|exact HE.out.wd.n.2.2.1.2|exact HE.out.wd.n.2.2.2.1.2|exact HE.out.wd.n.2.2.2.2.1.2) Hl.out.2)).mono ?_;rintro e w2 ⟨o,rfl,hk,hb⟩;replace HE:=znd (Env.rx HE.out hk hb);replace c:=Env.c7 HE.out;clear hk hb))
   |(go_at_call_of 102 ((#[.agg #[.bool j.neg,.slice j.A j.k j.c],.agg #[.bool l.neg,.slice l.A l.k l.c]]:Array Value));go_must (refine(zoD _ j l Y T n n (by omega) (by omega) (IntN.ofLt (by first|exact HE.out.wd.n.2.1.2|exact HE.out.wd.n.2.2.1.2|exact HE.out.wd.n.2.2.2.1.2|exact HE.out.wd.n.2.2.2.2.1.2) Hl.out.2) (IntN.ofLt (by first|exact HE.out.wd.n.1.2|exact HE.out.wd.n.2.1.2|exact HE.out.wd.n.2.2.1.2|exact HE.out.wd.n.2.2.2.1.2) Hm.out.2)).mono ?_;rintro e w3 ⟨u,rfl,hk,hb⟩;replace HE:=znd (Env.rx HE.out hk hb);replace c:=Env.c7 HE.out;clear hk hb))
   |(go_at_call 185;go_must (refine(zpA _ p o (X*T) (Z*Y) (n+n) (n+n) (by omega) (by omega) (IntN.ofLt (by first|exact HE.out.wd.n.1|exact HE.out.wd.n.2.1|exact HE.out.wd.n.2.2.1|exact HE.out.wd.n.2.2.2.1|exact HE.out.wd.n.2.2.2.2.1) (zpg Hl.out.1 Hm.out.2)) (IntN.ofLt (by first|exact HE.out.wd.n.1|exact HE.out.wd.n.2.1|exact HE.out.wd.n.2.2.1|exact HE.out.wd.n.2.2.2.1|exact HE.out.wd.n.2.2.2.2.1) (zpg Hm.out.1 Hl.out.2))).mono ?_;rintro e w4 ⟨v,rfl,hk,hb⟩;replace HE:=znd (Env.rx HE.out hk hb);replace c:=Env.c7 HE.out;clear hk hb))
   |(go_at_call 97;go_must (refine(zp3 _ v u (X*T+Z*Y) (Y*T) (n+n+1) (by omega) (IntN.ofLt (by first|exact HE.out.wd.n.1|exact HE.out.wd.n.2.1|exact HE.out.wd.n.2.2.1|exact HE.out.wd.n.2.2.2.1|exact HE.out.wd.n.2.2.2.2.1) (zvj (zpg Hl.out.1 Hm.out.2) (zpg Hm.out.1 Hl.out.2))) (IntN.ofLt (by first|exact HE.out.wd.n.1|exact HE.out.wd.n.2.1|exact HE.out.wd.n.2.2.1|exact HE.out.wd.n.2.2.2.1|exact HE.out.wd.n.2.2.2.2.1) (ztR (zpg Hl.out.2 Hm.out.2))) (Int.mul_pos Hd.out He.out)).mono ?_;rintro e w5 ⟨q,rfl,hk,hb⟩;replace HE:=znd (Env.rx HE.out hk hb);replace c:=Env.c7 HE.out;clear hk hb)))
 all_goals
  go_wp2_with fail;rw[<-zvq Hd.out He.out];have hE:=HE.out.put4_4 (.bool q.num.neg) (.slice q.num.A q.num.k q.num.c) (.bool q.den.neg) (.slice q.den.A q.den.k q.den.c);replace c:=Env.c7 hE;exact bodyPost_ret (v:=.agg (cR q)) (by simp[results,Tryz.results209,go_sem,c]) rfl (hE.retR' rfl fun _ h=>h.1)

theorem zy4 (a b:Rat):(a-b).num.sign=cmpQ a b:=(zyS a b).symm
end Go.Proofs.YtegfiemlnnpidaaGreatDoor
