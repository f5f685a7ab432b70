/-
 whole: Sign, Cmp, Add, Sub, Of. whole: Of. whole: Sub, DivMod, Cmp. whole: DivMod.
-/
import Derived.Test.YtegfiemlnnpidaaGreatDoorWA
namespace Go.Proofs.YtegfiemlnnpidaaGreatDoor
set_option maxHeartbeats 2000000
open Go.RowKit

theorem zmJ {W:World} {i:IV} {z:Int} {n:Nat} (h:IntD i z n W) (hn:n<=900000000000):∃b:Nat,(b=0↔z=0)/\Calls Tryz.prog 186 #[.slice i.A i.k i.c] W fun e w'=>e=.returned (.int .i64 (b:Int))/\W=w':=by
 obtain⟨l,hk,hr,hx,rfl⟩:=h.ex;have:=h.le;refine⟨bitsN l,?_,by rw[hk];exact zjY W i.A i.c l (by omega) hr hx⟩;rw[zhf hx];unfold iv;split<;>omega
theorem IntD.neg_of {i:IV} {z:Int} {n:Nat} {w:World} (h:IntD i z n w) (h0:z≠0):i.neg=decide (z<0):=by
 obtain⟨l,-,-,-,rfl⟩:=h.ex;unfold iv at*
 cases i.neg<;>simp_all<;>omega

set_option maxRecDepth 100000 in
theorem zau (w:World) (i:IV) (z:Int) (n:Nat) (hn:n<=900000000000) (h:IntD i z n w):
 Calls Tryz.prog 146 #[iA i] w fun e w'=>e=.returned (.int .i64 z.sign)/\Below w.heap.size w w':=by
 obtain⟨b,hb0,hbc⟩:=zmJ (h.old.alloc (.cells (cI i) 53)).now hn;have Hbc:=znd hbc;have Hbel:=znd (Below.of_alloc w (.cells (cI i) 53));by_cases h0:z=0
 ·have hq:((b:Int)==0)=true:=by simp[hb0.2 h0]
  have Hs:=znd (show z.sign=0 by rw[h0];rfl);clear h hbc hb0 h0;unfold iA;go_enter Tryz.func146,Tryz.ntmps146;go_wp2_with fail;refine Hbc.out.mono ?_;rintro e w' ⟨rfl,rfl⟩;go_wp2_with fail;go_ret;rw[Hs.out];exact⟨rfl,Hbel.out⟩
 ·have hq:((b:Int)==0)=false:=by have:b≠0:=fun e=>h0 (hb0.1 e);simp;omega
  have hneg:=h.neg_of h0;clear h hbc hb0;by_cases hz:z<0
  ·have hn':i.neg=true:=by rw[hneg];simp[hz]
   have Hs:=znd (Int.sign_eq_neg_one_of_neg hz);have Hbel':=znd Hbel.out;clear hneg hz h0;unfold iA;go_enter Tryz.func146,Tryz.ntmps146;go_wp2_with fail;refine Calls.mono (by rw[<-hn'];exact Hbc.out) ?_;rintro e w' ⟨rfl,rfl⟩;go_wp2_with fail;go_ret;rw[Hs.out];exact⟨rfl,by rw[<-hn'];exact Hbel.out⟩
  ·have hn':i.neg=false:=by rw[hneg];simp[hz]
   have Hs:=znd (Int.sign_eq_one_of_pos (a:=z) (by omega));clear hneg hz h0;unfold iA;go_enter Tryz.func146,Tryz.ntmps146;go_wp2_with fail;refine Calls.mono (by rw[<-hn'];exact Hbc.out) ?_;rintro e w' ⟨rfl,rfl⟩;go_wp2_with fail;go_ret;rw[Hs.out];exact⟨rfl,by rw[<-hn'];exact Hbel.out⟩

theorem zkM {W:World} {i j:IV} {z y:Int} {n m:Nat} (h:IntD i z n W) (h':IntD j y m W) (hn:n<=900000000000) (hm:m<=900000000000):Calls Tryz.prog 148 #[.slice i.A i.k i.c,.slice j.A j.k j.c] W fun e w'=>e=.returned (.int .i64 (cmpN z.natAbs y.natAbs))/\∃q,w'=W.drewN q:=by
 obtain⟨l,hk,hr,hx,rfl⟩:=h.ex;obtain⟨l',hk',hr',hx',rfl⟩:=h'.ex;have:=h.le;have:=h'.le;rw[hk,hk',zad,zad];exact zdO W i.A j.A i.c j.c l l' (by omega) (by omega) hr hr' hx hx'

theorem zkN {W:World} {B x:Nat} (h:Blk W B 50 (ints .u64 [x])) (hx:x<B64):Calls Tryz.prog 117 #[.slice (some ⟨B,0,none⟩) 1 1] W (RetL .u64 (digs B64 x) W):=by
 have h1:=zgy W (some ⟨B,0,none⟩) 1 [x] (by simp) (Rd.of_blk h);have h2:trim [x]=digs B64 x:=by rw[zb5 (b:=B64) (by decide) (zd2 hx)];simp[val]
 rw[h2]at h1;exact h1

set_option maxRecDepth 100000 in
theorem zl9 (w:World) (z:Int) (h1:-9223372036854775808<=z) (h2:z<=9223372036854775807) (hz:z<0):
 Calls Tryz.prog 138 #[.int .i64 z] w (RetZ z w):=by
 have HBr:=znd ((Blk.new w 53 #[.bool false,.slice none 0 0]).alloc (.cells #[.int .u64 (z.natAbs:Int)] 50));have HB1:=znd (by have:=Blk.new (w.alloc (.cells #[.bool false,.slice none 0 0] 53)) 50 (ints .u64 [z.natAbs]);simpa[ints] using this:Blk ((w.alloc (.cells #[.bool false,.slice none 0 0] 53)).alloc (.cells #[.int .u64 (z.natAbs:Int)] 50)) (w.heap.size+1) 50 (ints .u64 [z.natAbs]));have Hbel:=znd (show Below w.heap.size w ((w.alloc (.cells #[.bool false,.slice none 0 0] 53)).alloc (.cells #[.int .u64 (z.natAbs:Int)] 50))from(Below.of_alloc _ _).alloc (by simp) _);have e1:IntKind.u64.wrap z=((B64-z.natAbs:Nat):Int):=by rw[IntKind.wrap_u64];simp only[B64];omega
 have e2:IntKind.u64.wrap (-((B64-z.natAbs:Nat):Int))=(z.natAbs:Int):=by rw[IntKind.wrap_u64];simp only[B64];omega
 generalize B64-z.natAbs=y at*;have Hz:=znd hz;go_enter Tryz.func138,Tryz.ntmps138;go_wp2_with fail;refine(zkN HB1.out (by simp only[B64]<;>omega)).mono ?_;rintro e w1 ⟨A1,c1,rfl,hc1,hr1,hb1,hf1⟩;have hgl:=HBr.out.lt;replace HBr:=znd (Blk.below (by exact HBr.out) hb1 (by exact HBr.out.lt));obtain⟨sw1HBr0,sw1HBr1⟩:=Blk.c2 HBr.out;obtain⟨fw1HBr0,fw1HBr1⟩:=Blk.f2 HBr.out;replace Hbel:=znd (Below.after (by first|exact Hbel.out|exact Below.drew Hbel.out) hb1);have Hr1:=znd (zam (F:=(w.heap.size+1<=·)) hr1 (fun k hk=>Nat.le_trans hgl (hf1 k hk)));have Hc1:=znd hc1;clear hr1 hc1 hf1 hgl;clear hb1;go_wp2_with fail;refine(zag _ _ _ _ _).mono ?_;rintro e w2 ⟨rfl,hb2⟩;replace HBr:=znd (Blk.below (by exact HBr.out) hb2 (by exact HBr.out.lt));obtain⟨sw2HBr0,sw2HBr1⟩:=Blk.c2 HBr.out;obtain⟨fw2HBr0,fw2HBr1⟩:=Blk.f2 HBr.out;replace Hr1:=znd (Rests.below (φ:=fun W=>Rd W .u64 A1 (digs B64 z.natAbs)) (by first|exact Hr1.out|exact Hr1.out.drew) hb2);replace Hbel:=znd (Below.after (by first|exact Hbel.out|exact Below.drew Hbel.out) hb2);clear hb2;go_wp2_with fail;have hfin:=zbv (z:=z) (nb:=decide (0<(digs B64 z.natAbs).length)) (g:=w.heap.size) (w2:=w2) Hbel.out (by omega) Hr1.out (fun _ hb=>hb) Hc1.out (rfl) (by have h5:=Hz.out;have:=zbs true z.natAbs;rw[Bool.true_and]at this;rw[this,show iv true z.natAbs=z by(simp only[iv,if_true];omega)]);obtain⟨q0,q1⟩:=box2 HBr.out (.bool (decide (0<(digs B64 z.natAbs).length))) (.slice A1 (digs B64 (z.natAbs)).length c1);clear HBr Hbel Hr1;generalize ((w2.setCell ⟨w.heap.size,0,none⟩ (.bool (decide (0<(digs B64 z.natAbs).length)))).setCell ⟨w.heap.size,1,none⟩ (.slice A1 (digs B64 (z.natAbs)).length c1))=W at*;exact bodyPost_ret (v:=.agg #[.bool (decide (0<(digs B64 z.natAbs).length)),.slice A1 (digs B64 (z.natAbs)).length c1]) (by simp[results,Tryz.results138,go_sem,q0,q1]) rfl hfin

set_option maxRecDepth 100000 in
theorem zm4 (w:World) (z:Int) (h1:-9223372036854775808<=z) (h2:z<=9223372036854775807) (hz:0<=z):
 Calls Tryz.prog 138 #[.int .i64 z] w (RetZ z w):=by
 have HBr:=znd ((Blk.new w 53 #[.bool false,.slice none 0 0]).alloc (.cells #[.int .u64 (z.natAbs:Int)] 50));have HB1:=znd (by have:=Blk.new (w.alloc (.cells #[.bool false,.slice none 0 0] 53)) 50 (ints .u64 [z.natAbs]);simpa[ints] using this:Blk ((w.alloc (.cells #[.bool false,.slice none 0 0] 53)).alloc (.cells #[.int .u64 (z.natAbs:Int)] 50)) (w.heap.size+1) 50 (ints .u64 [z.natAbs]));have Hbel:=znd (show Below w.heap.size w ((w.alloc (.cells #[.bool false,.slice none 0 0] 53)).alloc (.cells #[.int .u64 (z.natAbs:Int)] 50))from(Below.of_alloc _ _).alloc (by simp) _);have e1:IntKind.u64.wrap z=(z.natAbs:Int):=by rw[IntKind.wrap_u64];omega
 have hz':¬z<0:=by omega
 have Hz:=znd hz;clear hz;go_enter Tryz.func138,Tryz.ntmps138;go_wp2_with fail;refine(zkN HB1.out (by simp only[B64]<;>omega)).mono ?_;rintro e w1 ⟨A1,c1,rfl,hc1,hr1,hb1,hf1⟩;have hgl:=HBr.out.lt;replace HBr:=znd (Blk.below (by exact HBr.out) hb1 (by exact HBr.out.lt));obtain⟨sw1HBr0,sw1HBr1⟩:=Blk.c2 HBr.out;obtain⟨fw1HBr0,fw1HBr1⟩:=Blk.f2 HBr.out;replace Hbel:=znd (Below.after (by first|exact Hbel.out|exact Below.drew Hbel.out) hb1);have Hr1:=znd (zam (F:=(w.heap.size+1<=·)) hr1 (fun k hk=>Nat.le_trans hgl (hf1 k hk)));have Hc1:=znd hc1;clear hr1 hc1 hf1 hgl;clear hb1;go_wp2_with fail;refine(zag _ _ _ _ _).mono ?_;rintro e w2 ⟨rfl,hb2⟩;replace HBr:=znd (Blk.below (by exact HBr.out) hb2 (by exact HBr.out.lt));obtain⟨sw2HBr0,sw2HBr1⟩:=Blk.c2 HBr.out;obtain⟨fw2HBr0,fw2HBr1⟩:=Blk.f2 HBr.out;replace Hr1:=znd (Rests.below (φ:=fun W=>Rd W .u64 A1 (digs B64 z.natAbs)) (by first|exact Hr1.out|exact Hr1.out.drew) hb2);replace Hbel:=znd (Below.after (by first|exact Hbel.out|exact Below.drew Hbel.out) hb2);clear hb2;go_wp2_with fail;have hfin:=zbv (z:=z) (nb:=false) (g:=w.heap.size) (w2:=w2) Hbel.out (by omega) Hr1.out (fun _ hb=>hb) Hc1.out (rfl) (by have h5:=Hz.out;simp;omega);obtain⟨q0,q1⟩:=box2 HBr.out (.bool (false)) (.slice A1 (digs B64 (z.natAbs)).length c1);clear HBr Hbel Hr1;generalize ((w2.setCell ⟨w.heap.size,0,none⟩ (.bool (false))).setCell ⟨w.heap.size,1,none⟩ (.slice A1 (digs B64 (z.natAbs)).length c1))=W at*;exact bodyPost_ret (v:=.agg #[.bool (false),.slice A1 (digs B64 (z.natAbs)).length c1]) (by simp[results,Tryz.results138,go_sem,q0,q1]) rfl hfin

theorem zeU (w:World) (z:Int) (h1:-9223372036854775808<=z) (h2:z<=9223372036854775807):Calls Tryz.prog 138 #[.int .i64 z] w (RetZ z w):=by
 by_cases hz:z<0
 ·exact zl9 w z h1 h2 hz
 ·exact zm4 w z h1 h2 (by omega)

theorem zeb {a b q r:Int} (hb:b≠0) (h:q*b+r=a) (h0:0<=r) (h1:r<b.natAbs):a/b=q/\a%b=r:=by
 rcases Int.lt_or_gt_of_ne hb with hn|hp
 ·have:=(Int.ediv_emod_unique (a:=a) (b:=-b) (q:=-q) (r:=r) (by omega)).2 ⟨by rw[<-h];simp[Int.mul_neg,Int.mul_comm];omega,h0,by omega⟩;rw[Int.ediv_neg,Int.emod_neg]at this;exact⟨by omega,this.2⟩
 ·exact(Int.ediv_emod_unique (by omega)).2 ⟨by rw[<-h,Int.mul_comm];omega,h0,by omega⟩
theorem zdn {n n':Bool} {v v':Nat} (hv:v'≠0) (hc:n=false\/v%v'=0):iv n v/iv n' v'=iv (!(n==n')) (v/v')/\iv n v%iv n' v'=(v%v':Nat):=by
 have e:=Nat.div_add_mod v v';have hl:=Nat.mod_lt v (Nat.pos_of_ne_zero hv);generalize v/v'=t at*;generalize hr:v%v'=r at*;refine zeb (by unfold iv;cases n'<;>simp<;>omega) ?_ (by omega) (by rw[zad];omega);subst e;unfold iv;rcases hc with rfl|rfl
 ·cases n'<;>simp<;>grind
 ·cases n<;>cases n'<;>simp<;>grind
theorem zjr {n':Bool} {v v':Nat} (hv:v'≠0) (hc:v%v'≠0):iv true v/iv n' v'=iv (!(true==n')) (v/v'+1)/\iv true v%iv n' v'=(v'-v%v':Nat):=by
 have e:=Nat.div_add_mod v v';have hl:=Nat.mod_lt v (Nat.pos_of_ne_zero hv);generalize v/v'=t at*;generalize hr:v%v'=r at*;obtain⟨k,rfl⟩:∃k,v'=r+k:=⟨v'-r,by omega⟩;have e2:r+k-r=k:=by omega
 rw[e2];refine zeb (by unfold iv;cases n'<;>simp<;>omega) ?_ (by omega) (by rw[zad];omega);subst e;unfold iv
 cases n'<;>simp<;>grind

theorem dm_i {W:World} {i j:IV} {z y:Int} {n m:Nat} (h:IntD i z n W) (h':IntD j y m W) (hn:n<=900000000000) (hm:m<=900000000000) (hy:y≠0):
 Calls Tryz.prog 171 #[.slice i.A i.k i.c,.slice j.A j.k j.c] W (zh2 (digs B64 (z.natAbs/y.natAbs)) (digs B64 (z.natAbs%y.natAbs)) W):=by
 obtain⟨l,hk,hr,hx,rfl⟩:=h.ex;obtain⟨l',hk',hr',hx',rfl⟩:=h'.ex;have h1:=h.le;have h2:=h'.le;have h3:=h.cap;have h4:=h'.cap;have h5:val B64 l'≠0:=fun e=>hy (by rw[e];unfold iv;simp);rw[hk,hk',zad,zad];exact zdb W i.A j.A i.c j.c l l' (by omega) (by omega) (by omega) (by omega) hr hr' hx hx' h5
def zi8 (z y:Int) (w:World) (e:Ending) (w':World):Prop:=
 ∃i j:IV,e=.returned (.tuple #[.agg (cI i),.agg (cI j)])/\Rests w' (w.heap.size<=·) (IntN i z)/\Rests w' (w.heap.size<=·) (IntN j y)/\Below w.heap.size w w'
theorem zng (s:Bool) (m:Nat):(s&&decide (0<(digs B64 m).length))=decide (iv s m<0):=by
 unfold iv;by_cases h:m=0
 ·subst h;cases s<;>rfl
 ·rw[decide_eq_true (zas h)]
  cases s<;>simp<;>omega
theorem znk {W:World} {j:IV} {y:Int} {m r c:Nat} {A:Option Addr} (h:IntD j y m W) (hm:m<=900000000000) (h':Rd W .u64 A (digs B64 r)) (hr:r<y.natAbs):Calls Tryz.prog 179 #[.slice j.A j.k j.c,.slice A (digs B64 r).length c] W (RetL .u64 (digs B64 (y.natAbs-r)) W):=by
 obtain⟨l',hk',hr',hx',rfl⟩:=h.ex;have h4:=h.le;rw[zad]at hr;have h7:=zih W j.A A j.c c l' (digs B64 r) (by omega) (Nat.le_trans (zbG (Nat.lt_trans (by rw[zad];exact hr) h.lt)) (by omega)) hr' h' hx' (zbi (by decide) _)
 rwa [zar (by decide),<-hk',<-zad j.neg (val B64 l')]at h7
theorem znj {W:World} {A:Option Addr} {q c g:Nat} (h:Rd W .u64 A (digs B64 q)) (hq:(digs B64 q).length<=900000000000) (h1:Blk W g 50 #[.int .u64 1]):Calls Tryz.prog 178 #[.slice A (digs B64 q).length c,.slice (some ⟨g,0,none⟩) 1 1] W (RetL .u64 (digs B64 (q+1)) W):=by
 have h2:=zik W A (some ⟨g,0,none⟩) c 1 (digs B64 q) [1] (by omega) (by simp) h (Rd.of_blk h1) (zbi (by decide) _) (zd2 (by decide))
 rwa [zar (by decide),show val B64 [1]=1 by simp[val],show[1].length=1 from rfl]at h2
set_option maxRecDepth 100000 in
theorem zdy (w:World) (i j:IV) (z y:Int) (n m:Nat) (hn:n<=900000000000) (hm:m<=900000000000) (h:IntD i z n w) (h':IntD j y m w) (hy:y≠0):
 Calls Tryz.prog 137 #[iA i,iA j] w (zi8 (z/y) (z%y) w):=by
 have hsy:(y.sign==0)=false:=by simpa[Int.sign_eq_zero_iff_zero] using hy
 have HLQ:=znd (show(digs B64 (z.natAbs/y.natAbs)).length<=900000000000 from Nat.le_trans (zbG (Nat.lt_of_le_of_lt (Nat.div_le_self _ _) h.lt)) hn);have HLR:=znd (show z.natAbs%y.natAbs<y.natAbs from Nat.mod_lt _ (by omega))
 have HUP:=znd (show i.neg=true->z.natAbs%y.natAbs≠0->z/y=iv (!(i.neg==j.neg)) (z.natAbs/y.natAbs+1)/\z%y=((y.natAbs-z.natAbs%y.natAbs:Nat):Int)from by
  intro h1 h2;obtain⟨l,-,-,-,rfl⟩:=h.ex;obtain⟨l',-,-,-,rfl⟩:=h'.ex;rw[zad,zad]at*;rw[h1];exact zjr (fun e=>hy (by rw[e];unfold iv;simp)) h2)
 have HPL:=znd (show(i.neg=false\/z.natAbs%y.natAbs=0)->z/y=iv (!(i.neg==j.neg)) (z.natAbs/y.natAbs)/\z%y=((z.natAbs%y.natAbs:Nat):Int)from by
  intro h1;obtain⟨l,-,-,-,rfl⟩:=h.ex;obtain⟨l',-,-,-,rfl⟩:=h'.ex;rw[zad,zad]at*;exact zdn (fun e=>hy (by rw[e];unfold iv;simp)) h1)
 have HY:=znd hy;have HE:=znd (zi7 i j ((h.old).and (h'.old)));have c:=Env.c4 HE.out;have dd:=Env.d4 HE.out;clear h h' hy dd;unfold iA;go_enter Tryz.func137,Tryz.ntmps137;go_wp2_with fail;refine(zau _ j y m hm HE.out.o.2).mono ?_;rintro e w1 ⟨rfl,hb⟩;replace HE:=znd (Env.call HE.out hb);replace c:=Env.c4 HE.out;clear hb;generalize y.sign=sy at hsy⊢;go_wp2_with fail;refine(dm_i HE.out.o.1 HE.out.o.2 hn hm HY.out).mono ?_;rintro e w2 ⟨A1,c1,A2,c2,rfl,hc1,hc2,hr1,hr2,hb,hf1,hf2,-⟩;obtain⟨Q,hQ⟩:∃Q,Q=z.natAbs/y.natAbs:=⟨_,rfl⟩;obtain⟨R,hR⟩:∃R,R=z.natAbs%y.natAbs:=⟨_,rfl⟩;rw[<-hQ]at HLQ HUP HPL hr1 hc1 hf1⊢;rw[<-hR]at HLR HUP HPL hr2 hc2 hf2⊢;clear hQ hR hsy;replace HE:=znd (Env.ret HE.out ((zam hr1 (fun k hk=>hf1 k hk)).and (zam hr2 (fun k hk=>hf2 k hk))) hb);replace c:=Env.c4 HE.out;have HC1:=znd hc1;have HC2:=znd hc2;clear hr1 hr2 hf1 hf2 hb hc1 hc2;by_cases hup:i.neg=true/\R≠0
 ·obtain⟨hng,hR⟩:=hup;have hl0:=zas hR;have HM:=znd (HUP.out hng hR);clear HUP HPL hR;go_wp2_with fail;obtain⟨W3,g,hW,hg,HE2⟩:=Env.al HE.out 50 #[.int .u64 1];rw[hW,hg];clear hW hg HE;have HE:=znd (HE2.out.read);clear HE2;replace c:=Env.c4 HE.out;refine(znj HE.out.n.2.1.1 HLQ.out HE.out.n.1).mono ?_;rintro e w3 ⟨A3,c3,rfl,hc3,hr,hb,hf⟩;replace HE:=znd (Env.ret HE.out (zam hr (fun k hk=>hf k hk)) hb);replace c:=Env.c4 HE.out;have HC3:=znd hc3;clear hr hb hf hc3;go_wp2_with fail;refine(znk HE.out.o.2 hm HE.out.n.2.2.1.2 HLR.out).mono ?_;rintro e w4 ⟨A4,c4,rfl,hc4,hr,hb,hf⟩;replace HE:=znd (Env.ret HE.out (zam hr (fun k hk=>hf k hk)) hb);replace c:=Env.c4 HE.out;have HC4:=znd hc4;clear hr hb hf hc4 hng hl0;replace HE:=znd (HE.out.imp (fun V h=>h) (fun V h=>show Rd V .u64 A3 (digs B64 (Q+1))/\Rd V .u64 A4 (digs B64 (y.natAbs-R))from⟨h.2.1,h.1⟩));go_upto_region 7 with fail;go_wp2_with fail;refine(zag _ _ _ _ _).mono ?_;rintro e w5 ⟨rfl,hb⟩;replace HE:=znd (Env.call HE.out hb);replace c:=Env.c4 HE.out;clear hb;go_wp2_with fail;refine(zag _ _ _ _ _).mono ?_;rintro e w6 ⟨rfl,hb⟩;replace HE:=znd (Env.call HE.out hb);replace c:=Env.c4 HE.out;clear hb;go_wp2_with fail;replace HE:=znd ((HE.out.put2_1 (.bool ((!(i.neg==j.neg))&&decide (0<(digs B64 (Q+1)).length))) (.slice A3 (digs B64 (Q+1)).length c3)).put2 (.bool false) (.slice A4 (digs B64 (y.natAbs-R)).length c4));replace c:=Env.c4 HE.out;exact bodyPost_ret (v:=.tuple #[.agg #[.bool ((!(i.neg==j.neg))&&decide (0<(digs B64 (Q+1)).length)),.slice A3 (digs B64 (Q+1)).length c3],.agg #[.bool false,.slice A4 (digs B64 (y.natAbs-R)).length c4]]) (by simp[results,Tryz.results137,go_sem,c]) rfl ⟨⟨((!(i.neg==j.neg))&&decide (0<(digs B64 (Q+1)).length)),A3,(digs B64 (Q+1)).length,c3⟩,⟨false,A4,(digs B64 (y.natAbs-R)).length,c4⟩,rfl,(HE.out.rsn.imp fun V h=>IntN.of_digs h.1 HC3.out (by rw[HM.out.1];exact zng _ _) (by rw[HM.out.1,zad])).mono fun _ h=>h.1,(HE.out.rsn.imp fun V h=>IntN.of_digs h.2 HC4.out (decide_eq_false (by rw[HM.out.2];omega)).symm (by rw[HM.out.2];rfl)).mono fun _ h=>h.1,HE.out.bel⟩
 ·have hup2:i.neg=false\/R=0:=by
   by_cases h1:i.neg=true
   ·exact .inr (Classical.not_not.1 fun h2=>hup ⟨h1,h2⟩)
   ·exact .inl (by simpa using h1)
  have HM:=znd (HPL.out hup2);clear hup HUP HPL;replace HE:=znd (HE.out.imp (fun V h=>h) (fun V h=>h.1));have h2:i.neg=false\/i.neg=true/\(digs B64 R).length=0:=by
   rcases hup2 with h|h
   ·exact .inl h
   ·by_cases h1:i.neg=true
    ·exact .inr ⟨h1,by rw[h,zbF];rfl⟩
    ·exact .inl (by simpa using h1)
  clear hup2;rcases h2 with hng|⟨hng,hl0⟩
  focus
   go_upto_region 7 with fail;clear hng
  rotate_left
  focus
   have hl1:¬0<(digs B64 R).length:=by omega
   clear hl0;go_upto_region 7 with fail;clear hng hl1
  rotate_left
  all_goals
   go_wp2_with fail;refine(zag _ _ _ _ _).mono ?_;rintro e w5 ⟨rfl,hb⟩;replace HE:=znd (Env.call HE.out hb);replace c:=Env.c4 HE.out;clear hb;go_wp2_with fail;refine(zag _ _ _ _ _).mono ?_;rintro e w6 ⟨rfl,hb⟩;replace HE:=znd (Env.call HE.out hb);replace c:=Env.c4 HE.out;clear hb;go_wp2_with fail;replace HE:=znd ((HE.out.put2_1 (.bool ((!(i.neg==j.neg))&&decide (0<(digs B64 Q).length))) (.slice A1 (digs B64 Q).length c1)).put2 (.bool false) (.slice A2 (digs B64 R).length c2));replace c:=Env.c4 HE.out;exact bodyPost_ret (v:=.tuple #[.agg #[.bool ((!(i.neg==j.neg))&&decide (0<(digs B64 Q).length)),.slice A1 (digs B64 Q).length c1],.agg #[.bool false,.slice A2 (digs B64 R).length c2]]) (by simp[results,Tryz.results137,go_sem,c]) rfl ⟨⟨((!(i.neg==j.neg))&&decide (0<(digs B64 Q).length)),A1,(digs B64 Q).length,c1⟩,⟨false,A2,(digs B64 R).length,c2⟩,rfl,(HE.out.rsn.imp fun V h=>IntN.of_digs h.1 HC1.out (by rw[HM.out.1];exact zng _ _) (by rw[HM.out.1,zad])).mono fun _ h=>h.1,(HE.out.rsn.imp fun V h=>IntN.of_digs h.2 HC2.out (decide_eq_false (by rw[HM.out.2];omega)).symm (by rw[HM.out.2];rfl)).mono fun _ h=>h.1,HE.out.bel⟩
end Go.Proofs.YtegfiemlnnpidaaGreatDoor
