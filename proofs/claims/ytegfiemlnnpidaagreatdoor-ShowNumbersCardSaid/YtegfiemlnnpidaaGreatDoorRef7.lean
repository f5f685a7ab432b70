/-
 tripwireref02: Norm, Neg. tripwireref02: Mul, Gcd. tripwireref02: Mul. tripwireref02: Of, Sign, Add, Sub, Cmp. tripwireref02: DivMod. tripwireref04: Lowest, Make, Of.
-/
import Derived.Test.YtegfiemlnnpidaaGreatDoorRefE
import Derived.Test.YtegfiemlnnpidaaGreatDoorRefG
import Derived.Test.YtegfiemlnnpidaaGreatDoorWE
import Derived.Test.YtegfiemlnnpidaaGreatDoorWA
import Derived.Test.YtegfiemlnnpidaaGreatDoorEM
namespace Go.Proofs.YtegfiemlnnpidaaGreatDoor
set_option maxHeartbeats 2000000
open Go.RowKit

theorem RetI.z {neg:Bool} {v:Nat} {w:World} {e:Ending} {w':World} (h:RetI (sgn neg v) v w e w'):RetZ (iv neg v) w e w':=by
 obtain⟨A,c,he,hc,hr,hb,hf⟩:=h;have ha:(iv neg v).natAbs=v:=zad neg v;refine⟨⟨sgn neg v,A,(digs B64 v).length,c⟩,he,?_,hb⟩;have hs:sgn neg v=decide (iv neg v<0):=by
  unfold sgn iv;by_cases h0:v=0
  ·subst h0;cases neg<;>simp
  ·rw[if_neg h0];cases neg<;>simp<;>omega
 have key:∀W:World,Rd W .u64 A (digs B64 v)->IntN ⟨sgn neg v,A,(digs B64 v).length,c⟩ (iv neg v) W:=fun W hW=>⟨by rw[ha],hc,hs,by rw[ha];exact hW⟩;exact(zam (F:=(w.heap.size<=·)) hr (fun i hi=>hf i hi)).imp key
theorem zqn (w:World) (neg:Bool) (A:Option Addr) (c:Nat) (l:List Nat) (hl:l.length<=1000000) (ha:Rd w .u64 A l) (hx:∀x∈l,x<B64):
 Calls Tryz.prog 151 #[.bool neg,.slice A l.length c] w (RetZ (iv neg (val B64 l)) w):=(zrc w neg A c l hl ha hx).mono fun _ _ h=>h.z
section
variable {w:World} {g:Nat} {a b u0 u1:Value} {t:TypeId}
def put2 (w:World) (g:Nat) (a b:Value):World:=(w.setCell ⟨g,0,none⟩ a).setCell ⟨g,1,none⟩ b
theorem zqQ:(w.setCell ⟨g,0,none⟩ a).setCell ⟨g,1,none⟩ b=put2 w g a b:=rfl
theorem zrY (H:Blk w g t #[u0,u1]):Blk (put2 w g a b) g t #[a,b]:=(H.set_ 0 a).set_ 1 b
theorem zqF (H:Blk w g t #[u0,u1]):(put2 w g a b).cell? ⟨g,0,none⟩=some a:=(zrY H).cell 0
theorem zqT (H:Blk w g t #[u0,u1]):(put2 w g a b).cell? ⟨g,1,none⟩=some b:=(zrY H).cell 1
theorem zq9 {w0:World} {z:Int} {i:IV} (hb:Below w0.heap.size w0 w) (hg:w0.heap.size<=g) (hr:Rests w (g+1<=·) (IntN i z)):RetZ z w0 (.returned (.agg (cI i))) (put2 w g a b):=by
 have n1:¬(g+1<=g):=by omega
 exact⟨i,rfl,((hr.set (a:=⟨g,0,none⟩) n1 a).set (a:=⟨g,1,none⟩) n1 b).mono (fun k hk=>by show w0.heap.size<=k;have:g+1<=k:=hk;omega),(hb.setCell (p:=⟨g,0,none⟩) hg a).setCell (p:=⟨g,1,none⟩) hg b⟩
end

set_option maxRecDepth 100000 in
theorem zoE (w:World) (i:IV) (z:Int) (n:Nat) (hn:n<=1000000) (h:IntD i z n w):
 Calls Tryz.prog 141 #[iA i] w (RetZ z w):=by
 obtain⟨l,hk,hr,hx,hz⟩:=h.ex;have hle:=h.le;have hzz:z=iv i.neg (val B64 l):=hz.symm;rw[hzz];obtain⟨W0,hW0⟩:∃W0,W0=((w.alloc (.cells (cI i) 53)).alloc (.cells #[.bool false,.slice none 0 0] 53)):=⟨_,rfl⟩;obtain⟨p0,p1,pb⟩:=lay2 hW0;have HBa:=znd p0;have HBr:=znd p1;have Hbel:=znd pb
 have HM:=znd (show Calls Tryz.prog 151 (cI i) W0 (RetZ (iv i.neg (val B64 l)) W0)from by
  (try unfold cI)
  rw[hk];exact zqn W0 i.neg i.A i.c l (by omega) (hr.below pb (Nat.le_refl _)) hx)
 clear p0 p1 pb h hk hr hx hz hle hzz;subst hW0;obtain⟨x0,x1⟩:=Blk.c2 HBa.out;unfold iA;go_enter Tryz.func141,Tryz.ntmps141;go_wp2_with fail;refine HM.out.mono ?_;rintro e w1 ⟨j,rfl,hj,hb⟩;have hgl:=HBr.out.lt;replace HBr:=znd (HBr.out.below hb HBr.out.lt);replace Hbel:=znd (Below.after Hbel.out hb);have Hj:=znd (hj.mono (G:=(w.heap.size+1+1<=·)) (fun b hb'=>Nat.le_trans hgl hb'));clear hj hb hgl HM x0 x1;obtain⟨y0,y1⟩:=Blk.c2 HBr.out;obtain⟨f0,f1⟩:=Blk.f2 HBr.out;go_wp2_with fail;rw[zqQ];exact bodyPost_ret (v:=.agg (cI j)) (by simp[results,Tryz.results141,go_sem,zqF HBr.out,zqT HBr.out]) rfl (zq9 Hbel.out (Nat.le_succ _) Hj.out)

set_option maxRecDepth 100000 in
theorem zpc (w:World) (i:IV) (z:Int) (n:Nat) (hn:n<=1000000) (h:IntD i z n w):
 Calls Tryz.prog 143 #[iA i] w (RetZ (-z) w):=by
 obtain⟨l,hk,hr,hx,hz⟩:=h.ex;have hle:=h.le;have hzz:(-z)=iv (!i.neg) (val B64 l):=by rw[<-hz];unfold iv;cases i.neg<;>simp
 rw[hzz];obtain⟨W0,hW0⟩:∃W0,W0=((w.alloc (.cells (cI i) 53)).alloc (.cells #[.bool false,.slice none 0 0] 53)):=⟨_,rfl⟩;obtain⟨p0,p1,pb⟩:=lay2 hW0;have HBa:=znd p0;have HBr:=znd p1;have Hbel:=znd pb
 have HM:=znd (show Calls Tryz.prog 151 #[.bool (!i.neg),.slice i.A i.k i.c] W0 (RetZ (iv (!i.neg) (val B64 l)) W0)from by
  (try unfold cI)
  rw[hk];exact zqn W0 (!i.neg) i.A i.c l (by omega) (hr.below pb (Nat.le_refl _)) hx)
 clear p0 p1 pb h hk hr hx hz hle hzz;subst hW0;obtain⟨x0,x1⟩:=Blk.c2 HBa.out;unfold iA;go_enter Tryz.func143,Tryz.ntmps143;go_wp2_with fail;refine HM.out.mono ?_;rintro e w1 ⟨j,rfl,hj,hb⟩;have hgl:=HBr.out.lt;replace HBr:=znd (HBr.out.below hb HBr.out.lt);replace Hbel:=znd (Below.after Hbel.out hb);have Hj:=znd (hj.mono (G:=(w.heap.size+1+1<=·)) (fun b hb'=>Nat.le_trans hgl hb'));clear hj hb hgl HM x0 x1;obtain⟨y0,y1⟩:=Blk.c2 HBr.out;obtain⟨f0,f1⟩:=Blk.f2 HBr.out;go_wp2_with fail;rw[zqQ];exact bodyPost_ret (v:=.agg (cI j)) (by simp[results,Tryz.results143,go_sem,zqF HBr.out,zqT HBr.out]) rfl (zq9 Hbel.out (Nat.le_succ _) Hj.out)

theorem zvV (p q:Bool) (x y:Nat):iv p x*iv q y=iv (p != q) (x*y):=by
 unfold iv
 cases p<;>cases q<;>simp[Int.neg_mul,Int.mul_neg]
theorem zuq {l m:List Nat} (hx:∀x∈l,x<B64) (hy:∀x∈m,x<B64):(digs B64 (Nat.gcd (val B64 l) (val B64 m))).length<=l.length+m.length:=by
 refine zfw (by decide) ?_;have h1:=zdo hx;have h2:=zdo hy;rw[Nat.pow_add];have p1:0<B64^l.length:=Nat.pow_pos za4;have p2:0<B64^m.length:=Nat.pow_pos za4;by_cases h0:val B64 l=0
 ·rw[h0,Nat.gcd_zero_left];exact Nat.lt_of_lt_of_le h2 (Nat.le_mul_of_pos_left _ p1)
 ·have:=Nat.gcd_le_left (val B64 m) (Nat.pos_of_ne_zero h0);exact Nat.lt_of_lt_of_le (Nat.lt_of_le_of_lt this h1) (Nat.le_mul_of_pos_right _ p2)

set_option maxRecDepth 100000 in
theorem zrt (w:World) (i j:IV) (z y:Int) (n m0:Nat) (hn:n<=10000) (hm0:m0<=10000) (h:IntD i z n w) (h2:IntD j y m0 w):
 Calls Tryz.prog 144 #[iA i,iA j] w (RetZ ((Nat.gcd z.natAbs y.natAbs:Nat):Int) w):=by
 obtain⟨l,hk,hr,hx,hz⟩:=h.ex;obtain⟨m,hk2,hr2,hx2,hy⟩:=h2.ex;have hle:=h.le;have hle2:=h2.le;have hzz:((Nat.gcd z.natAbs y.natAbs:Nat):Int)=iv false (Nat.gcd (val B64 l) (val B64 m)):=by rw[<-hz,<-hy,zad,zad];rfl
 have hlen:(digs B64 (Nat.gcd (val B64 l) (val B64 m))).length<=1000000:=by
  have:(digs B64 (Nat.gcd (val B64 l) (val B64 m))).length<=l.length+m.length:=zuq hx hx2;omega
 rw[hzz];obtain⟨W0,hW0⟩:∃W0,W0=(((w.alloc (.cells (cI i) 53)).alloc (.cells (cI j) 53)).alloc (.cells #[.bool false,.slice none 0 0] 53)):=⟨_,rfl⟩;obtain⟨p0,p1,p2,pb⟩:=lay3 hW0;have HBa:=znd p0;have HBb:=znd p1;have HBr:=znd p2;have Hbel:=znd pb
 have HG:=znd (show Calls Tryz.prog 183 #[.slice i.A i.k i.c,.slice j.A j.k j.c] W0 (RetL .u64 (digs B64 (Nat.gcd (val B64 l) (val B64 m))) W0)from by
  (try unfold cI)
  rw[hk,hk2];exact zsE W0 i.A j.A i.c j.c 10000 (by omega) l m (by omega) (by omega) (hr.below pb (Nat.le_refl _)) (hr2.below pb (Nat.le_refl _)) hx hx2)
 have Hlen:=znd hlen;have HV:=znd (zar (by decide:1<B64) (Nat.gcd (val B64 l) (val B64 m)));have HX:=znd (zbi (by decide:1<B64) (Nat.gcd (val B64 l) (val B64 m)));clear p0 p1 p2 pb h hk hr hx hz hle hzz h2 hk2 hr2 hx2 hy hle2 hlen;subst hW0;obtain⟨x0,x1⟩:=Blk.c2 HBa.out;obtain⟨y0,y1⟩:=Blk.c2 HBb.out;unfold iA;go_enter Tryz.func144,Tryz.ntmps144;go_wp2_with fail;refine HG.out.mono ?_;rintro e w1 ⟨A,c,rfl,hcp,hrd,hb,hf⟩;have HM:=znd (zqn w1 false A c _ Hlen.out hrd HX.out);rw[HV.out]at HM;have hga:=HBa.out.lt;have hgb:=HBb.out.lt;have hgr:=HBr.out.lt;replace HBa:=znd (HBa.out.below hb hga);replace HBb:=znd (HBb.out.below hb hgb);replace HBr:=znd (HBr.out.below hb hgr);replace Hbel:=znd (Below.after Hbel.out hb);have Hs:=znd (Nat.le_trans hgr hb.size);clear hb hf hrd hcp hga hgb hgr HG x0 x1 y0 y1 HX HV Hlen;obtain⟨x0,x1⟩:=Blk.c2 HBa.out;obtain⟨y0,y1⟩:=Blk.c2 HBb.out;go_wp2_with fail;refine HM.out.mono ?_;rintro e w2 ⟨k,rfl,hj,hb⟩;have hgl:=HBr.out.lt;replace HBr:=znd (HBr.out.below hb hgl);replace Hbel:=znd (Below.after Hbel.out hb);have Hj:=znd (hj.mono (G:=(w.heap.size+1+1+1<=·)) (fun b hb'=>Nat.le_trans hgl hb'));clear hj hb hgl HM x0 x1 y0 y1 HBa HBb Hs;obtain⟨y0,y1⟩:=Blk.c2 HBr.out;obtain⟨f0,f1⟩:=Blk.f2 HBr.out;go_wp2_with fail;rw[zqQ];exact bodyPost_ret (v:=.agg (cI k)) (by simp[results,Tryz.results144,go_sem,zqF HBr.out,zqT HBr.out]) rfl (zq9 Hbel.out (by omega) Hj.out)

set_option maxRecDepth 100000 in
theorem zoD (w:World) (i j:IV) (z y:Int) (n m0:Nat) (hn:n<=500000) (hm0:m0<=500000) (h:IntD i z n w) (h2:IntD j y m0 w):
 Calls Tryz.prog 102 #[iA i,iA j] w (RetZ (z*y) w):=by
 obtain⟨l,hk,hr,hx,hz⟩:=h.ex;obtain⟨m,hk2,hr2,hx2,hy⟩:=h2.ex;have hle:=h.le;have hle2:=h2.le;have hzz:(z*y)=iv (i.neg != j.neg) (val B64 l*val B64 m):=by rw[<-hz,<-hy,zvV]
 have hlen:(digs B64 (val B64 l*val B64 m)).length<=1000000:=by
  have:(digs B64 (val B64 l*val B64 m)).length<=l.length+m.length:=zfw (n:=l.length+m.length) (by decide) (by rw[Nat.pow_add];exact Nat.mul_lt_mul_of_lt_of_le (zdo hx) (Nat.le_of_lt (zdo hx2)) (Nat.pow_pos za4));omega
 rw[hzz];obtain⟨W0,hW0⟩:∃W0,W0=(((w.alloc (.cells (cI i) 53)).alloc (.cells (cI j) 53)).alloc (.cells #[.bool false,.slice none 0 0] 53)):=⟨_,rfl⟩;obtain⟨p0,p1,p2,pb⟩:=lay3 hW0;have HBa:=znd p0;have HBb:=znd p1;have HBr:=znd p2;have Hbel:=znd pb
 have HG:=znd (show∀W:World,Rd W .u64 i.A l->Rd W .u64 j.A m->Calls Tryz.prog 152 #[.slice i.A i.k i.c,.slice j.A j.k j.c] W (RetL .u64 (digs B64 (val B64 l*val B64 m)) W)from by
  intro W q1 q2;(try unfold cI)
  rw[hk,hk2];exact ztj W i.A j.A i.c j.c l m (by omega) (by omega) q1 q2 hx hx2)
 have HM:=znd (show∀(W:World) (A:Option Addr) (c:Nat),Rd W .u64 A (digs B64 (val B64 l*val B64 m))->Calls Tryz.prog 151 #[.bool (i.neg != j.neg),.slice A (digs B64 (val B64 l*val B64 m)).length c] W (RetZ (iv (i.neg != j.neg) (val B64 l*val B64 m)) W)from by
  intro W A c q;have:=zqn W (i.neg != j.neg) A c _ hlen q (zbi (by decide:1<B64) (val B64 l*val B64 m))
  rwa [zar (by decide:1<B64) (val B64 l*val B64 m)]at this)
 have q1:=hr.below pb (Nat.le_refl _);have q2:=hr2.below pb (Nat.le_refl _);have Hr:=znd (zam (F:=(·<W0.heap.size)) q1 (fun k hk=>q1.lt k hk));have Hr2:=znd (zam (F:=(·<W0.heap.size)) q2 (fun k hk=>q2.lt k hk));clear p0 p1 p2 pb h hk hr hx hz hle hzz h2 hk2 hr2 hx2 hy hle2 hlen q1 q2;subst hW0;obtain⟨x0,x1⟩:=Blk.c2 HBa.out;obtain⟨y0,y1⟩:=Blk.c2 HBb.out;obtain⟨f0,f1⟩:=Blk.f2 HBr.out;have ne01:w.heap.size≠w.heap.size+1:=by omega
 have ne02:w.heap.size≠w.heap.size+1+1:=by omega
 have ne10:w.heap.size+1≠w.heap.size:=by omega
 have ne12:w.heap.size+1≠w.heap.size+1+1:=by omega
 have ne20:w.heap.size+1+1≠w.heap.size:=by omega
 have ne21:w.heap.size+1+1≠w.heap.size+1:=by omega
 unfold iA;go_enter Tryz.func102,Tryz.ntmps102;go_wp2_with fail
 go_region_held3 (fun W=>W.cell? ⟨w.heap.size,0,none⟩=some (.bool i.neg)/\W.cell? ⟨w.heap.size,1,none⟩=some (.slice i.A i.k i.c)/\W.cell? ⟨w.heap.size+1,0,none⟩=some (.bool j.neg)/\W.cell? ⟨w.heap.size+1,1,none⟩=some (.slice j.A j.k j.c)) (go_keep)
  (first
   |(go_at_call 152;go_must (refine(HG.out _ (by first|exact Hr.out.now|exact Hr.out.drew.now) (by first|exact Hr2.out.now|exact Hr2.out.drew.now)).mono ?_;rintro e w4 ⟨A,c,rfl,hcp,hrd,hb,hf⟩;have hl_w4:=HBr.out.lt;replace HBa:=znd (Blk.below (by exact HBa.out) hb (by exact HBa.out.lt));replace HBb:=znd (Blk.below (by exact HBb.out) hb (by exact HBb.out.lt));replace HBr:=znd (Blk.below (by exact HBr.out) hb (by exact HBr.out.lt));have sw4a:w4.cell? ⟨w.heap.size+1+1,0,none⟩=some (.bool false):=HBr.out.cell 0;have sw4b:w4.cell? ⟨w.heap.size+1+1,1,none⟩=some (.slice none 0 0):=HBr.out.cell 1;have sw40:w4.cell? ⟨w.heap.size,0,none⟩=some (.bool i.neg):=HBa.out.cell 0;have sw41:w4.cell? ⟨w.heap.size,1,none⟩=some (.slice i.A i.k i.c):=HBa.out.cell 1;have sw42:w4.cell? ⟨w.heap.size+1,0,none⟩=some (.bool j.neg):=HBb.out.cell 0;have sw43:w4.cell? ⟨w.heap.size+1,1,none⟩=some (.slice j.A j.k j.c):=HBb.out.cell 1;have sw44:w4.frozen? ⟨w.heap.size+1+1,0,none⟩=false:=HBr.out.frozen 0;have sw45:w4.frozen? ⟨w.heap.size+1+1,1,none⟩=false:=HBr.out.frozen 1;replace Hbel:=znd (Below.after (by first|exact Hbel.out|exact Below.drew Hbel.out) hb);have Hrd:=znd (zam (F:=(·<w4.heap.size)) hrd (fun k hk=>hrd.lt k hk));clear hb hf hcp hrd hl_w4))
   |(go_at_call 151;go_must (refine(HM.out _ A c (by first|exact Hrd.out.now|exact Hrd.out.drew.now)).mono ?_;rintro e w5 ⟨k,rfl,hj,hb⟩;have hl_w5:=HBr.out.lt;replace HBa:=znd (Blk.below (by exact HBa.out) hb (by exact HBa.out.lt));replace HBb:=znd (Blk.below (by exact HBb.out) hb (by exact HBb.out.lt));replace HBr:=znd (Blk.below (by exact HBr.out) hb (by exact HBr.out.lt));have sw5a:w5.cell? ⟨w.heap.size+1+1,0,none⟩=some (.bool false):=HBr.out.cell 0;have sw5b:w5.cell? ⟨w.heap.size+1+1,1,none⟩=some (.slice none 0 0):=HBr.out.cell 1;have sw50:w5.cell? ⟨w.heap.size,0,none⟩=some (.bool i.neg):=HBa.out.cell 0;have sw51:w5.cell? ⟨w.heap.size,1,none⟩=some (.slice i.A i.k i.c):=HBa.out.cell 1;have sw52:w5.cell? ⟨w.heap.size+1,0,none⟩=some (.bool j.neg):=HBb.out.cell 0;have sw53:w5.cell? ⟨w.heap.size+1,1,none⟩=some (.slice j.A j.k j.c):=HBb.out.cell 1;have sw54:w5.frozen? ⟨w.heap.size+1+1,0,none⟩=false:=HBr.out.frozen 0;have sw55:w5.frozen? ⟨w.heap.size+1+1,1,none⟩=false:=HBr.out.frozen 1;replace Hbel:=znd (Below.after (by first|exact Hbel.out|exact Below.drew Hbel.out) hb);have Hj:=znd (hj.mono (G:=(w.heap.size+1+1+1<=·)) (fun b hb'=>Nat.le_trans hl_w5 hb'));clear hj hb hl_w5)))
 go_wp2_with fail;have hr5:=HBr.out;rw[zqQ];exact bodyPost_ret (v:=.agg (cI k)) (by simp[results,Tryz.results102,go_sem,zqF hr5,zqT hr5]) rfl (zq9 Hbel.out (by omega) Hj.out)

theorem zty {W:World} {i:IV} {z:Int} {n:Nat} (h:IntD i z n W) (hn:n<=1000000):Calls Tryz.prog 182 #[.slice i.A i.k i.c] W fun e w'=>∃b:Nat,e=.returned (.int .i64 b)/\(b=0↔z=0)/\Below W.heap.size W w':=by
 obtain⟨l,hk,hr,hx,rfl⟩:=h.ex;have:=h.le;(try unfold cI)
 rw[hk];refine(zrE W i.A i.c l (by omega) hr hx).mono ?_;rintro e w' ⟨b,rfl,hb,hB⟩;refine⟨b,rfl,?_,hB⟩;rw[hb];unfold iv;split<;>omega
theorem zvp {z:Int} {b:Nat} (hb:b=0↔z=0):z.sign=if((b:Int)==0)=true then 0 else if z<0 then -1 else 1:=by
 by_cases h:z=0
 ·rw[if_pos (by simp[hb.2 h]),h];rfl
 ·rw[if_neg (by have:=mt hb.1 h;simp;omega)]
  split
  ·exact Int.sign_eq_neg_one_of_neg (by omega)
  ·exact Int.sign_eq_one_of_pos (by omega)
set_option maxRecDepth 100000 in
theorem zov (w:World) (i:IV) (z:Int) (n:Nat) (hn:n<=1000000) (h:IntD i z n w):
 Calls Tryz.prog 142 #[iA i] w fun e w'=>e=.returned (.int .i64 z.sign)/\Below w.heap.size w w':=by
 have HE:=znd (lyI i (h.old));have c:=Env.c1 HE.out;have Hn:=znd (fun h0=>h.neg_of h0);clear h;unfold iA;go_enter Tryz.func142,Tryz.ntmps142;go_wp2_with fail;refine(zty (HE.out.wd.o) hn).mono ?_;rintro e w1 ⟨b,rfl,hb0,hb⟩;replace HE:=znd (Env.cx HE.out hb);replace c:=Env.c1 HE.out;have Hs:=znd (zvp hb0);by_cases h0:z=0
 ·have hq:((b:Int)==0)=true:=by simp[hb0.2 h0]
  clear hb hb0 h0 Hn;go_wp2_with fail;go_ret;exact⟨by rw[Hs.out,if_pos hq];rfl,HE.out.bel⟩
 ·have hq:((b:Int)==0)=false:=by have:=mt hb0.1 h0;simp;omega
  have hneg:=Hn.out h0;by_cases hz:z<0
  ·have hn':i.neg=true:=by rw[hneg];simp[hz]
   clear hb hb0 h0 Hn hneg;go_wp2_with fail;go_ret;exact⟨by rw[Hs.out,if_neg (by simp[hq]),if_pos hz];rfl,HE.out.bel⟩
  ·have hn':i.neg=false:=by rw[hneg];simp[hz]
   clear hb hb0 h0 Hn hneg;go_wp2_with fail;go_ret;exact⟨by rw[Hs.out,if_neg (by simp[hq]),if_neg (by omega)];rfl,HE.out.bel⟩
theorem ztt {a b:Int} {n m:Nat} (ha:a.natAbs<B64^n) (hb:b.natAbs<B64^m):(a-b).natAbs<B64^(n+m+1):=by
 have h1:B64^n<=B64^(n+m):=Nat.pow_le_pow_right za4 (by omega);have h2:B64^m<=B64^(n+m):=Nat.pow_le_pow_right za4 (by omega);have h3:2*B64^(n+m)<=B64^(n+m+1):=by
  rw[Nat.pow_succ,Nat.mul_comm];exact Nat.mul_le_mul_left _ (by decide)
 generalize B64^(n+m)=X at*;generalize B64^(n+m+1)=Y at*;omega
theorem zuZ {a b:Int} {n m:Nat} (ha:a.natAbs<B64^n) (hb:b.natAbs<B64^m):(a+b).natAbs<B64^(n+m+1):=by
 have:=ztt (b:=-b) ha (by rw[Int.natAbs_neg];exact hb)
 rwa [show a- -b=a+b by omega]at this
theorem zvS {p q:IV} {z y:Int} {w:World} (hp:IntN p z w) (_hq:IntN q y w):(p.neg==q.neg)=decide (z<0↔y<0)/\iv p.neg z.natAbs=z/\iv q.neg y.natAbs=y:=by
 rw[hp.neg,_hq.neg];refine⟨?_,zmE z,zmE y⟩;by_cases h:z<0<;>by_cases h':y<0<;>simp[h,h']
theorem zuD {W:World} {p q:IV} {z y:Int} {n m:Nat} (h:IntN p z W) (h':IntN q y W) (hz:z.natAbs<B64^n) (hy:y.natAbs<B64^m) (hn:n<=1000000) (hm:m<=1000000):
 Calls Tryz.prog 193 #[.slice p.A p.k p.c,.slice q.A q.k q.c] W (RetL .u64 (digs B64 (z.natAbs+y.natAbs)) W):=by
 have:=zqS W p.A q.A p.c q.c _ _ (Nat.le_trans (zbG hz) hn) (Nat.le_trans (zbG hy) hm) h.rd h'.rd (zbi (by decide) _) (zbi (by decide) _)
 rwa [zar (by decide),zar (by decide),<-h.k,<-h'.k]at this
theorem zs0 {W:World} {p q:IV} {z y:Int} {n m:Nat} (h:IntN p z W) (h':IntN q y W) (hz:z.natAbs<B64^n) (hy:y.natAbs<B64^m) (hn:n<=1000000) (hm:m<=1000000):
 Calls Tryz.prog 219 #[.slice p.A p.k p.c,.slice q.A q.k q.c] W (RetL .u64 (digs B64 (z.natAbs-y.natAbs)) W):=by
 have:=zpV W p.A q.A p.c q.c _ _ (Nat.le_trans (zbG hz) hn) (Nat.le_trans (zbG hy) hm) h.rd h'.rd (zbi (by decide) _) (zbi (by decide) _)
 rwa [zar (by decide),zar (by decide),<-h.k,<-h'.k]at this
theorem zuh {W:World} {p q:IV} {z y:Int} {n m:Nat} (h:IntN p z W) (h':IntN q y W) (hz:z.natAbs<B64^n) (hy:y.natAbs<B64^m) (hn:n<=1000000) (hm:m<=1000000):
 Calls Tryz.prog 218 #[.slice p.A p.k p.c,.slice q.A q.k q.c] W fun e w'=>e=.returned (.int .i64 (cmpN z.natAbs y.natAbs))/\Below W.heap.size W w':=by
 have:=zq0 W p.A q.A p.c q.c _ _ (Nat.le_trans (zbG hz) hn) (Nat.le_trans (zbG hy) hm) h.rd h'.rd (zbi (by decide) _) (zbi (by decide) _)
 rwa [zar (by decide),zar (by decide),<-h.k,<-h'.k]at this
theorem zpK {W:World} {A:Option Addr} {c v n:Nat} {neg:Bool} (h:Rd W .u64 A (digs B64 v)) (hv:v<B64^n) (hn:n<=1000000):
 Calls Tryz.prog 151 #[.bool neg,.slice A (digs B64 v).length c] W (RetZ (iv neg v) W):=by
 have:=zqn W neg A c _ (Nat.le_trans (zbG hv) hn) h (zbi (by decide) v)
 rwa [zar (by decide)]at this
set_option maxRecDepth 100000 in
theorem zt6 (w:World) (m:Nat) (h2:m<=9223372036854775807):
 Calls Tryz.prog 134 #[.int .i64 (m:Nat)] w (RetZ (m:Nat) w):=by
 have HE:=znd (lyO (Rests.pure trivial w _));have c:=Env.c1 HE.out;go_enter Tryz.func134,Tryz.ntmps134;go_wp2_with fail
 skip
 have HE2:=znd (HE.out.new_ (g:=w.heap.size+1) (by simp) 50 #[.int .u64 (m:Nat)]);have hB:=HE2.out.bx _ (List.mem_cons_self ..);have hR:=Rd.of_blk (k:=.u64) (l:=[m]) hB;refine(zqn _ false (some ⟨w.heap.size+1,0,none⟩) 1 [m] (by simp) hR (by intro x hx;simp at hx;subst hx;simp only[B64];omega)).mono ?_;rintro e w1 ⟨k,rfl,hk,hb⟩;clear hB hR HE;have HE:=znd (Env.ret HE2.out hk hb);clear hk hb HE2;replace c:=Env.c2 HE.out;go_wp2_with fail;replace HE:=znd (Env.put2_1 HE.out (.bool k.neg) (.slice k.A k.k k.c));replace c:=Env.c2 HE.out;exact bodyPost_ret (v:=.agg (cI k)) (by simp[results,Tryz.results134,go_sem,c]) rfl ((HE.out.perm (List.Perm.swap ..)).retZ fun _ h=>by simpa[iv,val] using h.1)
set_option maxRecDepth 100000 in
theorem zve (w:World) (m:Nat) (h2:m<=9223372036854775807):
 Calls Tryz.prog 134 #[.int .i64 (-((m:Nat)+1:Int))] w (RetZ (-((m:Nat)+1:Int)) w):=by
 have HE:=znd (lyO (Rests.pure trivial w _));have c:=Env.c1 HE.out;go_enter Tryz.func134,Tryz.ntmps134;go_wp2_with fail;rw[show(-(-((m:Int)+1)+1)+1)=((m+1:Nat):Int) by omega];have HE2:=znd (HE.out.new_ (g:=w.heap.size+1) (by simp) 50 #[.int .u64 ((m+1:Nat):Int)]);have hB:=HE2.out.bx _ (List.mem_cons_self ..);have hR:=Rd.of_blk (k:=.u64) (l:=[m+1]) hB;refine(zqn _ true (some ⟨w.heap.size+1,0,none⟩) 1 [m+1] (by simp) hR (by intro x hx;simp at hx;subst hx;simp only[B64];omega)).mono ?_;rintro e w1 ⟨k,rfl,hk,hb⟩;clear hB hR HE;have HE:=znd (Env.ret HE2.out hk hb);clear hk hb HE2;replace c:=Env.c2 HE.out;go_wp2_with fail;replace HE:=znd (Env.put2_1 HE.out (.bool k.neg) (.slice k.A k.k k.c));replace c:=Env.c2 HE.out;exact bodyPost_ret (v:=.agg (cI k)) (by simp[results,Tryz.results134,go_sem,c]) rfl ((HE.out.perm (List.Perm.swap ..)).retZ fun _ h=>by simpa[iv,val] using h.1)
theorem zoY (w:World) (z:Int) (h1:-9223372036854775808<=z) (h2:z<=9223372036854775807):Calls Tryz.prog 134 #[.int .i64 z] w (RetZ z w):=by
 rcases Int.le_total 0 z with h|h
 ·obtain⟨m,rfl⟩:=Int.eq_ofNat_of_zero_le h;exact zt6 w m (by omega)
 ·by_cases h0:z=0
  ·subst h0;exact zt6 w 0 (by omega)
  ·obtain⟨m,hm⟩:=Int.eq_ofNat_of_zero_le (show 0<=-(z+1) by omega);obtain rfl:z=-((m:Nat)+1:Int):=by omega
   exact zve w m (by omega)
theorem zrq {a b:Nat} {n m:Nat} (ha:a<B64^n) (hb:b<B64^m):a+b<B64^(n+m+1):=by
 have:=zuZ (a:=(a:Int)) (b:=(b:Int)) (by simpa using ha) (by simpa using hb);omega
theorem zvH {z y:Int} {p q:Bool} (hz:iv p z.natAbs=z) (hy:iv q y.natAbs=y) (hb:(p==q)=true):z+y=iv p (z.natAbs+y.natAbs):=by
 unfold iv at*;cases p<;>cases q<;>simp at*<;>omega
theorem zvI {z y:Int} {p q:Bool} (hz:iv p z.natAbs=z) (hq:(p==q)=decide (z<0↔y<0)) (hs:¬(z<0↔y<0)) (hc:y.natAbs<=z.natAbs):z+y=iv p (z.natAbs-y.natAbs):=by
 unfold iv at*;cases p<;>simp at*<;>omega
theorem zvs {z y:Int} {p q:Bool} (hz:iv p z.natAbs=z) (hy:iv q y.natAbs=y) (hq:(p==q)=decide (z<0↔y<0)) (hs:¬(z<0↔y<0)) (hc:¬y.natAbs<=z.natAbs):z+y=iv q (y.natAbs-z.natAbs):=by
 unfold iv at*;cases p<;>cases q<;>simp[hs]at*<;>omega
set_option maxRecDepth 100000 in
theorem zpA (w:World) (i j:IV) (z y:Int) (n m:Nat) (hn:n<=400000) (hm:m<=400000) (h:IntD i z n w) (h2:IntD j y m w):
 Calls Tryz.prog 185 #[iA i,iA j] w (RetZ (z+y) w):=by
 have HE:=znd (zmx i j ((h.old).and (h2.old)));have c:=Env.c3 HE.out;have d:=Env.d3 HE.out;have Hlz:=znd h.lt;have Hly:=znd h2.lt;clear h h2;unfold iA;go_enter Tryz.func185,Tryz.ntmps185;go_wp2_with fail;refine(zoE _ i z n (by omega) (HE.out.wd.o.1)).mono ?_;rintro e w1 ⟨p,rfl,hk,hb⟩;replace HE:=znd (Env.rx HE.out hk hb);replace c:=Env.c3 HE.out;clear hk hb;go_wp2_with fail;obtain⟨W1,hW1,HE⟩:=Env.st2_2 HE.out (.bool p.neg) (.slice p.A p.k p.c);rw[hW1];clear hW1;replace c:=Env.c3 HE.out;refine(zoE _ j y m (by omega) (HE.out.wd.o.2)).mono ?_;rintro e w2 ⟨q,rfl,hk,hb⟩;replace HE:=znd (Env.rx HE.out hk hb);replace c:=Env.c3 HE.out;clear hk hb;obtain⟨hq,hiv,hjv⟩:=zvS (by first|exact HE.out.n.2.1) (HE.out.wd.n.1);have Hiv:=znd hiv;have Hjv:=znd hjv;clear hiv hjv;by_cases hs:(z<0↔y<0)
 ·have hb:(p.neg==q.neg)=true:=by rw[hq];exact decide_eq_true hs
  have Hz:=znd (show z+y=iv p.neg (z.natAbs+y.natAbs)from zvH Hiv.out Hjv.out hb);have Hv:=znd (show z.natAbs+y.natAbs<B64^(n+m+1)from zrq Hlz.out Hly.out);clear hq hs;go_wp2_with fail;obtain⟨W2,hW2,HE⟩:=Env.st2_1 HE.out (.bool q.neg) (.slice q.A q.k q.c);(try rw[hW2])
  clear hW2;replace c:=Env.c3 HE.out
  go_region_held3 (fun W=>CB (w.heap.size+1) (cI q) W/\CB (w.heap.size) (cI p) W) (first|exact⟨c.2.1,c.2.2⟩|((repeat' apply And.intro)<;>go_keep))
   (first
    |(go_at_call 193;go_must (refine(zuD (HE.out.wd.n.2.1) (HE.out.wd.n.1) Hlz.out Hly.out (by omega) (by omega)).mono ?_;rintro e w3 ⟨Al,cl,rfl,hcp,hrd,hb,hf⟩;replace HE:=znd (Env.rx HE.out (zam hrd (fun k hk=>hf k hk)) hb);replace c:=Env.c3 HE.out;have Hcl:=znd hcp;clear hcp hrd hb hf))
    |(go_at_call 151;go_must (refine(zpK (n:=n+m+1) (HE.out.wd.n.1) Hv.out (by omega)).mono ?_;rintro e w4 ⟨r,rfl,hk,hb⟩;replace HE:=znd (Env.rx HE.out hk hb);replace c:=Env.c3 HE.out;clear hk hb)))
  go_wp2_with fail;replace HE:=znd (Env.put2 (HE.out.wd) (.bool r.neg) (.slice r.A r.k r.c));replace c:=Env.c3 HE.out;rw[show z+y=iv p.neg (z.natAbs+y.natAbs)from Hz.out];exact bodyPost_ret (v:=.agg (cI r)) (by simp[results,Tryz.results185,go_sem,c]) rfl (HE.out.retZ fun _ h=>h.1)
 ·have hb:(p.neg==q.neg)=false:=by rw[hq];exact decide_eq_false hs
  go_wp2_with fail;obtain⟨W2,hW2,HE⟩:=Env.st2_1 HE.out (.bool q.neg) (.slice q.A q.k q.c);(try rw[hW2])
  clear hW2;replace c:=Env.c3 HE.out;refine(zuh (HE.out.wd.n.2.1) (HE.out.wd.n.1) Hlz.out Hly.out (by omega) (by omega)).mono ?_;rintro e w4 ⟨rfl,hb4⟩;replace HE:=znd (Env.cx HE.out hb4);replace c:=Env.c3 HE.out;clear hb4;by_cases hc:y.natAbs<=z.natAbs
  ·have h0:0<=cmpN z.natAbs y.natAbs:=by unfold cmpN;split<;>(try split)<;>omega
   have Hz:=znd (show z+y=iv p.neg (z.natAbs-y.natAbs)from zvI Hiv.out hq hs hc);have Hv:=znd (show z.natAbs-y.natAbs<B64^(n+m+1)from Nat.lt_of_le_of_lt (by omega) (zrq Hlz.out Hly.out));clear hq hs hc;go_wp2_with fail
   go_region_held3 (fun W=>CB (w.heap.size+1) (cI q) W/\CB (w.heap.size) (cI p) W) (first|exact⟨c.2.1,c.2.2⟩|((repeat' apply And.intro)<;>go_keep))
    (first
     |(go_at_call 219;go_must (refine(zs0 (HE.out.wd.n.2.1) (HE.out.wd.n.1) Hlz.out Hly.out (by omega) (by omega)).mono ?_;rintro e w5 ⟨Al,cl,rfl,hcp,hrd,hb,hf⟩;replace HE:=znd (Env.rx HE.out (zam hrd (fun k hk=>hf k hk)) hb);replace c:=Env.c3 HE.out;have Hcl:=znd hcp;clear hcp hrd hb hf))
     |(go_at_call 151;go_must (refine(zpK (n:=n+m+1) (HE.out.wd.n.1) Hv.out (by omega)).mono ?_;rintro e w6 ⟨r,rfl,hk,hb⟩;replace HE:=znd (Env.rx HE.out hk hb);replace c:=Env.c3 HE.out;clear hk hb)))
   go_wp2_with fail;replace HE:=znd (Env.put2 (HE.out.wd) (.bool r.neg) (.slice r.A r.k r.c));replace c:=Env.c3 HE.out;rw[show z+y=iv p.neg (z.natAbs-y.natAbs)from Hz.out];exact bodyPost_ret (v:=.agg (cI r)) (by simp[results,Tryz.results185,go_sem,c]) rfl (HE.out.retZ fun _ h=>h.1)
  ·have h0:cmpN z.natAbs y.natAbs<0:=by unfold cmpN;split<;>(try split)<;>omega
   have Hz:=znd (show z+y=iv q.neg (y.natAbs-z.natAbs)from zvs Hiv.out Hjv.out hq hs hc);have Hv:=znd (show y.natAbs-z.natAbs<B64^(n+m+1)from Nat.lt_of_le_of_lt (by omega) (zrq Hlz.out Hly.out));clear hq hs hc;go_wp2_with fail
   go_region_held3 (fun W=>CB (w.heap.size+1) (cI q) W/\CB (w.heap.size) (cI p) W) (first|exact⟨c.2.1,c.2.2⟩|((repeat' apply And.intro)<;>go_keep))
    (first
     |(go_at_call 219;go_must (refine(zs0 (HE.out.wd.n.1) (HE.out.wd.n.2.1) Hly.out Hlz.out (by omega) (by omega)).mono ?_;rintro e w7 ⟨Al,cl,rfl,hcp,hrd,hb,hf⟩;replace HE:=znd (Env.rx HE.out (zam hrd (fun k hk=>hf k hk)) hb);replace c:=Env.c3 HE.out;have Hcl:=znd hcp;clear hcp hrd hb hf))
     |(go_at_call 151;go_must (refine(zpK (n:=n+m+1) (HE.out.wd.n.1) Hv.out (by omega)).mono ?_;rintro e w8 ⟨r,rfl,hk,hb⟩;replace HE:=znd (Env.rx HE.out hk hb);replace c:=Env.c3 HE.out;clear hk hb)))
   go_wp2_with fail;replace HE:=znd (Env.put2 (HE.out.wd) (.bool r.neg) (.slice r.A r.k r.c));replace c:=Env.c3 HE.out;rw[show z+y=iv q.neg (y.natAbs-z.natAbs)from Hz.out];exact bodyPost_ret (v:=.agg (cI r)) (by simp[results,Tryz.results185,go_sem,c]) rfl (HE.out.retZ fun _ h=>h.1)
set_option maxRecDepth 100000 in
theorem zp6 (w:World) (i j:IV) (z y:Int) (n m:Nat) (hn:n<=400000) (hm:m<=400000) (h:IntD i z n w) (h2:IntD j y m w):
 Calls Tryz.prog 150 #[iA i,iA j] w (RetZ (z-y) w):=by
 have HE:=znd (zmx i j ((h.old).and (h2.old)));have c:=Env.c3 HE.out;have d:=Env.d3 HE.out;have Hly:=znd h2.lt;clear h h2;unfold iA;go_enter Tryz.func150,Tryz.ntmps150;go_wp2_with fail
 go_region_held3 (fun W=>CB (w.heap.size) (cI i) W/\CB (w.heap.size+1) (cI j) W) (first|exact⟨c.2.2,c.2.1⟩|((repeat' apply And.intro)<;>go_keep))
  (first
   |(go_at_call 143;go_must (refine(zpc _ j y m (by omega) (HE.out.wd.o.2)).mono ?_;rintro e w1 ⟨k,rfl,hk,hb⟩;replace HE:=znd (Env.rx HE.out hk hb);replace c:=Env.c3 HE.out;clear hk hb))
   |(go_at_call 185;go_must (refine(zpA _ i k z (-y) n m hn hm (HE.out.wd.o.1) (IntN.ofLt (HE.out.wd.n.1) (by rw[Int.natAbs_neg];exact Hly.out))).mono ?_;rintro e w2 ⟨l,rfl,hk,hb⟩;replace HE:=znd (Env.rx HE.out hk hb);replace c:=Env.c3 HE.out;clear hk hb)))
 go_wp2_with fail;replace HE:=znd (Env.put2 (HE.out.wd) (.bool l.neg) (.slice l.A l.k l.c));replace c:=Env.c3 HE.out;rw[show z-y=z+ -y by omega];exact bodyPost_ret (v:=.agg (cI l)) (by simp[results,Tryz.results150,go_sem,c]) rfl (HE.out.retZ fun _ h=>h.1)
set_option maxRecDepth 100000 in
theorem zqt (w:World) (i j:IV) (z y:Int) (n m:Nat) (hn:n<=400000) (hm:m<=400000) (h:IntD i z n w) (h2:IntD j y m w):
 Calls Tryz.prog 101 #[iA i,iA j] w fun e w'=>e=.returned (.int .i64 (z-y).sign)/\Below w.heap.size w w':=by
 have HE:=znd (lyII i j ((h.old).and (h2.old)));have c:=Env.c2 HE.out;have d:=Env.d2 HE.out;have Hz:=znd h.lt;have Hy:=znd h2.lt;clear h h2;unfold iA;go_enter Tryz.func101,Tryz.ntmps101;go_wp2_with fail;refine(zp6 _ i j z y n m hn hm (HE.out.wd.o.1) (HE.out.wd.o.2)).mono ?_;rintro e w1 ⟨l,rfl,hk,hb⟩;replace HE:=znd (Env.rx HE.out hk hb);replace c:=Env.c2 HE.out;clear hk hb;go_wp2_with fail;refine(zov _ l (z-y) (n+m+1) (by omega) (IntN.ofLt (HE.out.wd.n.1) (ztt Hz.out Hy.out))).mono ?_;rintro e w2 ⟨rfl,hb⟩;replace HE:=znd (Env.cx HE.out hb);replace c:=Env.c2 HE.out;clear hb;go_wp2_with fail;go_ret;exact⟨rfl,HE.out.bel⟩

theorem ztX {W:World} {i j:IV} {z y:Int} {n m:Nat} (h:IntD i z n W) (h':IntD j y m W) (hn:n<=1000000) (hm:m<=1000000) (hy0:y≠0):
 Calls Tryz.prog 184 #[.slice i.A i.k i.c,.slice j.A j.k j.c] W (zvU (digs B64 (z.natAbs/y.natAbs)) (digs B64 (z.natAbs%y.natAbs)) W):=by
 obtain⟨l,hk,hr,hx,rfl⟩:=h.ex;obtain⟨l',hk',hr',hx',rfl⟩:=h'.ex;have:=h.le;have:=h'.le;rw[hk,hk',zad,zad];exact zsw W i.A j.A i.c j.c l l' (by omega) (by omega) hr hr' hx hx' (by unfold iv at hy0;split at hy0<;>omega)
theorem zvX {i j:IV} {z y:Int} {n m:Nat} {W:World} (h:IntD i z n W) (h':IntD j y m W):z=iv i.neg z.natAbs/\y=iv j.neg y.natAbs:=by
 obtain⟨l,-,-,-,rfl⟩:=h.ex;obtain⟨l',-,-,-,rfl⟩:=h'.ex;rw[zad,zad];exact⟨rfl,rfl⟩
theorem zs4 {p q:Bool} {z y:Int} (hz:z=iv p z.natAbs) (hy:y=iv q y.natAbs) (hy0:y≠0):(z-iv (!(p==q)) (z.natAbs/y.natAbs)*y).natAbs<y.natAbs/\(iv (!(p==q)) (z.natAbs/y.natAbs)).natAbs<=z.natAbs:=by
 refine⟨?_,by rw[zad];exact Nat.div_le_self _ _⟩;have h1:=Nat.div_add_mod z.natAbs y.natAbs;have h2:=Nat.mod_lt z.natAbs (show 0<y.natAbs by omega);generalize z.natAbs=a at*;generalize hb:y.natAbs=b at*;generalize hk:a/b=k at*;have h3:z-iv (!(p==q)) k*y=iv p (a%b):=by
  rw[hz,hy];have h4:(a:Int)=(k:Int)*b+(a%b:Nat):=by rw[Int.mul_comm];exact_mod_cast h1.symm
  unfold iv;clear hz hy h1 h2 hk;generalize (a%b:Nat)=t at*;rw[h4]
  cases p<;>cases q<;>simp[Int.neg_mul,Int.mul_neg]<;>omega
 rw[h3,zad];exact h2
theorem zuB {z y q r:Int} (hr:r=z-q*y) (h0:0<=r) (h1:r.natAbs<y.natAbs):q=z/y/\r=z%y:=by
 have hy:y≠0:=by intro e;subst e;simp at h1
 rcases Int.lt_or_gt_of_ne hy with hy|hy
 ·have h:=(Int.ediv_emod_unique (a:=z) (b:=-y) (r:=r) (q:=-q) (by omega)).2 ⟨by rw[hr,Int.neg_mul_neg,Int.mul_comm y q];omega,h0,by omega⟩;rw[Int.ediv_neg,Int.emod_neg]at h;exact⟨by omega,h.2.symm⟩
 ·have h:=(Int.ediv_emod_unique (a:=z) (b:=y) (r:=r) (q:=q) hy).2 ⟨by rw[hr,Int.mul_comm y q];omega,h0,by omega⟩;exact⟨h.1.symm,h.2.symm⟩
theorem zqO {x:Int} {n k:Nat} (h:x.natAbs<B64^n) (z:Int) (hz:z.natAbs<=x.natAbs+1) (hk:n+1<=k):z.natAbs<B64^k:=by
 have h1:B64^(n+1)<=B64^k:=Nat.pow_le_pow_right za4 hk;have h3:2*B64^n<=B64^(n+1):=by rw[Nat.pow_succ,Nat.mul_comm];exact Nat.mul_le_mul_left _ (by decide)
 have h4:0<B64^n:=Nat.pow_pos za4;omega
theorem zpg {x y:Int} {n m:Nat} (h:x.natAbs<B64^n) (h':y.natAbs<B64^m):(x*y).natAbs<B64^(n+m):=by
 rw[Int.natAbs_mul,Nat.pow_add];exact Nat.mul_lt_mul_of_lt_of_le h (Nat.le_of_lt h') (Nat.pow_pos za4)
structure DmI (z y q r:Int):Prop where
 eq:r=z-q*y
 lt:r.natAbs<y.natAbs
 le:q.natAbs<=z.natAbs+1
 one:r<0->q.natAbs<=z.natAbs
theorem DmI.up {z y q r:Int} (h:DmI z y q r) (h0:r<0) (hy:0<y):DmI z y (q-1) (z-(q-1)*y)/\¬z-(q-1)*y<0:=by
 have e:=h.eq;have l:=h.lt;have o:=h.one h0;have e2:z-(q-1)*y=r+y:=by rw[e,Int.sub_mul];omega
 exact⟨⟨rfl,by omega,by omega,by omega⟩,by omega⟩
theorem DmI.down {z y q r:Int} (h:DmI z y q r) (h0:r<0) (hy:¬0<y):DmI z y (q+1) (z-(q+1)*y)/\¬z-(q+1)*y<0:=by
 have e:=h.eq;have l:=h.lt;have o:=h.one h0;have e2:z-(q+1)*y=r-y:=by rw[e,Int.add_mul];omega
 exact⟨⟨rfl,by omega,by omega,by omega⟩,by omega⟩
theorem Env.retZ2 {w W:World} {bs:List Bo} {old new:World->Prop} {i j:IV} {z y:Int} (h:Env w bs old new W) (hn:∀V,new V->IntN i z V) (hm:∀V,new V->IntN j y V):
 zi8 z y w (.returned (.tuple #[.agg (cI i),.agg (cI j)])) W:=
 ⟨i,j,rfl,(h.rsn.imp hn).mono fun _ h=>h.1,(h.rsn.imp hm).mono fun _ h=>h.1,h.bel⟩
set_option maxRecDepth 100000 in
theorem zpH (w:World) (i j:IV) (z y:Int) (n m:Nat) (hn:n<=10000) (hm:m<=10000) (h:IntD i z n w) (h2:IntD j y m w) (hy0:y≠0):
 Calls Tryz.prog 145 #[iA i,iA j] w (zi8 (z/y) (z%y) w):=by
 have HE:=znd (zi7 i j ((h.old).and (h2.old)));have c:=Env.c4 HE.out;have dd:=Env.d4 HE.out;have Hlz:=znd h.lt;have Hly:=znd h2.lt;obtain⟨hz1,hy1⟩:=zvX h h2;have HF:=znd (zs4 hz1 hy1 hy0);have hs:(y.sign==0)=false:=by simpa[Int.sign_eq_zero_iff_zero] using hy0
 have Hy0:=znd hy0;clear h h2 hz1 hy1 hy0;unfold iA;go_enter Tryz.func145,Tryz.ntmps145;go_wp2_with fail;refine(zov _ j y m (by omega) (HE.out.wd.o.2)).mono ?_;rintro e w1 ⟨rfl,hb⟩;replace HE:=znd (Env.cx HE.out hb);replace c:=Env.c4 HE.out;clear hb;go_wp2_with fail;refine(ztX (HE.out.wd.o.1) (HE.out.wd.o.2) (by omega) (by omega) Hy0.out).mono ?_;rintro e w2 ⟨A,c1,A',c1',rfl,hc1,hc1',hr1,hr1',hb,hf,hf'⟩;replace HE:=znd (Env.rx HE.out (zam hr1 (fun k hk=>hf k hk)) hb);replace c:=Env.c4 HE.out;clear hb hr1 hr1' hc1' hf hf' hc1;go_wp2_with fail;refine(zpK (n:=n) (HE.out.wd.n.1) (Nat.lt_of_le_of_lt (Nat.div_le_self _ _) Hlz.out) (by omega)).mono ?_;rintro e w3 ⟨k,rfl,hk,hb⟩;replace HE:=znd (Env.rx HE.out hk hb);replace c:=Env.c4 HE.out;clear hb hk;generalize iv (!(i.neg==j.neg)) (z.natAbs/y.natAbs)=q0 at*;go_upto_region 5 with fail;obtain⟨W3,gq,hW3,hgq,HE⟩:=Env.al HE.out 53 (cI k);rw[hW3,hgq];clear hW3 hgq;replace c:=Env.c5 HE.out;replace dd:=Env.d5 HE.out;have Hdm:=znd (show DmI z y q0 (z-q0*y)from⟨rfl,HF.out.1,Nat.le_succ_of_le HF.out.2,fun _=>HF.out.2⟩);have Hq:=znd (Nat.lt_of_le_of_lt HF.out.2 Hlz.out);go_cut [9] (fun v wx=>∃gr kq kr q r,DmI z y q r/\v=.pointer (some ⟨gr,0,none⟩)/\Hid (Env w [⟨gr,53,(cI kr)⟩,⟨gq,53,(cI kq)⟩,⟨w.heap.size+1+1+1,53,#[.bool false,.slice none 0 0]⟩,⟨w.heap.size+1+1,53,#[.bool false,.slice none 0 0]⟩,⟨w.heap.size+1,53,(cI j)⟩,⟨w.heap.size,53,(cI i)⟩] (fun V=>IntD i z n V/\IntD j y m V) (fun V=>IntN kr r V/\IntN kq q V) wx))
 case first=>
  go_region_held3 (fun W=>CB (w.heap.size) (cI i) W/\CB (w.heap.size+1) (cI j) W/\CB (gq) (cI k) W) (first|exact⟨c.2.2.2.2,c.2.2.2.1,c.1⟩|exact⟨c.2.2.2.2.2,c.2.2.2.2.1,c.2.1⟩|exact⟨(Env.c5 (HE.out.other _)).2.2.2.2,(Env.c5 (HE.out.other _)).2.2.2.1,(Env.c5 (HE.out.other _)).1⟩|exact⟨(Env.c5 (HE.out.drew.other _)).2.2.2.2,(Env.c5 (HE.out.drew.other _)).2.2.2.1,(Env.c5 (HE.out.drew.other _)).1⟩|exact⟨(Env.c6 (HE.out.put2 _ _)).2.2.2.2.2,(Env.c6 (HE.out.put2 _ _)).2.2.2.2.1,(Env.c6 (HE.out.put2 _ _)).2.1⟩|exact⟨(Env.c6 (HE.out.drew.put2 _ _)).2.2.2.2.2,(Env.c6 (HE.out.drew.put2 _ _)).2.2.2.2.1,(Env.c6 (HE.out.drew.put2 _ _)).2.1⟩|((repeat' apply And.intro)<;>go_keep))
   (first
    |(go_at_call 102;go_must (refine(zoD _ k j q0 y n m (by omega) (by omega) (IntN.ofLt (by first|exact HE.out.wd.n.1|exact(HE.out.nn _ _).n.1|exact(HE.out.nn _ _).drew.n.1|exact(HE.out.nd_ _ _).n.1) Hq.out) (by first|exact HE.out.wd.o.2|exact(HE.out.nn _ _).o.2|exact(HE.out.nn _ _).drew.o.2|exact(HE.out.nd_ _ _).o.2)).mono ?_;rintro e w2 ⟨k1,rfl,hk,hb⟩;replace HE:=znd (Env.ret (by first|exact HE.out.wd|exact HE.out.nn _ _|exact HE.out.nd_ _ _|exact(HE.out.nn _ _).drew) hk hb);(first|(replace c:=Env.c5 HE.out)|(replace c:=Env.c6 HE.out));clear hk hb))
    |(go_at_call 150;go_must (refine(zp6 _ i k1 z (q0*y) n (n+m) (by omega) (by omega) (by first|exact HE.out.wd.o.1|exact(HE.out.nn _ _).o.1|exact(HE.out.nn _ _).drew.o.1|exact(HE.out.nd_ _ _).o.1) (IntN.ofLt (by first|exact HE.out.wd.n.1|exact(HE.out.nn _ _).n.1|exact(HE.out.nn _ _).drew.n.1|exact(HE.out.nd_ _ _).n.1) (zpg Hq.out Hly.out))).mono ?_;rintro e w3 ⟨k2,rfl,hk,hb⟩;replace HE:=znd (Env.ret (by first|exact HE.out.wd|exact HE.out.nn _ _|exact HE.out.nd_ _ _|exact(HE.out.nn _ _).drew) hk hb);(first|(replace c:=Env.c5 HE.out)|(replace c:=Env.c6 HE.out));clear hk hb)))
  all_goals
   go_wp2_with fail
   go_meet
   exact⟨_,k,k2,q0,_,Hdm.out,rfl,znd (by first|exact(HE.out.wd.put2 _ _).imp (fun _ h=>h) (fun _ h=>⟨h.1,h.2.2.1⟩)|exact(HE.out.nn _ _).imp (fun _ h=>h) (fun _ h=>⟨h.1,h.2.2.1⟩)|exact(HE.out.nd_ _ _).imp (fun _ h=>h) (fun _ h=>⟨h.1,h.2.2.1⟩))⟩
 case rest=>
  clear HE c dd Hdm Hq HF;obtain⟨gr,kq,kr,q,r,hdm,rfl,HE⟩:=hcut;have dd:=Env.d6 HE.out;go_wp2_with fail
  go_loopg [] (if r<0 then 1 else 0) (fun gk wr=>∃kq kr q r,DmI z y q r/\gk=(if r<0 then 1 else 0)/\Hid (Env w [⟨gr,53,(cI kr)⟩,⟨gq,53,(cI kq)⟩,⟨w.heap.size+1+1+1,53,#[.bool false,.slice none 0 0]⟩,⟨w.heap.size+1+1,53,#[.bool false,.slice none 0 0]⟩,⟨w.heap.size+1,53,(cI j)⟩,⟨w.heap.size,53,(cI i)⟩] (fun V=>IntD i z n V/\IntD j y m V) (fun V=>IntN kr r V/\IntN kq q V) wr))
  case atStart=>exact⟨kq,kr,q,r,hdm,rfl,HE⟩
  case round=>
   clear HE hdm kq kr q r;obtain⟨kq,kr,q,r,hdm,hgk,HE⟩:=hrel;have c:=Env.c6 HE.out;have Hdm:=znd hdm;clear hdm;by_cases h0:r<0
   ·have hsg:r.sign<0:=by rw[Int.sign_eq_neg_one_of_neg h0];decide
    have Hh0:=znd h0;rw[if_pos h0]at hgk;subst hgk;clear h0;go_wp2_with fail;refine(zov _ kr r m (by omega) (IntN.ofLt (HE.out.wd.n.1) (Nat.lt_trans Hdm.out.lt Hly.out))).mono ?_;rintro e w4 ⟨rfl,hb⟩;replace HE:=znd (Env.cx HE.out hb);replace c:=Env.c6 HE.out;clear hb;go_wp2_with fail;refine(zov _ j y m (by omega) (HE.out.wd.o.2)).mono ?_;rintro e w5 ⟨rfl,hb⟩;replace HE:=znd (Env.cx HE.out hb);replace c:=Env.c6 HE.out;clear hb;by_cases hy:0<y
    ·have hsy:0<y.sign:=by rw[Int.sign_eq_one_of_pos hy];decide
     obtain⟨hn1,hn2⟩:=Hdm.out.up Hh0.out hy;have HD:=znd hn1;have HN:=znd hn2;clear hn1 hn2;generalize hqq:q-1=q' at HD HN;have Hqq:=znd hqq;clear hqq;have Hq':=znd (zqO (k:=n+1) Hlz.out q' HD.out.le (Nat.le_refl _));have Hq:=znd (zqO (k:=n+1) Hlz.out q Hdm.out.le (Nat.le_refl _));go_upto_region 8 with fail;clear hy;go_cut [] (fun wx=>∃k',Hid (Env w [⟨gr,53,(cI kr)⟩,⟨gq,53,(cI k')⟩,⟨w.heap.size+1+1+1,53,#[.bool false,.slice none 0 0]⟩,⟨w.heap.size+1+1,53,#[.bool false,.slice none 0 0]⟩,⟨w.heap.size+1,53,(cI j)⟩,⟨w.heap.size,53,(cI i)⟩] (fun V=>IntD i z n V/\IntD j y m V) (fun V=>IntN k' q' V) wx))
     case first=>
      go_region_with (first
       |(go_at_call 134;go_must (refine(zoY _ 1 (by decide) (by decide)).mono ?_;rintro e w6 ⟨k3,rfl,hk,hb⟩;replace HE:=znd (Env.rx HE.out hk hb);replace c:=Env.c6 HE.out;clear hk hb))
       |(go_at_call 150;go_must (refine(zp6 _ kq k3 q 1 (n+1) 1 (by omega) (by omega) (IntN.ofLt (by first|exact HE.out.wd.n.2.2|exact HE.out.wd.n.2) Hq.out) (IntN.ofLt (HE.out.wd.n.1) (by decide))).mono ?_;rintro e w7 ⟨k4,rfl,hk,hb⟩;replace HE:=znd (Env.rx HE.out hk hb);replace c:=Env.c6 HE.out;clear hk hb)))
      all_goals
       go_wp2_with fail
       go_meet
       exact⟨k4,znd (by rw[<-Hqq.out];first|exact(HE.out.put2_1 _ _).imp (fun _ h=>h) (fun _ h=>h.1)|exact(HE.out.drew.put2_1 _ _).imp (fun _ h=>h) (fun _ h=>h.1))⟩
     case rest=>
      clear HE c Hq;obtain⟨k',HE⟩:=hcut;have c:=Env.c6 HE.out;go_wp2_with fail
      go_region_held3 (fun W=>CB (w.heap.size) (cI i) W/\CB (w.heap.size+1) (cI j) W/\CB (gq) (cI k') W) (first|exact⟨c.2.2.2.2.2,c.2.2.2.2.1,c.2.1⟩|((repeat' apply And.intro)<;>go_keep))
       (first
        |(go_at_call 102;go_must (refine(zoD _ k' j q' y (n+1) m (by omega) (by omega) (IntN.ofLt (HE.out.wd.n) Hq'.out) (HE.out.wd.o.2)).mono ?_;rintro e w8 ⟨k5,rfl,hk,hb⟩;replace HE:=znd (Env.rx HE.out hk hb);replace c:=Env.c6 HE.out;clear hk hb))
        |(go_at_call 150;go_must (refine(zp6 _ i k5 z (q'*y) n (n+1+m) (by omega) (by omega) (HE.out.wd.o.1) (IntN.ofLt (HE.out.wd.n.1) (zpg Hq'.out Hly.out))).mono ?_;rintro e w9 ⟨k6,rfl,hk,hb⟩;replace HE:=znd (Env.rx HE.out hk hb);replace c:=Env.c6 HE.out;clear hk hb)))
      go_wp2_with fail
      go_roundg 0
      case measure=>omega
      case rel=>exact⟨k',k6,q',z-q'*y,HD.out,by rw[if_neg (by have:=HN.out;omega)],znd ((HE.out.wd.put2 _ _).imp (fun _ h=>h) (fun _ h=>⟨h.1,h.2.2⟩))⟩
    ·have hsy:(0<y.sign)=False:=by rw[Int.sign_eq_neg_one_of_neg (by have:=Hy0.out;omega)];decide
     obtain⟨hn1,hn2⟩:=Hdm.out.down Hh0.out hy;have HD:=znd hn1;have HN:=znd hn2;clear hn1 hn2;generalize hqq:q+1=q' at HD HN;have Hqq:=znd hqq;clear hqq;have Hq':=znd (zqO (k:=n+1) Hlz.out q' HD.out.le (Nat.le_refl _));have Hq:=znd (zqO (k:=n+1) Hlz.out q Hdm.out.le (Nat.le_refl _));go_upto_region 9 with fail;clear hy;go_cut [] (fun wx=>∃k',Hid (Env w [⟨gr,53,(cI kr)⟩,⟨gq,53,(cI k')⟩,⟨w.heap.size+1+1+1,53,#[.bool false,.slice none 0 0]⟩,⟨w.heap.size+1+1,53,#[.bool false,.slice none 0 0]⟩,⟨w.heap.size+1,53,(cI j)⟩,⟨w.heap.size,53,(cI i)⟩] (fun V=>IntD i z n V/\IntD j y m V) (fun V=>IntN k' q' V) wx))
     case first=>
      go_region_with (first
       |(go_at_call 134;go_must (refine(zoY _ 1 (by decide) (by decide)).mono ?_;rintro e w10 ⟨k3,rfl,hk,hb⟩;replace HE:=znd (Env.rx HE.out hk hb);replace c:=Env.c6 HE.out;clear hk hb))
       |(go_at_call 185;go_must (refine(zpA _ kq k3 q 1 (n+1) 1 (by omega) (by omega) (IntN.ofLt (by first|exact HE.out.wd.n.2.2|exact HE.out.wd.n.2) Hq.out) (IntN.ofLt (HE.out.wd.n.1) (by decide))).mono ?_;rintro e w11 ⟨k4,rfl,hk,hb⟩;replace HE:=znd (Env.rx HE.out hk hb);replace c:=Env.c6 HE.out;clear hk hb)))
      all_goals
       go_wp2_with fail
       go_meet
       exact⟨k4,znd (by rw[<-Hqq.out];first|exact(HE.out.put2_1 _ _).imp (fun _ h=>h) (fun _ h=>h.1)|exact(HE.out.drew.put2_1 _ _).imp (fun _ h=>h) (fun _ h=>h.1))⟩
     case rest=>
      clear HE c Hq;obtain⟨k',HE⟩:=hcut;have c:=Env.c6 HE.out;go_wp2_with fail
      go_region_held3 (fun W=>CB (w.heap.size) (cI i) W/\CB (w.heap.size+1) (cI j) W/\CB (gq) (cI k') W) (first|exact⟨c.2.2.2.2.2,c.2.2.2.2.1,c.2.1⟩|((repeat' apply And.intro)<;>go_keep))
       (first
        |(go_at_call 102;go_must (refine(zoD _ k' j q' y (n+1) m (by omega) (by omega) (IntN.ofLt (HE.out.wd.n) Hq'.out) (HE.out.wd.o.2)).mono ?_;rintro e w12 ⟨k5,rfl,hk,hb⟩;replace HE:=znd (Env.rx HE.out hk hb);replace c:=Env.c6 HE.out;clear hk hb))
        |(go_at_call 150;go_must (refine(zp6 _ i k5 z (q'*y) n (n+1+m) (by omega) (by omega) (HE.out.wd.o.1) (IntN.ofLt (HE.out.wd.n.1) (zpg Hq'.out Hly.out))).mono ?_;rintro e w13 ⟨k6,rfl,hk,hb⟩;replace HE:=znd (Env.rx HE.out hk hb);replace c:=Env.c6 HE.out;clear hk hb)))
      go_wp2_with fail
      go_roundg 0
      case measure=>omega
      case rel=>exact⟨k',k6,q',z-q'*y,HD.out,by rw[if_neg (by have:=HN.out;omega)],znd ((HE.out.wd.put2 _ _).imp (fun _ h=>h) (fun _ h=>⟨h.1,h.2.2⟩))⟩
   ·have hsg:¬r.sign<0:=by rw[Int.sign_neg_iff];exact h0
    obtain⟨rfl,rfl⟩:=zuB Hdm.out.eq (by omega) Hdm.out.lt;clear hgk;go_wp2_with fail;refine(zov _ kr (z%y) m (by omega) (IntN.ofLt (HE.out.wd.n.1) (Nat.lt_trans Hdm.out.lt Hly.out))).mono ?_;rintro e w14 ⟨rfl,hb⟩;replace HE:=znd (Env.cx HE.out hb);replace c:=Env.c6 HE.out;clear hb;go_wp2_with fail
    go_region_held3 (fun W=>CB (gq) (cI kq) W/\CB (gr) (cI kr) W) (first|exact⟨c.2.1,c.1⟩|((repeat' apply And.intro)<;>go_keep)) (fail)
    all_goals
     go_wp2_with fail
     first
     |(have hE:=((HE.out.put2_3 (.bool kq.neg) (.slice kq.A kq.k kq.c)).put2_2 (.bool kr.neg) (.slice kr.A kr.k kr.c)).drew;replace c:=Env.c6 hE;exact bodyPost_ret (v:=.tuple #[.agg (cI kq),.agg (cI kr)]) (by simp[results,Tryz.results145,go_sem,c]) rfl (hE.retZ2 (fun _ h=>h.2) fun _ h=>h.1))
     |(have hE:=(HE.out.put2_3 (.bool kq.neg) (.slice kq.A kq.k kq.c)).put2_2 (.bool kr.neg) (.slice kr.A kr.k kr.c);replace c:=Env.c6 hE;exact bodyPost_ret (v:=.tuple #[.agg (cI kq),.agg (cI kr)]) (by simp[results,Tryz.results145,go_sem,c]) rfl (hE.retZ2 (fun _ h=>h.2) fun _ h=>h.1))
     |(have hE:=((HE.out.put2_2 (.bool kr.neg) (.slice kr.A kr.k kr.c)).put2_3 (.bool kq.neg) (.slice kq.A kq.k kq.c)).drew;replace c:=Env.c6 hE;exact bodyPost_ret (v:=.tuple #[.agg (cI kq),.agg (cI kr)]) (by simp[results,Tryz.results145,go_sem,c]) rfl (hE.retZ2 (fun _ h=>h.2) fun _ h=>h.1))
     |(have hE:=(HE.out.put2_2 (.bool kr.neg) (.slice kr.A kr.k kr.c)).put2_3 (.bool kq.neg) (.slice kq.A kq.k kq.c);replace c:=Env.c6 hE;exact bodyPost_ret (v:=.tuple #[.agg (cI kq),.agg (cI kr)]) (by simp[results,Tryz.results145,go_sem,c]) rfl (hE.retZ2 (fun _ h=>h.2) fun _ h=>h.1))

theorem Env.retR {w W:World} {bs:List Bo} {old new:World->Prop} {g:Nat} {t:TypeId} {r:RV} {q:Rat}
 (h:Env w (⟨g,t,(cR r)⟩::bs) old new W) (hn:∀V,new V->RatN r q V):
 RetR q w (.returned (.agg (cR r))) W:=
 ⟨r,rfl,(h.rsn.imp hn).mono fun _ h=>h.1,h.bel⟩
theorem lowN {x d:Int} (hd:0<d) {V:World} {k l:IV} (h:IntN k (x/((Nat.gcd x.natAbs d.natAbs:Nat):Int)) V) (h':IntN l (d/((Nat.gcd x.natAbs d.natAbs:Nat):Int)) V) (h1:d/((Nat.gcd x.natAbs d.natAbs:Nat):Int)≠1):RatN ⟨k,l⟩ (Rat.divInt x d) V:=by
 obtain⟨e1,e2⟩:=zfY (x:=x) hd;refine⟨by rw[e1];exact h,?_⟩;unfold dn;rw[if_neg (by intro e;rw[e]at e2;omega),e2];exact h'
theorem zw1 {x d:Int} (hd:0<d) {V:World} {k:IV} (h:IntN k (x/((Nat.gcd x.natAbs d.natAbs:Nat):Int)) V) (h1:d/((Nat.gcd x.natAbs d.natAbs:Nat):Int)=1):RatN ⟨k,⟨false,none,0,0⟩⟩ (Rat.divInt x d) V:=by
 obtain⟨e1,e2⟩:=zfY (x:=x) hd;refine⟨by rw[e1];exact h,?_⟩;unfold dn;rw[if_pos (by omega)];exact zd9 V
theorem zvW {x d:Int} {n:Nat} (hd:0<d) (h:d.natAbs<B64^n):(((Nat.gcd x.natAbs d.natAbs:Nat):Int)).natAbs<B64^n/\((Nat.gcd x.natAbs d.natAbs:Nat):Int)≠0:=by
 have:=Nat.gcd_le_right x.natAbs (show 0<d.natAbs by omega);have:=Nat.gcd_pos_of_pos_right x.natAbs (show 0<d.natAbs by omega);exact⟨by omega,by omega⟩
theorem zvg {x g:Int} {n:Nat} (h:x.natAbs<B64^n) (hx:0<x) (hg:0<=g):(x/g).natAbs<B64^n:=by
 have h1:=Int.ediv_le_self g (Int.le_of_lt hx);have h2:=Int.ediv_nonneg (Int.le_of_lt hx) hg;omega
theorem zuy (z:Int):((z-1).sign==0)=decide (z=1):=by
 rw[Bool.eq_iff_iff];simp[Int.sign_eq_zero_iff_zero];omega
set_option maxRecDepth 100000 in
theorem zp3 (w:World) (i j:IV) (x d:Int) (n:Nat) (hn:n<=10000) (h:IntD i x n w) (h2:IntD j d n w) (hd:0<d):
 Calls Tryz.prog 97 #[iA i,iA j] w (RetR (Rat.divInt x d) w):=by
 have HE:=znd (zmD i j ((h.old).and (h2.old)));have c:=Env.c3 HE.out;have dd:=Env.d3 HE.out;have Hlx:=znd h.lt;have Hld:=znd h2.lt;obtain⟨hg1,hg2⟩:=zvW (x:=x) hd h2.lt;have Hg1:=znd hg1;have Hg2:=znd hg2;have Hd:=znd hd;have HL:=znd (fun V k l=>lowN (V:=V) (k:=k) (l:=l) (x:=x) hd);have HL1:=znd (fun V k=>zw1 (V:=V) (k:=k) (x:=x) hd);clear h h2 hd hg1 hg2;unfold iA;go_enter Tryz.func97,Tryz.ntmps97;go_wp2_with fail;refine(zrt _ i j x d n n hn hn (HE.out.wd.o.1) (HE.out.wd.o.2)).mono ?_;rintro e w1 ⟨kg,rfl,hk,hb⟩;replace HE:=znd (Env.rx HE.out hk hb);replace c:=Env.c3 HE.out;clear hk hb;generalize hGG:((Nat.gcd x.natAbs d.natAbs:Nat):Int)=G at*;have HG:=znd hGG;clear hGG;go_upto_region 2 with fail;obtain⟨W3,gg,hW3,hgg,HE⟩:=Env.al HE.out 53 (cI kg);rw[hW3,hgg];clear hW3 hgg;replace c:=Env.c4 HE.out;replace dd:=Env.d4 HE.out;go_wp2_with fail;refine(zpH _ i kg x G n n (by omega) (by omega) (HE.out.wd.o.1) (IntN.ofLt (HE.out.wd.n.1) Hg1.out) Hg2.out).mono ?_;rintro e w4 ⟨k,k0,rfl,hk,hk0,hb⟩;replace HE:=znd (Env.rx HE.out hk hb);replace c:=Env.c4 HE.out;clear hk hk0 hb;go_wp2_with fail;obtain⟨W5,hW5,HE⟩:=Env.st2_3 HE.out (.bool k.neg) (.slice k.A k.k k.c);rw[hW5];clear hW5;replace c:=Env.c4 HE.out;refine(zpH _ j kg d G n n (by omega) (by omega) (HE.out.wd.o.2) (IntN.ofLt (HE.out.wd.n.2.1) Hg1.out) Hg2.out).mono ?_;rintro e w6 ⟨l,l0,rfl,hk,hk0,hb⟩;replace HE:=znd (Env.rx HE.out hk hb);replace c:=Env.c4 HE.out;clear hk hk0 hb;have hsg:=zuy (d/G);by_cases h1:d/G=1
 all_goals
  have H1:=znd h1
  first|rw[decide_eq_true h1]at hsg|rw[decide_eq_false h1]at hsg
  clear h1;go_upto_region 4 with fail;obtain⟨W7,hW7,HE⟩:=Env.st2_2 HE.out (.bool l.neg) (.slice l.A l.k l.c);(try rw[hW7])
  clear hW7;replace c:=Env.c4 HE.out
  go_region_held3 (fun W=>CB (w.heap.size+1) (cI l) W) (first|exact c.2.2.1|((repeat' apply And.intro)<;>go_keep))
   (first
    |(go_at_call 134;go_must (refine(zoY _ 1 (by decide) (by decide)).mono ?_;rintro e w1 ⟨k3,rfl,hk,hb⟩;replace HE:=znd (Env.rx HE.out hk hb);replace c:=Env.c4 HE.out;clear hk hb))
    |(go_at_call 101;go_must (refine(zqt _ l k3 (d/G) 1 n 1 (by omega) (by decide) (IntN.ofLt (HE.out.wd.n.2.1) (zvg Hld.out Hd.out (by rw[<-HG.out];exact Int.natCast_nonneg _))) (IntN.ofLt (HE.out.wd.n.1) (by decide))).mono ?_;rintro e w2 ⟨rfl,hb⟩;replace HE:=znd (Env.cx HE.out hb);replace c:=Env.c4 HE.out;clear hb)))
 ·go_wp2_with fail;have hE:=(HE.out.put2_2 (.bool false) (.slice none 0 0)).put4_1 (.bool k.neg) (.slice k.A k.k k.c) (.bool false) (.slice none 0 0);replace c:=Env.c4 hE;exact bodyPost_ret (v:=.agg #[.bool k.neg,.slice k.A k.k k.c,.bool false,.slice none 0 0]) (by simp[results,Tryz.results97,go_sem,c]) rfl ((hE.perm (List.Perm.swap ..)).retR (r:=⟨k,⟨false,none,0,0⟩⟩) fun V h=>HL1.out V k h.2.2.1 H1.out)
 ·go_wp2_with fail;have hE:=HE.out.put4_1 (.bool k.neg) (.slice k.A k.k k.c) (.bool l.neg) (.slice l.A l.k l.c);replace c:=Env.c4 hE;exact bodyPost_ret (v:=.agg #[.bool k.neg,.slice k.A k.k k.c,.bool l.neg,.slice l.A l.k l.c]) (by simp[results,Tryz.results97,go_sem,c]) rfl ((hE.perm (List.Perm.swap ..)).retR (r:=⟨k,l⟩) fun V h=>HL.out V k l h.2.2.1 h.2.1 H1.out)
end Go.Proofs.YtegfiemlnnpidaaGreatDoor
