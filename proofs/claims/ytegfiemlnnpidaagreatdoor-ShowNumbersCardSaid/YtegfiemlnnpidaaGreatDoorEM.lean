/-
 ratio: fractions as values; one. The state of a walk over fractions: what the calls tell, what a result is.
-/
import Derived.Test.YtegfiemlnnpidaaGreatDoorWE
import Derived.Test.YtegfiemlnnpidaaGreatDoorWA
namespace Go.Proofs.YtegfiemlnnpidaaGreatDoor
set_option maxHeartbeats 1000000
open Go.RowKit

def dn (q:Rat):Int:=if q.den=1 then 0 else(q.den:Int)
structure RatD (r:RV) (q:Rat) (n:Nat) (w:World):Prop where
 ex:∃x d:Int,IntD r.num x n w/\IntD r.den d n w/\q=(if r.den.k=0 then Rat.divInt x 1 else Rat.divInt x d)
structure RatN (r:RV) (q:Rat) (w:World):Prop where
 num:IntN r.num q.num w
 den:IntN r.den (dn q) w
theorem dn_k {r:RV} {q:Rat} {w:World} (h:RatN r q w):r.den.k=0↔q.den=1:=by
 rw[h.den.k];unfold dn;by_cases h1:q.den=1
 ·simp[h1,zbF]
 ·have:=zas (X:=q.den) q.den_nz;rw[if_neg h1,Int.natAbs_natCast];exact⟨fun e=>absurd e (by omega),fun e=>absurd e h1⟩
def Sz (q:Rat) (n:Nat):Prop:=q.num.natAbs<B64^n/\q.den<B64^n
theorem RatN.rat {r:RV} {q:Rat} {w:World} (h:RatN r q w) {n:Nat} (hs:Sz q n):RatD r q n w:=by
 refine⟨⟨q.num,dn q,h.num.ofLt hs.1,h.den.ofLt ?_,?_⟩⟩
 ·unfold dn;split
  ·exact Nat.pow_pos za4
  ·exact hs.2
 ·by_cases h1:r.den.k=0
  ·rw[if_pos h1];have h2:=(dn_k h).1 h1;have:=Rat.num_divInt_den q;rw[h2]at this;exact this.symm
  ·rw[if_neg h1];have h2:q.den≠1:=fun e=>h1 ((dn_k h).2 e);unfold dn;rw[if_neg h2];exact(Rat.num_divInt_den q).symm
theorem RatD.rests {r:RV} {q:Rat} {n:Nat} {w:World} {F:Nat->Prop} (h:RatD r q n w) (h1:∀x,IntD r.num x n w->Rests w F (IntD r.num x n)) (h2:∀x,IntD r.den x n w->Rests w F (IntD r.den x n)):Rests w F (RatD r q n):=by
 obtain⟨x,d,hx,hd,hq⟩:=h.ex;exact⟨h,fun w' hw=>⟨⟨x,d,(h1 x hx).lift w' hw,(h2 d hd).lift w' hw,hq⟩⟩⟩
theorem RatD.old {r:RV} {q:Rat} {n:Nat} {w:World} (h:RatD r q n w):Rests w (·<w.heap.size) (RatD r q n):=h.rests (fun _ h=>h.old) (fun _ h=>h.old)
theorem RatN.old {r:RV} {q:Rat} {w:World} (h:RatN r q w):Rests w (·<w.heap.size) (RatN r q):=⟨h,fun w' hw=>⟨h.num.old.lift w' hw,h.den.old.lift w' hw⟩⟩
def RetR (q:Rat) (w:World) (e:Ending) (w':World):Prop:=
 ∃r:RV,e=.returned (.agg (cR r))/\Rests w' (w.heap.size<=·) (RatN r q)/\Below w.heap.size w w'

theorem zdE {x:Nat} (h0:0<x) (h:x<B64):digs B64 x=[x]:=by
 have h1:=zfp (b:=B64) (l:=[x]) (by decide) (zd2 h) (.inr ⟨x,rfl,by omega⟩);rw[show val B64 [x]=x by simp[val]]at h1;exact h1.symm
theorem zfv {x:Nat} (h:(digs B64 x).length=1):0<x/\x<B64:=by
 refine⟨?_,?_⟩
 ·rcases Nat.eq_zero_or_pos x with rfl|h'
  ·simp[zbF]at h
  ·exact h'
 ·have:=zaF (n:=x) (k:=1) (by omega);simpa using this

set_option maxRecDepth 100000 in
theorem zlx (w:World) (A:Option Addr) (k c:Nat) (z:Int) (_h:IntN ⟨true,A,k,c⟩ z w):
 Calls Tryz.prog 135 #[.agg #[.bool true,.slice A k c]] w fun e w'=>e=.returned (.bool false)/\Below w.heap.size w w':=by
 have Hbel:=znd (Below.of_alloc w (.cells #[.bool true,.slice A k c] 53));clear _h;go_enter Tryz.func135,Tryz.ntmps135;go_wp2_with fail;go_ret;exact⟨rfl,Hbel.out⟩

set_option maxRecDepth 100000 in
theorem zjS (w:World) (A:Option Addr) (k c:Nat) (z:Int) (_h:IntN ⟨false,A,k,c⟩ z w) (hk:k≠1):
 Calls Tryz.prog 135 #[.agg #[.bool false,.slice A k c]] w fun e w'=>e=.returned (.bool false)/\Below w.heap.size w w':=by
 have Hbel:=znd (Below.of_alloc w (.cells #[.bool false,.slice A k c] 53));have hk1:((k:Int)==1)=false:=by simp;omega
 clear hk;clear _h;go_enter Tryz.func135,Tryz.ntmps135;go_wp2_with fail;go_ret;exact⟨rfl,Hbel.out⟩

set_option maxRecDepth 100000 in
theorem zlq (w:World) (A:Option Addr) (k c:Nat) (z:Int) (h:IntN ⟨false,A,k,c⟩ z w) (hk:k=1) (hz:z=1):
 Calls Tryz.prog 135 #[.agg #[.bool false,.slice A k c]] w fun e w'=>e=.returned (.bool true)/\Below w.heap.size w w':=by
 have Hbel:=znd (Below.of_alloc w (.cells #[.bool false,.slice A k c] 53));subst hk hz;have hr:=h.rd;rw[show(1:Int).natAbs=1 from rfl,zdE (by decide) (by decide)]at hr;have hsl:Sl A 1:=hr.sl;have hs1:=zaA;have hcell:(w.alloc (.cells #[.bool false,.slice A 1 c] 53)).cell? (adr A 0)=some (.int .u64 1):=(hr.alloc _).cell 0 (by simp);clear hr;clear h;go_enter Tryz.func135,Tryz.ntmps135;go_wp2_with fail;go_ret;exact⟨rfl,Hbel.out⟩

set_option maxRecDepth 100000 in
theorem zml (w:World) (A:Option Addr) (k c:Nat) (z:Int) (h:IntN ⟨false,A,k,c⟩ z w) (hk:k=1) (hz:z≠1):
 Calls Tryz.prog 135 #[.agg #[.bool false,.slice A k c]] w fun e w'=>e=.returned (.bool false)/\Below w.heap.size w w':=by
 have Hbel:=znd (Below.of_alloc w (.cells #[.bool false,.slice A k c] 53));subst hk;have hr:=h.rd;have hl:=zfv h.k.symm;have hneg:=h.neg;have hx:((z.natAbs:Int)==1)=false:=by
  have:¬z<0:=by simpa using hneg.symm
  simp;omega
 rw[zdE hl.1 hl.2]at hr;have hsl:Sl A 1:=hr.sl;have hs1:=zaA;have hcell:(w.alloc (.cells #[.bool false,.slice A 1 c] 53)).cell? (adr A 0)=some (.int .u64 (z.natAbs:Nat)):=(hr.alloc _).cell 0 (by simp);clear hr hl hz hneg;generalize z.natAbs=x at*;clear h;go_enter Tryz.func135,Tryz.ntmps135;go_wp2_with fail;go_ret;exact⟨rfl,Hbel.out⟩

theorem zeA (w:World) (i:IV) (z:Int) (h:IntN i z w):Calls Tryz.prog 135 #[iA i] w fun e w'=>e=.returned (.bool (decide (z=1)))/\Below w.heap.size w w':=by
 obtain⟨ng,A,k,c⟩:=i;have hneg:=h.neg
 cases ng
 ·by_cases hk:k=1
  ·by_cases hz:z=1
   ·rw[decide_eq_true hz];exact zlq w A k c z h hk hz
   ·rw[decide_eq_false hz];exact zml w A k c z h hk hz
  ·have hz:z≠1:=fun e=>hk (by have h5:k=(digs B64 z.natAbs).length:=h.k;rw[e]at h5;rw[h5,show(1:Int).natAbs=1 from rfl,zdE (by decide) (by decide)];rfl);rw[decide_eq_false hz];exact zjS w A k c z h hk
 ·have hz:z≠1:=fun e=>by rw[e]at hneg;simp at hneg
  rw[decide_eq_false hz];exact zlx w A k c z h
theorem zfY {x d:Int} (hd:0<d):(Rat.divInt x d).num=x/(Nat.gcd x.natAbs d.natAbs:Int)/\((Rat.divInt x d).den:Int)=d/(Nat.gcd x.natAbs d.natAbs:Int):=by
 rw[Rat.num_divInt,Rat.den_divInt,if_neg (by omega),Int.sign_eq_one_of_pos hd,Int.one_mul];have e:Int.gcd d x=Nat.gcd x.natAbs d.natAbs:=by unfold Int.gcd;exact Nat.gcd_comm _ _
 rw[e];refine⟨rfl,?_⟩;rw[Int.natCast_ediv];congr 1;omega
theorem ziJ {x d:Int} (hd:d=1):(Rat.divInt x d).num=x/\(Rat.divInt x d).den=1:=by
 subst hd;obtain⟨a,b⟩:=zfY (x:=x) (d:=1) (by decide);rw[show(1:Int).natAbs=1 from rfl,Nat.gcd_one_right]at a b;have b':((Rat.divInt x 1).den:Int)=1:=by rw[b];rfl
 exact⟨by rw[a];exact Int.ediv_one x,by omega⟩
theorem zmO (w:World) (F:Nat->Prop):Rests w F (IntN ⟨false,none,0,0⟩ 0):=
 ⟨⟨rfl,Nat.le_refl _,rfl,Rd.nil_ _ _⟩,fun _ _=>⟨rfl,Nat.le_refl _,rfl,Rd.nil_ _ _⟩⟩
def za9:RV:=⟨⟨false,none,0,0⟩,⟨false,none,0,0⟩⟩
def RetRE (q:Rat) (k:Int) (w:World) (e:Ending) (w':World):Prop:=
 ∃r:RV,e=.returned (.tuple #[.agg (cR r),.int .i64 k])/\Rests w' (w.heap.size<=·) (RatN r q)/\Below w.heap.size w w'
theorem RetRE.of {q:Rat} {k:Int} {w w':World} {r:RV} (h:RetR q w (.returned (.agg (cR r))) w'):
 RetRE q k w (.returned (.tuple #[.agg (cR r),.int .i64 k])) w':=by
 obtain⟨r',e,h1,h2⟩:=h;have e':r=r':=by
  obtain⟨⟨a1,a2,a3,a4⟩,⟨b1,b2,b3,b4⟩⟩:=r;obtain⟨⟨c1,c2,c3,c4⟩,⟨d1,d2,d3,d4⟩⟩:=r';simp at e;simp[e]
 subst e';exact⟨r,rfl,h1,h2⟩
theorem Rests.clip' {w:World} {F G:Nat->Prop} {φ:World->Prop} (h:Rests w F φ) (hG:∀b,F b->b<w.heap.size->G b):Rests w G φ:=⟨h.now,fun w' hw=>h.lift w' fun b hF hb=>hw b (hG b hF hb) hb⟩
section
variable {w W W':World} {bs:List Bo} {old new φ ψ:World->Prop}
theorem Env.al2 (h:Env w bs old new W) (t t':TypeId) (cs cs':Array Value):∃W' g g',(W.alloc (.cells cs t)).alloc (.cells cs' t')=W'/\W.heap.size+1=g'/\W.heap.size=g/\Hid (Env w (⟨g',t',cs'⟩::⟨g,t,cs⟩::bs) old new W'):=
 ⟨_,_,_,rfl,rfl,rfl,znd ((h.new_ rfl t cs).new_ (by simp) t' cs')⟩
theorem Env.retR' {r:RV} {q:Rat} {v:Value} (h:Env w bs old new W) (hv:v=.agg (cR r)) (hn:∀V,new V->RatN r q V):RetR q w (.returned v) W:=by
 subst hv;exact⟨r,rfl,(h.rsn.imp hn).mono fun _ h=>h.1,h.bel⟩
theorem Env.up (h:Env w bs old new W) {F:Nat->Prop} (hn:∀V,new V->φ V):Rests W (fun b=>F b\/w.heap.size<=b) φ:=(h.rsn.imp hn).mono fun _ h=>.inr h.1
theorem Env.keep_ (h:Env w bs old new W) {F:Nat->Prop} (hr:Rests w F φ):Rests W (fun b=>F b\/w.heap.size<=b) φ:=(hr.below h.bel).mono fun _ h=>.inl h
theorem Env.dr (h:Env w bs old new W):∃W',W.drew=W'/\Hid (Env w bs old new W'):=⟨_,rfl,znd h.drew⟩
theorem zd9 (V:World):IntN ⟨false,none,0,0⟩ 0 V:=⟨by simp[zbF],Nat.le_refl _,rfl,by simpa[zbF] using Rd.nil_ V .u64⟩
theorem Env.drop {b:Bo} (h:Env w (b::bs) old new W):Env w bs old new W:=
 ⟨fun c hc=>h.bx c (List.mem_cons_of_mem _ hc),h.rso.mono fun _ hn c hc=>hn c (List.mem_cons_of_mem _ hc),h.rsn.mono fun _ hn=>⟨hn.1,fun c hc=>hn.2 c (List.mem_cons_of_mem _ hc)⟩,h.bel,fun c hc=>h.own c (List.mem_cons_of_mem _ hc),(List.pairwise_cons.1 h.nd).2⟩
theorem RatN.zd {k:IV} {q:Rat} {V:World} {X:Int} (h:IntN k X V) (hx:q.num=X) (hd:q.den=1):RatN ⟨k,⟨false,none,0,0⟩⟩ q V:=
 ⟨by rw[hx];exact h,by unfold dn;rw[if_pos hd];exact zd9 V⟩
theorem RatN.md {k l:IV} {q:Rat} {V:World} {X D:Int} (h:IntN k X V) (h':IntN l D V) (hx:q.num=X) (hd:(q.den:Int)=D) (h1:D≠1):RatN ⟨k,l⟩ q V:=
 ⟨by rw[hx];exact h,by unfold dn;rw[if_neg (by omega),hd];exact h'⟩
theorem zbc (V:World):RatN ⟨⟨false,none,0,0⟩,⟨false,none,0,0⟩⟩ 0 V:=⟨zd9 V,by simpa[dn] using zd9 V⟩
end
theorem Env.addD {w W:World} {bs:List Bo} {old new:World->Prop} {i:IV} {z:Int} {n:Nat} (h:Env w bs old new W) (hi:IntD i z n W) (hb:∀b∈bs,∀v∈b.cs,∀x,v≠.int .u64 x):Env w bs (fun V=>IntD i z n V/\old V) new W:=by
 refine⟨h.bx,(hi.rests (F:=fun n=>∀b∈bs,b.g≠n) fun j hj b hm e=>?_).and h.rso,h.rsn,h.bel,h.own,h.nd⟩;obtain⟨l,hk,hr,-,-⟩:=hi.ex;have h1:=hr.cell j (by omega);have h2:=(h.bx b hm).cell (adr i.A j).off;have h3:W.cell? (adr i.A j)=b.cs[(adr i.A j).off]?:=by rw[<-h2,e];rfl
 rw[h1]at h3;exact hb b hm _ (Array.mem_of_getElem? h3.symm) _ rfl
theorem Env.retRE {w W:World} {bs:List Bo} {old new:World->Prop} {r:RV} {q:Rat} {k:Int} (h:Env w bs old new W) (hn:∀V,new V->RatN r q V):
 RetRE q k w (.returned (.tuple #[.agg (cR r),.int .i64 k])) W:=
 ⟨r,rfl,(h.rsn.imp hn).mono fun _ h=>h.1,h.bel⟩
end Go.Proofs.YtegfiemlnnpidaaGreatDoor
