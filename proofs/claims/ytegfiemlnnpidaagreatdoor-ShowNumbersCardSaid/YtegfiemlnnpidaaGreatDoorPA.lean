/-
 slices.Clone of terms; slices.IndexFunc, slices.DeleteFunc by sparse.Norm's test. slices.IndexFunc, slices.DeleteFunc by sparse.Norm's test. sparse.Norm of a list that rises. sparse.ordered of a rising vector. sparse.Of. sparse.Dot of rising vectors. slices.Equal of words; sparse.exact. sparse.exact, sparse.Right. sparse.Scale. sparse.join. sparse.join: the walk. sparse.Axpy. sparse.Same. Forms in memory; point.Right. The closures of package proof. proof.bound. proof.Bound. proof.Refutes. point.Feasible$1. The plain law of point.Feasible. point.Feasible. Programs in memory: variables, rows. program.Right$1, program.all over variables.
-/
import Derived.Test.YtegfiemlnnpidaaGreatDoorSS
import Derived.Test.YtegfiemlnnpidaaGreatDoorRQ
import Derived.Test.YtegfiemlnnpidaaGreatDoorSL
import Derived.Lib.SliceRun
namespace Go.Proofs.YtegfiemlnnpidaaGreatDoor
set_option maxHeartbeats 4000000
open Go.RowKit

theorem zcd (t:TeV):∀u∈(zw7 t).toList,u.oneCell'=true:=by
 intro u hu;simp only[zw7,List.mem_cons,List.not_mem_nil,or_false]at hu;rcases hu with rfl|rfl|rfl|rfl|rfl<;>rfl
def nzT (t:TeV):Bool:=!(t.q.num.sign==0)
theorem OwnE.cut {w:World} {B:Nat} {e:TypeId} {sz g n cap:Nat} {cs:List (Array Value)} (h:OwnE w B e sz (.slice (some ⟨g,0,none⟩) n cap) cs) (i:Nat) (hi:i<=cs.length):OwnE w B e sz (.slice (some ⟨g,0,none⟩) i cap) (cs.take i):=by
 obtain⟨hs,hl,ho⟩:=h;have hs':∀c∈cs.take i,c.size=sz:=fun c hc=>hs c (List.mem_of_mem_take hc);refine⟨hs',?_,?_⟩
 ·rw[zbg hs']
 ·rcases ho with⟨h1,-⟩|⟨g',cap',cur,hv,hg,hh,hn,hm,hsz,ht⟩
  ·cases h1
  ·obtain⟨rfl,rfl,rfl⟩:g=g'/\n=cs.length/\cap=cap':=by simpa using hv
   have hlen:(cs.take i).length=i:=by simp;omega
   refine .inr ⟨g,cap,cur,by rw[hlen],hg,hh,by omega,hm,hsz,?_⟩;rw[hlen];have e:zb1 cs=zb1 (cs.take i)++zb1 (cs.drop i):=by rw[<-zff,List.take_append_drop]
   have h2:(cur.toList.take (cs.length*sz)).take (i*sz)=cur.toList.take (i*sz):=by
    rw[List.take_take,Nat.min_eq_left (Nat.mul_le_mul_right _ hi)]
   rw[<-h2,ht,e];exact List.take_left' (by rw[zbg hs',hlen])
theorem OwnE.behind {w:World} {B:Nat} {e:TypeId} {sz g n cap:Nat} {cs:List (Array Value)} (h:OwnE w B e sz (.slice (some ⟨g,0,none⟩) n cap) cs) (k:Nat) (hk:n*sz<=k) (u:Value):OwnE (w.setCell ⟨g,k,none⟩ u) B e sz (.slice (some ⟨g,0,none⟩) n cap) cs:=by
 obtain⟨hs,hl,ho⟩:=h;refine⟨hs,hl,?_⟩;rcases ho with⟨h1,-⟩|⟨g',cap',cur,hv,hg,hh,hn,hm,hsz,ht⟩
 ·cases h1
 ·obtain⟨rfl,rfl,rfl⟩:g=g'/\n=cs.length/\cap=cap':=by simpa using hv
  refine .inr ⟨g,cap,cur.setIfInBounds k u,rfl,hg,Blk.set_ (show Blk w g e cur from hh) k u,hn,hm,by simpa using hsz,?_⟩;rw[Array.toList_setIfInBounds,List.take_set,List.set_eq_of_length_le (by simp;omega)];exact ht
theorem OwnE.zero {w:World} {B:Nat} {e:TypeId} {sz n cap:Nat} {A:Option Addr} {cs:List (Array Value)} (h:OwnE w B e sz (.slice A n cap) cs) (hn:0<n):(∃g,A=some ⟨g,0,none⟩)/\n<=cap:=by
 obtain⟨-,-,h1|⟨g',cap',cur,hv,hg,hh,hn,-⟩⟩:=h
 ·have:n=0:=by simpa using(by simpa using h1.1:A=none/\n=0/\cap=0).2.1
  omega
 ·obtain⟨rfl,rfl,rfl⟩:A=some ⟨g',0,none⟩/\n=cs.length/\cap=cap':=by simpa using hv
  exact⟨⟨_,rfl⟩,hn⟩
theorem Env.drewN {w W:World} {bs:List Bo} {old new:World->Prop} (h:Env w bs old new W) (n:Nat):Env w bs old new (W.drewN n):=h.call (Below.drewN (Below.refl _ W) n)
def plq (t:TeV):Int×Rat:=(t.pl,t.q)
def RetVec (us:List (Int×Rat)) (w:World) (e:Ending) (w':World):Prop:=
 ∃A c ts,e=.returned (.slice A (List.length ts) c)/\ts.length<=c/\ts.map plq=us/\Rests w' (w.heap.size<=·) (LsR 5 zw7 teN A ts)/\Below w.heap.size w w'
def nzP (p:Int×Rat):Bool:=!(p.2.num.sign==0)
theorem GL.appT {w W W':World} {ls:List Ow} {bs:List Bo} {old new old' new':World->Prop} {t:TypeId} (ht:Tryz.prog.underlying t=some (.slice 80)) {A:Option Addr} {c:Nat} {os:List TeV} (h:GL w (⟨80,5,.slice A os.length c,os.map zw7⟩::ls) old new W) (he:Env W bs old' new' W') (x:TeV) (hl:os.length<=1000000):
 ∃A' c' w',(Builtin.append_ #[t,t] t #[.slice A os.length c,.slice (some ⟨W'.heap.size,0,none⟩) 1 1]).run Tryz.prog (W'.alloc (.cells (zw7 x) 80))=.ok (.slice A' (os++[x]).length c') w'/\GL w (⟨80,5,.slice A' (os++[x]).length c',(os++[x]).map zw7⟩::ls) old (fun V=>new' V/\new V) w':=by
 obtain⟨v',w',hrun,hG⟩:=GL.app (P:=Tryz.prog) ht zbD rfl (by decide) h he (zw7 x) rfl (zcd x) (by simp;omega) (by simp[maxLen];omega);obtain⟨A',c',hv,-⟩:=(hG.own _ (List.mem_cons_self ..)).form;have hv':v'=.slice A' (os++[x]).length c':=by rw[show v'=_ from hv];simp
 subst hv';refine⟨A',c',w',hrun,?_⟩;have e:(os++[x]).map zw7=os.map zw7++[zw7 x]:=by simp
 rw[e];exact hG
theorem RetVec.up {us:List (Int×Rat)} {w W:World} {e:Ending} {w':World} (h:RetVec us W e w') (hb:Below w.heap.size w W):RetVec us w e w':=by
 obtain⟨A,c,ts,h1,h2,h3,h4,h5⟩:=h;exact⟨A,c,ts,h1,h2,h3,h4.mono fun n hn=>Nat.le_trans hb.size hn,Below.after hb h5⟩
instance:Inhabited RV:=⟨za9⟩
def getQ (Y:List (Int×Rat)) (a:Int):Rat:=(Y.map fun p=>if p.1=a then p.2 else 0).sum
theorem zan {Y:List (Int×Rat)} {a:Int} (h:∀p∈Y,p.1≠a):getQ Y a=0:=by
 induction Y with
 |nil=>rfl
 |cons p Y ih=>
  have h1:=ih fun q hq=>h q (List.mem_cons_of_mem _ hq);unfold getQ at h1⊢;rw[List.map_cons,List.sum_cons,if_neg (h p (List.mem_cons_self ..)),h1,Rat.zero_add]
theorem zaB (Y Z:List (Int×Rat)) (a:Int):getQ (Y++Z) a=getQ Y a+getQ Z a:=by
 induction Y with
 |nil=>simp[getQ,Rat.zero_add]
 |cons p Y ih=>
  unfold getQ at ih⊢;rw[List.cons_append,List.map_cons,List.sum_cons,ih,List.map_cons,List.sum_cons,Rat.add_assoc]
set_option maxRecDepth 100000 in
theorem ziu (w:World) (A B:Option Addr) (c d n m:Nat) (hne:n≠m):
 Calls Tryz.prog 53 #[.slice A n c,.slice B m d] w fun e w'=>e=.returned (.bool false)/\Below w.heap.size w w':=by
 have h1:((n:Int) != (m:Int))=true:=by simp;omega
 go_enter Tryz.func53,Tryz.ntmps53;go_wp2_with fail;go_ret;exact⟨rfl,Below.refl _ _⟩
set_option maxRecDepth 100000 in
theorem zhl (w:World) (A B:Option Addr) (c d:Nat) (l m:List Nat) (hl:l.length<=17592186044416) (hlm:l.length=m.length) (ha:Rd w .u64 A l) (hb:Rd w .u64 B m):
 Calls Tryz.prog 53 #[.slice A l.length c,.slice B l.length d] w fun e w'=>e=.returned (.bool (decide (l=m)))/\∃n,w'=w.drewN n:=by
 have Hlm:=znd hlm;have Ha:=znd ha;have Hb:=znd hb;have hsa:=ha.sl;have hsb:=hb.sl;rw[<-hlm]at hsb;have h1:=zaA;obtain⟨R,hR⟩:∃R,decide (l=m)=R:=⟨_,rfl⟩;have HR:=znd hR;rw[hR];clear ha hb hlm hR;go_enter Tryz.func53,Tryz.ntmps53;go_wp2_with fail;go_loopw [13] (fun i wr=>∃k:Nat,k<=l.length/\Hid (∀t<k,nth l t=nth m t)/\i=.int .i64 k/\∃q,wr=w.drewN q) (fun i _=>l.length-(intOf i).toNat)
 case atStart=>exact⟨0,Nat.zero_le _,znd (fun t ht=>absurd ht (Nat.not_lt_zero t)),rfl,0,rfl⟩
 case round=>
  obtain⟨k,hk,Hall,rfl,q,rfl⟩:=hrel;by_cases hlt:k<l.length
  ·have hca:=Ha.out.cell k hlt;have hcb:=Hb.out.cell k (by rw[<-Hlm.out];exact hlt);by_cases he:nth l k=nth m k
   ·have Hal2:=znd (show∀t<k+1,nth l t=nth m t from fun t ht=>by
     rcases Nat.lt_or_eq_of_le (Nat.lt_succ_iff.1 ht)with h|h
     ·exact Hall.out t h
     ·rw[h];exact he)
    rw[<-he]at hcb;clear he Hall;generalize nth l k=x at hca hcb;go_wp2_with fail;go_quiet (fail);go_wp2_with fail;go_roundw
    case rel=>exact⟨k+1,by omega,Hal2,by go_num,_,rfl⟩
    case measure=>simp[intOf];omega
   ·have hR:R=false:=by rw[<-HR.out];exact decide_eq_false fun e=>he (by rw[e])
    subst hR;have hx:((nth l k:Nat):Int)≠((nth m k:Nat):Int):=by omega
    generalize nth l k=x at*;generalize nth m k=y at*;go_wp2_with fail;go_quiet (fail);go_wp2_with fail;go_ret;exact⟨rfl,_,World.drewN_drewN _ _ _⟩
  ·have hR:R=true:=by rw[<-HR.out];exact decide_eq_true (zdT l m Hlm.out (fun t ht=>Hall.out t (by omega)))
   subst hR;go_wp2_with fail;go_ret;exact⟨rfl,_,rfl⟩
theorem ziU (w:World) (A B:Option Addr) (c d:Nat) (l m:List Nat) (hl:l.length<=17592186044416) (ha:Rd w .u64 A l) (hb:Rd w .u64 B m):
 Calls Tryz.prog 53 #[.slice A l.length c,.slice B m.length d] w fun e w'=>e=.returned (.bool (decide (l=m)))/\Below w.heap.size w w':=by
 by_cases h:l.length=m.length
 ·rw[<-h];refine(zhl w A B c d l m hl h ha hb).mono ?_;rintro e w' ⟨rfl,n,rfl⟩;exact⟨rfl,Below.drewN (Below.refl _ w) n⟩
 ·rw[decide_eq_false fun e=>h (by rw[e])];exact ziu w A B c d _ _ h
set_option maxRecDepth 100000 in
theorem zii (w:World) (i j:IV) (z y:Int) (n:Nat) (_hn:n<=17592186044416) (_h:IntD i y n w) (_h':IntN j z w) (hne:i.neg≠j.neg):
 Calls Tryz.prog 225 #[iA i,iA j] w fun e w'=>e=.returned (.bool false)/\Below w.heap.size w w':=by
 have HE:=znd (lyII i j (Rests.pure trivial w _));have c:=Env.c2 HE.out;have dd:=Env.d2 HE.out;have he:(i.neg==j.neg)=false:=by simpa using hne
 clear _h _h' hne;unfold iA;go_enter Tryz.func225,Tryz.ntmps225;go_wp2_with fail;go_ret;exact⟨rfl,HE.out.bel⟩
set_option maxRecDepth 100000 in
theorem zis (w:World) (i j:IV) (z y:Int) (n:Nat) (hn:n<=17592186044416) (h:IntD i y n w) (h':IntN j z w) (hne:i.neg=j.neg) (B:Bool) (hB:∀l,i.k=l.length->Rd w .u64 i.A l->decide (l=digs B64 z.natAbs)=B):
 Calls Tryz.prog 225 #[iA i,iA j] w fun e w'=>e=.returned (.bool B)/\Below w.heap.size w w':=by
 obtain⟨l,hk,hrd,-,-⟩:=h.ex;have hB2:=hB l hk hrd;have hln:l.length<=17592186044416:=by have:=h.le;omega
 have hjk:=h'.k;have HE:=znd (lyII i j (((zam hrd (fun k hk=>hrd.lt k hk))).and ((zam h'.rd (fun k hk=>h'.rd.lt k hk)))));have c:=Env.c2 HE.out;have dd:=Env.d2 HE.out;have KE:=znd (fun(V:World) (h1:Rd V .u64 i.A l) (h2:Rd V .u64 j.A (digs B64 z.natAbs))=>(show Calls Tryz.prog 53 #[.slice i.A i.k i.c,.slice j.A j.k j.c] V fun e w'=>e=.returned (.bool B)/\Below V.heap.size V w' from by rw[hk,hjk,<-hB2];exact ziU V _ _ _ _ _ _ hln h1 h2));have he:(i.neg==j.neg)=true:=by rw[hne];simp
 clear h h' hB hrd hk hjk hB2 hne;unfold iA;go_enter Tryz.func225,Tryz.ntmps225;go_wp2_with fail;refine(KE.out _ HE.out.o.1 HE.out.o.2).mono ?_;rintro e w1 ⟨rfl,hb⟩;replace HE:=znd (Env.call HE.out hb);clear hb;go_wp2_with fail;go_ret;exact⟨rfl,HE.out.bel⟩
theorem zea (w:World) (i j:IV) (z y:Int) (n:Nat) (hn:n<=17592186044416) (h:IntD i y n w) (h':IntN j z w):Calls Tryz.prog 225 #[iA i,iA j] w fun e w'=>(∃B,e=.returned (.bool B)/\(B=true↔IntN i z w))/\Below w.heap.size w w':=by
 by_cases hne:i.neg=j.neg
 ·obtain⟨l,hk,hrd,hx,hz⟩:=h.ex;have key:(l=digs B64 z.natAbs)↔IntN i z w:=by
   constructor
   ·intro e;refine⟨by rw[hk,e],h.cap,by rw[hne];exact h'.neg,by rw[<-e];exact hrd⟩
   ·intro hi;have h1:l.length=(digs B64 z.natAbs).length:=by rw[<-hk];exact hi.k
    exact zdT _ _ h1 fun t ht=>by
     have c1:=hrd.cell t ht;have c2:=hi.rd.cell t (by omega);rw[c1]at c2;have c3:((nth l t:Nat):Int)=((nth (digs B64 z.natAbs) t:Nat):Int):=by simpa using c2
     omega
  refine(zis w i j z y n hn h h' hne (decide (l=digs B64 z.natAbs)) (fun l' hk' hrd'=>?_)).mono ?_
  ·have:l'=l:=zdT _ _ (by omega) fun t ht=>by
    have c1:=hrd'.cell t ht;have c2:=hrd.cell t (by omega);rw[c1]at c2;have c3:((nth l' t:Nat):Int)=((nth l t:Nat):Int):=by simpa using c2
    omega
   rw[this]
  ·rintro e w' ⟨rfl,hb⟩;exact⟨⟨_,rfl,by rw[decide_eq_true_eq];exact key⟩,hb⟩
 ·refine(zii w i j z y n hn h h' hne).mono ?_;rintro e w' ⟨rfl,hb⟩;refine⟨⟨false,rfl,fun h0=>absurd h0 (by decide),fun hi=>?_⟩,hb⟩;exact absurd (hi.neg.trans h'.neg.symm) hne

theorem zgL {i:IV} {z:Int} {w:World} {l:List Nat} (hk:i.k=l.length) (hrd:Rd w .u64 i.A l) (hc:i.k<=i.c):IntN i z w↔(i.neg=decide (z<0)/\l=digs B64 z.natAbs):=by
 constructor
 ·intro hi;refine⟨hi.neg,zdT _ _ (by rw[<-hk];exact hi.k) fun t ht=>?_⟩;have c1:=hrd.cell t ht;have c2:=hi.rd.cell t (by rw[<-hi.k,hk];exact ht);rw[c1]at c2;have c3:((nth l t:Nat):Int)=((nth (digs B64 z.natAbs) t:Nat):Int):=by simpa using c2
  omega
 ·rintro⟨h1,h2⟩;exact⟨by rw[hk,h2],hc,h1,by rw[<-h2];exact hrd⟩
theorem IntD.same {i:IV} {y z:Int} {n:Nat} {w W:World} (h:IntD i y n w) (hb:Below w.heap.size w W):IntN i z W↔IntN i z w:=by
 obtain⟨l,hk,hrd,-,-⟩:=h.ex;rw[zgL hk (hrd.below hb (Nat.le_refl _)) h.cap,zgL hk hrd h.cap]
theorem RatD.same {r:RV} {q q':Rat} {n:Nat} {w W:World} (h:RatD r q n w) (hb:Below w.heap.size w W):RatN r q' W↔RatN r q' w:=by
 obtain⟨x,d,hx,hd,-⟩:=h.ex;constructor
 ·intro k;exact⟨(hx.same hb).1 k.num,(hd.same hb).1 k.den⟩
 ·intro k;exact⟨(hx.same hb).2 k.num,(hd.same hb).2 k.den⟩
set_option maxRecDepth 100000 in
theorem zfE (w:World) (r:RV) (q:Rat) (n:Nat) (hn:n<=400000000000) (h1n:1<=n) (h:RatD r q n w) (hT:Tz w):
 Calls Tryz.prog 195 #[rA r] w fun e w'=>(∃B,e=.returned (.bool B)/\(B=true↔RatN r q w))/\Below w.heap.size w w':=by
 obtain⟨x,d,hx,hd,hq⟩:=h.ex;have HE:=znd (lyR r (((RatD.old h)).and ((hx.old).and ((hd.old).and (hT.old)))));have c:=Env.c1 HE.out;have HX:=znd hx;have HD:=znd hd;clear h hx hd hT hq;unfold rA;go_enter Tryz.func195,Tryz.ntmps195;go_wp2_with fail;refine(zaG _ r q n (by omega) h1n HE.out.o.1 HE.out.o.2.2.2).mono ?_;rintro e w1 ⟨k,rfl,hk,hb⟩;replace HE:=znd (Env.ret HE.out hk hb);clear hk hb;go_upto_region 3 with fail;obtain⟨W2,g4,hW2,hg4,HE⟩:=Env.al HE.out 55 (cR k);rw[hW2,hg4];clear hW2 hg4;replace c:=Env.c2 HE.out;go_wp2_with fail;refine(zea _ r.num k.num q.num x n (by omega) HE.out.o.2.1 HE.out.n.1.num).mono ?_;rintro e w3 ⟨⟨B1,rfl,hB1⟩,hb⟩;have H1:=znd (hB1.trans (HX.out.same HE.out.bel));replace HE:=znd (Env.call HE.out hb);replace c:=Env.c2 HE.out;clear hb hB1
 cases B1
 ·go_wp2_with fail;exact bodyPost_ret (v:=.bool false) (by simp[results,Tryz.results195,go_sem]) rfl (⟨⟨false,rfl,⟨fun h0=>absurd h0 (by decide),fun hr=>H1.out.2 hr.num⟩⟩,HE.out.bel⟩)
 ·go_wp2_with fail;refine(zea _ r.den k.den (dn q) d n (by omega) HE.out.o.2.2.1 HE.out.n.1.den).mono ?_;rintro e w4 ⟨⟨B2,rfl,hB2⟩,hb⟩;have H2:=znd (hB2.trans (HD.out.same HE.out.bel));replace HE:=znd (Env.call HE.out hb);replace c:=Env.c2 HE.out;clear hb hB2;go_wp2_with fail;exact bodyPost_ret (v:=.bool B2) (by simp[results,Tryz.results195,go_sem]) rfl (⟨⟨B2,rfl,⟨fun h0=>⟨H1.out.1 (by simp),H2.out.1 h0⟩,fun hr=>H2.out.2 hr.den⟩⟩,HE.out.bel⟩)
def zaR (P:Prop) (e:Ending):Prop:=∃B,e=.returned (.bool B)/\(B=true↔P)
theorem za7 {P:Prop} (B:Bool) (h:B=true↔P):zaR P (.returned (.bool B)):=⟨B,rfl,h⟩
structure RightP (ts:List TeV) (m:Int) (w:World):Prop where
 rng:∀t∈ts,0<=t.pl/\t.pl<m
 rise:Rise ts
 nz:∀t∈ts,nzT t=true
 one:∀t∈ts,RatN t.r t.q w
theorem RightP.nil (m:Int) (w:World):RightP [] m w:=⟨by simp,.nil,by simp,by simp⟩
theorem RightP.more {ts:List TeV} {m:Int} {w:World} {i:Nat} (h:RightP (ts.take i) m w) (hi:i<ts.length) (h1:0<=ts[i].pl) (h2:ts[i].pl<m) (h3:∀k (hk:k<ts.length),k+1=i->ts[k].pl<ts[i].pl) (h4:nzT ts[i]=true) (h5:RatN ts[i].r ts[i].q w):RightP (ts.take (i+1)) m w:=by
 rw[List.take_succ_eq_append_getElem hi];refine⟨fun t ht=>?_,?_,fun t ht=>?_,fun t ht=>?_⟩
 ·rcases List.mem_append.1 ht with ht|ht
  ·exact h.rng t ht
  ·rw[List.mem_singleton.1 ht];exact⟨h1,h2⟩
 ·refine List.pairwise_append.2 ⟨h.rise,List.pairwise_singleton _ _,fun a ha b hb=>?_⟩;rw[List.mem_singleton.1 hb];obtain⟨k,hk,rfl⟩:=List.mem_iff_getElem.1 ha;have hk':k<i:=by simp at hk;omega
  rw[List.getElem_take];obtain⟨j,rfl⟩:∃j,i=j+1:=⟨i-1,by omega⟩;have hj:=h3 j (by omega) rfl;rcases Nat.lt_or_ge k j with h0|h0
  ·have:=h.rise.at_ (i:=k) (j:=j) h0 (by simp;omega);rw[List.getElem_take,List.getElem_take]at this;omega
  ·have:k=j:=by omega
   subst this;exact hj
 ·rcases List.mem_append.1 ht with ht|ht
  ·exact h.nz t ht
  ·rw[List.mem_singleton.1 ht];exact h4
 ·rcases List.mem_append.1 ht with ht|ht
  ·exact h.one t ht
  ·rw[List.mem_singleton.1 ht];exact h5
set_option maxRecDepth 100000 in
theorem zcj (w:World) (n:Nat) (hn:n<=400000000000) (h1n:1<=n) (A:Option Addr) (c:Nat) (ts:List TeV) (m:Int) (h:LsR 5 zw7 (teD n) A ts w) (hl:ts.length<=1000000) (hT:Tz w):
 Calls Tryz.prog 157 #[.slice A ts.length c,.int .i64 m] w fun e w'=>zaR (RightP ts m w) e/\Below w.heap.size w w':=by
 have sl1:=h.sl;have hsz2:=zai;have hadd:=zaa;have Hw:=znd h;have Ho:=znd ((h.old zah).and hT.old);have Hb:=znd (Below.refl w.heap.size w);clear h hT;go_enter Tryz.func157,Tryz.ntmps157;go_wp2_with fail;go_loopw [9] (fun iv wr=>∃i:Nat,iv=.int .i64 (i:Int)/\i<=ts.length/\Hid (RightP (ts.take i) m w)/\Hid (Below w.heap.size w wr)) (fun iv _=>ts.length-(intOf iv).toNat)
 case atStart=>exact⟨0,rfl,Nat.zero_le _,znd (RightP.nil m w),Hb⟩
 case round=>
  clear Hb;obtain⟨i,rfl,hi,HP,Hb⟩:=hrel;by_cases hlt:i<ts.length
  ·have HE:=znd (Env.start ((Ho.out.below Hb.out).now|>fun h=>(LsR.old zah h.1).and h.2.old));have c0:=HE.out.o.1.tc i hlt;obtain⟨t,ht⟩:∃t,t=ts[i]:=⟨_,rfl⟩;rw[<-ht]at c0;have Hm:=znd (show t∈ts by rw[ht];exact List.getElem_mem hlt);have Ht:=znd ht;clear ht;go_upto_region 4 with fail;obtain⟨W2,gt,hW2,hgt,HE⟩:=Env.al HE.out 80 #[.int .i64 t.pl,.bool t.r.num.neg,.slice t.r.num.A t.r.num.k t.r.num.c,.bool t.r.den.neg,.slice t.r.den.A t.r.den.k t.r.den.c];rw[hW2,hgt];clear hW2 hgt c0;have cb:=Env.c1 HE.out;by_cases h1:t.pl<0
   ·have Hx:=znd h1;go_wp2_with fail;go_ret;exact⟨za7 false ⟨fun h0=>absurd h0 (by decide),fun hr=>absurd (hr.rng t Hm.out).1 (by omega)⟩,by first|exact Below.after Hb.out HE.out.bel|exact Below.after Hb.out (HE.out.drewN _).bel⟩
   ·by_cases h2:m<=t.pl
    ·have Hx:=znd h2;go_wp2_with fail;go_ret;exact⟨za7 false ⟨fun h0=>absurd h0 (by decide),fun hr=>absurd (hr.rng t Hm.out).2 (by omega)⟩,by first|exact Below.after Hb.out HE.out.bel|exact Below.after Hb.out (HE.out.drewN _).bel⟩
    ·rcases Nat.eq_zero_or_pos i with rfl|h0
     ·go_upto_region 6 with fail;go_quiet (fail);go_upto_region 8 with fail;have cb:=Env.c1 (HE.out.drewN nq);replace HE:=znd (HE.out.drewN nq);go_wp2_with fail;refine(zaV _ t.r t.q n (by omega) (HE.out.o.1.ok t Hm.out)).mono ?_;rintro e w3 ⟨rfl,hb⟩;replace HE:=znd (Env.call HE.out hb);replace cb:=Env.c1 HE.out;clear hb;obtain⟨B,hB⟩:∃B,(t.q.num.sign==0)=B:=⟨_,rfl⟩;have HB:=znd hB
      cases B
      ·go_wp2_with fail;refine(zfE _ t.r t.q n hn h1n (HE.out.o.1.ok t Hm.out) HE.out.o.2).mono ?_;rintro e w4 ⟨⟨B2,rfl,hB2⟩,hb⟩;have H2:=znd (hB2.trans ((Hw.out.ok t Hm.out).same (Below.after Hb.out HE.out.bel)));replace HE:=znd (Env.call HE.out hb);clear hb hB2 cb
       cases B2
       ·go_wp2_with fail;go_ret;exact⟨za7 false ⟨fun h0=>absurd h0 (by decide),fun hr=>absurd (H2.out.2 (hr.one t Hm.out)) (by simp)⟩,Below.after Hb.out HE.out.bel⟩
       ·go_wp2_with fail;go_roundw
        case rel=>exact⟨1,by go_num,by omega,znd (HP.out.more hlt (by rw[<-Ht.out];omega) (by rw[<-Ht.out];omega) (fun k hk e=>absurd e (by omega)) (by rw[<-Ht.out];unfold nzT;rw[HB.out];rfl) (by rw[<-Ht.out];exact H2.out.1 (by simp))),znd (Below.after Hb.out HE.out.bel)⟩
        case measure=>(simp[intOf]<;>omega)
      ·go_wp2_with fail;go_ret;exact⟨za7 false ⟨fun h0=>absurd h0 (by decide),fun hr=>absurd (hr.nz t Hm.out) (by unfold nzT;rw[HB.out];decide)⟩,Below.after Hb.out HE.out.bel⟩
     ·obtain⟨k,rfl⟩:∃k,i=k+1:=⟨i-1,by omega⟩;have hkl:k<ts.length:=by omega
      have c2:=(HE.out.o.1.tc k hkl);obtain⟨u,hu⟩:∃u,u=ts[k]:=⟨_,rfl⟩;rw[<-hu]at c2;have Hu:=znd hu;clear hu;have hi1:(0:Int)<(k:Int)+1:=by omega
      have hi3:(k:Int)<(ts.length:Int):=by omega
      have hi5:IntKind.i64.wrap ((k:Int)+1-1)=(k:Int):=by rw[IntKind.wrap_i64];omega
      have hi6:IntKind.i64.wrap (k:Int)=(k:Int):=by rw[IntKind.wrap_i64];omega
      by_cases h3:t.pl<=u.pl
      ·have Hx:=znd h3;go_upto_region 6 with fail;go_quiet (fail);go_wp2_with fail;go_ret;exact⟨za7 false ⟨fun h0=>absurd h0 (by decide),fun hr=>absurd (show u.pl<t.pl by rw[Hu.out,Ht.out];exact hr.rise.at_ (by omega) hlt) (by omega)⟩,by first|exact Below.after Hb.out HE.out.bel|exact Below.after Hb.out (HE.out.drewN _).bel⟩
      ·go_upto_region 6 with fail;go_quiet (fail);clear c2;go_upto_region 8 with fail;have cb:=Env.c1 (HE.out.drewN nq);replace HE:=znd (HE.out.drewN nq);go_wp2_with fail;refine(zaV _ t.r t.q n (by omega) (HE.out.o.1.ok t Hm.out)).mono ?_;rintro e w3 ⟨rfl,hb⟩;replace HE:=znd (Env.call HE.out hb);replace cb:=Env.c1 HE.out;clear hb;obtain⟨B,hB⟩:∃B,(t.q.num.sign==0)=B:=⟨_,rfl⟩;have HB:=znd hB
       cases B
       ·go_wp2_with fail;refine(zfE _ t.r t.q n hn h1n (HE.out.o.1.ok t Hm.out) HE.out.o.2).mono ?_;rintro e w4 ⟨⟨B2,rfl,hB2⟩,hb⟩;have H2:=znd (hB2.trans ((Hw.out.ok t Hm.out).same (Below.after Hb.out HE.out.bel)));replace HE:=znd (Env.call HE.out hb);clear hb hB2 cb
        cases B2
        ·go_wp2_with fail;go_ret;exact⟨za7 false ⟨fun h0=>absurd h0 (by decide),fun hr=>absurd (H2.out.2 (hr.one t Hm.out)) (by simp)⟩,Below.after Hb.out HE.out.bel⟩
        ·go_wp2_with fail;go_roundw
         case rel=>exact⟨k+2,by go_num,by omega,znd (HP.out.more hlt (by rw[<-Ht.out];omega) (by rw[<-Ht.out];omega) (fun k2 hk e=>by have e2:k2=k:=(by omega);subst e2;rw[<-Hu.out,<-Ht.out];omega) (by rw[<-Ht.out];unfold nzT;rw[HB.out];rfl) (by rw[<-Ht.out];exact H2.out.1 (by simp))),znd (Below.after Hb.out HE.out.bel)⟩
         case measure=>(simp[intOf]<;>omega)
       ·go_wp2_with fail;go_ret;exact⟨za7 false ⟨fun h0=>absurd h0 (by decide),fun hr=>absurd (hr.nz t Hm.out) (by unfold nzT;rw[HB.out];decide)⟩,Below.after Hb.out HE.out.bel⟩
  ·obtain rfl:i=ts.length:=by omega
   have HP2:=znd (show RightP ts m w by have:=HP.out;rwa [List.take_length]at this);go_wp2_with fail;go_ret;exact⟨za7 true ⟨fun _=>HP2.out,fun _=>rfl⟩,Hb.out⟩

theorem GL.length {w W:World} {e:TypeId} {sz n c:Nat} {A:Option Addr} {cs:List (Array Value)} {ls:List Ow} {old new:World->Prop} (h:GL w (⟨e,sz,.slice A n c,cs⟩::ls) old new W):n=cs.length:=
 (show OwnE W w.heap.size e sz (.slice A n c) cs from h.own _ (List.mem_cons_self ..)).el.2
theorem zaY (p:Int×Rat) (a:Int):getQ [p] a=if p.1=a then p.2 else 0:=by
 show(if p.1=a then p.2 else 0)+0=_;rw[Rat.add_zero]
theorem Rise.later {ts:List TeV} (hr:Rise ts) {i m:Nat} (him:i+1<=m) (hm:m<ts.length):(ts[i]'(by omega)).pl<ts[m].pl:=hr.at_ (by omega) hm
def RetC (f:Int->Rat) (N L:Nat) (w:World) (e:Ending) (w':World):Prop:=
 ∃us:List (Int×Rat),us.Pairwise (fun p q=>p.1<q.1)/\(∀p∈us,nzP p=true/\Sz p.2 N)/\us.length<=L/\(∀a,getQ us a=f a)/\RetVec us w e w'

theorem zjM {p:Int×Rat} (h:nzP p=false):p.2=0:=by
 unfold nzP at h;have h1:(p.2.num.sign==0)=true:=by simpa using h
 rw[beq_iff_eq,Int.sign_eq_zero_iff_zero]at h1;exact Rat.num_eq_zero.1 h1
theorem zbB (l:List (Int×Rat)) (a:Int):getQ (l.filter nzP) a=getQ l a:=by
 induction l with
 |nil=>rfl
 |cons p l ih=>
  have e:getQ (p::l) a=getQ [p] a+getQ l a:=by rw[<-List.singleton_append,zaB]
  by_cases h:nzP p=true
  ·rw[List.filter_cons,if_pos h,e,<-ih,<-zaB];rfl
  ·have h':nzP p=false:=by simpa using h
   rw[List.filter_cons,if_neg h,ih,e,zaY,zjM h'];rw[show(if p.1=a then(0:Rat) else 0)=0 by split<;>rfl,Rat.zero_add]
theorem zcY {l:List TeV} {us:List (Int×Rat)} (h:l.map plq=us) (hu:us.Pairwise fun p q=>p.1<q.1):Rise l:=by
 subst h;exact(List.pairwise_map (f:=plq) (R:=fun p q:Int×Rat=>p.1<q.1)).1 hu
theorem Rise.map {l:List TeV} (h:Rise l):(l.map plq).Pairwise fun p q=>p.1<q.1:=(List.pairwise_map (f:=plq) (R:=fun p q:Int×Rat=>p.1<q.1)).2 h
theorem za2 {P:Program} {md:Region.Mode} {ops:Array Oper} {Q:Exit->Act->World->Prop} {S:World->Prop} {i:Nat} {oi:Oper} {v:Value} {fuel:Nat} {listed:Array Bool} {a:Act} {w:World} (d:Option Nat) (hi:ops[i]?=some oi) (hd:oi.dst=d)
 (hs:Region.noSelect ops=true) (hf:Region.free md ops listed i=true) (hr:(Region.ready md ops listed).contains i=true)
 (hQ:∀c a w,Q (.panic c) (a.put d v) w->Q (.panic c) a w) (hy:YieldsIf P ops S oi v a) (hS:S w)
 (h:wpAnyH P md ops Q S fuel (listed.setIfInBounds i true) (a.put d v) w):wpAnyH P md ops Q S (fuel+1) listed a w:=by
 subst hd;exact wpAnyH_take hi hs hf hr hQ hy hS h
theorem p1 (a:Act) (d:Nat) (v:Value):a.put (some d) v={a with tmps:=a.tmps.setIfInBounds d v}:=rfl
theorem p2 {α:Type} (l:List α) (i:Nat) (v:α):l.toArray.setIfInBounds i v=(l.set i v).toArray:=by simp
theorem p3 {α:Type} (a b:α) (l:List α):(a::l).set 0 b=b::l:=rfl
theorem p4 {α:Type} (a b:α) (l:List α) (n:Nat):(a::l).set (n+1) b=a::l.set n b:=rfl
theorem hT {P:Program} {md:Region.Mode} {ops:Array Oper} {Q:Exit->Act->World->Prop} {S:World->Prop} (i s:Nat) {oi:Oper} {v:Value} {fuel:Nat} {listed l2:Array Bool} {a a2:Act} {w:World} (hS:S w)
 (h:wpAnyH P md ops Q S fuel l2 a2 w) (hi:ops[i]?=some oi:=by rfl) (hd:oi.dst=some s:=by rfl) (hs:Region.noSelect ops=true:=by kernel_rfl) (hf:Region.free md ops listed i=true:=by kernel_rfl) (hr:(Region.ready md ops listed).contains i=true:=by kernel_rfl)
 (hw:Region.wanted oi (yielded ops a.tmps)=true:=by rfl)
 (hy:∀w,S w->(execOp a.eval oi).run P w=.ok (.value v) w:=by(intro w hSw;(try dsimp only at hSw);(first|(go_simp;done)|(go_simp;with_reducible rfl))))
 (hl:listed.setIfInBounds i true=l2:=by((try simp only[p2,p3,p4]);exact rfl)) (ha:a.put (some s) v=a2:=by((try simp only[p1,p2,p3,p4]);exact rfl))
 (hQ:∀c a w,Q (.panic c) (a.put (some s) v) w->Q (.panic c) a w:=by exact fun _ _ _ h=>h):wpAnyH P md ops Q S (fuel+1) listed a w:=by
 subst hl ha;exact za2 (some s) hi hd hs hf hr hQ (.inl ⟨hw,hy⟩) hS h
theorem zf1 {P:Program} {md:Region.Mode} {ops:Array Oper} {Q:Exit->Act->World->Prop} {S:World->Prop} {i:Nat} {o:Oper} {fuel:Nat} {listed:Array Bool} {a:Act} {w:World} (d:Option Nat) (hi:ops[i]?=some o) (hd:o.dst=d)
 (hr:Region.ready md ops listed=[i]) (hw:Region.wanted o (yielded ops a.tmps)=false) (hS:S w)
 (h:wpAnyH P md ops Q S fuel (listed.setIfInBounds i true) (a.put d undef) w):wpAnyH P md ops Q S (fuel+1) listed a w:=by
 subst hd;refine wpAnyH_ready hr (by simp) (AllReadyH.cons hi (fun K hK=>?_) AllReadyH.nil);rw[if_neg (by simp[hw])];exact hK.out _ _ hS (fun _=>h)
theorem za8 {P:Program} {md:Region.Mode} {ops:Array Oper} {Q:Exit->Act->World->Prop} {S:World->Prop} {i:Nat} {o:Oper} {fuel:Nat} {listed:Array Bool} {a:Act} {w:World} (hi:ops[i]?=some o)
 (hr:Region.ready md ops listed=[i]) (hw:Region.wanted o (yielded ops a.tmps)=true)
 (h:∀K:Act->World->Prop,Shut (∀a w,S w->(S w->wpAnyH P md ops Q S fuel (listed.setIfInBounds i true) a w)->K a w)->Oper.wp P o a w K Q):wpAnyH P md ops Q S (fuel+1) listed a w:=by
 refine wpAnyH_ready hr (by simp) (AllReadyH.cons hi (fun K hK=>?_) AllReadyH.nil);rw[if_pos hw];exact h K hK
theorem zaw (w:World):(sizeOf (Tryz.prog.elem 46)).run Tryz.prog w=.ok 1 w:=by kernel_rfl
structure VeV where
 A:Option Addr
 c:Nat
 ts:List TeV
def za3 (v:VeV):Array Value:=#[.slice v.A v.ts.length v.c]
def veD (n:Nat) (v:VeV) (W:World):Prop:=LsR 5 zw7 (teD n) v.A v.ts W
theorem zeE {n:Nat} (v:VeV) (W:World) (h:veD n v W):Rests W (·<W.heap.size) (veD n v):=LsR.old zah h
theorem LsR.vc {ok:VeV->World->Prop} {A:Option Addr} {l:List VeV} {w:World} (h:LsR 1 za3 ok A l w) (i:Nat) (hi:i<l.length):w.cell? (adr A i)=some (.slice (l[i]).A (l[i]).ts.length (l[i]).c):=by
 have hc:=h.cell i hi 0 (by decide)
 rwa [Nat.mul_one,Nat.add_zero]at hc
structure FoV where
 M:Int
 Ac:Option Addr
 cc:Nat
 cols:List VeV
 Al:Option Addr
 cl:Nat
 lo:List (RV×Rat)
 Ah:Option Addr
 ch:Nat
 hi:List (RV×Rat)
 Ak:Option Addr
 ck:Nat
 cost:List (RV×Rat)
 Ab:Option Addr
 cb:Nat
 b:List (RV×Rat)
abbrev cF (r:FoV):Array Value:=#[.int .i64 r.M,.slice r.Ac r.cols.length r.cc,.slice r.Al r.lo.length r.cl,.slice r.Ah r.hi.length r.ch,.slice r.Ak r.cost.length r.ck,.slice r.Ab r.b.length r.cb]
@[go_sem] theorem cF_e (r:FoV):cF r=#[.int .i64 r.M,.slice r.Ac r.cols.length r.cc,.slice r.Al r.lo.length r.cl,.slice r.Ah r.hi.length r.ch,.slice r.Ak r.cost.length r.ck,.slice r.Ab r.b.length r.cb]:=rfl
theorem RightP.same {ts:List TeV} {m:Int} {n:Nat} {A:Option Addr} {w W:World} (h:LsR 5 zw7 (teD n) A ts w) (hb:Below w.heap.size w W):RightP ts m W↔RightP ts m w:=by
 constructor
 ·rintro⟨h1,h2,h3,h4⟩;exact⟨h1,h2,h3,fun t ht=>((h.ok t ht).same hb).1 (h4 t ht)⟩
 ·rintro⟨h1,h2,h3,h4⟩;exact⟨h1,h2,h3,fun t ht=>((h.ok t ht).same hb).2 (h4 t ht)⟩
set_option maxRecDepth 100000 in
theorem Blk.old {w:World} {g:Nat} {t:TypeId} {cs:Array Value} (h:Blk w g t cs):Rests w (·<w.heap.size) (fun V=>Blk V g t cs):=⟨h,fun _ hw=>(hw g h.lt h.lt).trans h⟩
set_option maxRecDepth 100000 in
theorem RatD.zero_ (w:World) (n:Nat):RatD za9 0 n w:=⟨0,0,(zd9 w).int (Nat.zero_le _),(zd9 w).int (Nat.zero_le _),rfl⟩
theorem RatD.mono9 {r:RV} {q:Rat} {n m:Nat} {w:World} (h:RatD r q n w) (hm:n<=m):RatD r q m w:=by
 obtain⟨x,d,hx,hd,hq⟩:=h.ex;exact⟨x,d,hx.mono hm,hd.mono hm,hq⟩
instance:Inhabited VeV:=⟨⟨none,0,[]⟩⟩
theorem RetC.open {F:Int->Rat} {N L:Nat} {w:World} {e:Ending} {w':World} (h:RetC F N L w e w'):∃A c ts,e=.returned (.slice A (List.length ts) c)/\(Rise ts/\(∀t∈ts,nzT t=true/\Sz t.q N)/\ts.length<=L/\(∀a,getQ (ts.map plq) a=F a))/\Rests w' (w.heap.size<=·) (LsR 5 zw7 teN A ts)/\Below w.heap.size w w':=by
 obtain⟨us,h1,h2,h3,h4,A,c,ts,rfl,_,hts,hk,hb⟩:=h;subst hts;exact⟨A,c,ts,rfl,⟨zcY rfl h1,fun t ht=>h2 _ (List.mem_map_of_mem ht),by simpa using h3,h4⟩,hk,hb⟩
theorem zaO (p:Int×Rat) (l:List (Int×Rat)) (a:Int):getQ (p::l) a=(if p.1=a then p.2 else 0)+getQ l a:=by
 rw[<-List.singleton_append,zaB,zaY]
theorem zfs {p:Int×Rat} (h:nzP p=true):p.2≠0:=by
 intro e;unfold nzP at h;rw[e]at h;exact absurd h (by decide)
theorem zaW {l:List (Int×Rat)} {a:Int} (h:∀p∈l,a<p.1):getQ l a=0:=zan fun p hp e=>by have:=h p hp;omega
theorem zgX:∀{P Q:List (Int×Rat)},P.Pairwise (fun p q=>p.1<q.1)->Q.Pairwise (fun p q=>p.1<q.1)->(∀p∈P,nzP p=true)->(∀p∈Q,nzP p=true)->(∀a,getQ P a=getQ Q a)->P=Q
 |[],[],_,_,_,_,_=>rfl
 |[],q::Q,_,hq,_,nq,h=>by
  exfalso;have h1:=h q.1;rw[zaO,if_pos rfl,zaW (List.pairwise_cons.1 hq).1,Rat.add_zero]at h1;exact zfs (nq q (List.mem_cons_self ..)) h1.symm
 |p::P,[],hp,_,np,_,h=>by
  exfalso;have h1:=h p.1;rw[zaO,if_pos rfl,zaW (List.pairwise_cons.1 hp).1,Rat.add_zero]at h1;exact zfs (np p (List.mem_cons_self ..)) h1
 |p::P,q::Q,hp,hq,np,nq,h=>by
  have hp':=List.pairwise_cons.1 hp;have hq':=List.pairwise_cons.1 hq;have e:p.1=q.1:=by
   by_cases h1:p.1<q.1
   ·have h2:=h p.1;rw[zaO,if_pos rfl,zaW hp'.1,Rat.add_zero,zaO,if_neg (by omega),zaW fun x hx=>by have:=hq'.1 x hx;omega,Rat.add_zero]at h2;exact absurd h2 (zfs (np p (List.mem_cons_self ..)))
   ·by_cases h3:q.1<p.1
    ·have h2:=h q.1;rw[zaO,if_neg (by omega),zaW fun x hx=>by have:=hp'.1 x hx;omega,zaO,if_pos rfl,zaW hq'.1,Rat.add_zero,Rat.add_zero]at h2;exact absurd h2.symm (zfs (nq q (List.mem_cons_self ..)))
    ·omega
  have e2:p.2=q.2:=by
   have h2:=h p.1;rw[zaO,if_pos rfl,zaW hp'.1,zaO,if_pos e.symm,zaW fun x hx=>by rw[e];exact hq'.1 x hx,Rat.add_zero,Rat.add_zero]at h2;exact h2
  have e3:p=q:=Prod.ext e e2;subst e3
  rw[zgX hp'.2 hq'.2 (fun x hx=>np x (List.mem_cons_of_mem _ hx)) (fun x hx=>nq x (List.mem_cons_of_mem _ hx)) fun a=>by
   have h2:=h a;rw[zaO,zaO]at h2;exact Rat.add_left_cancel _ h2]
section
variable {P:Program}
@[go_sem] theorem run_indexAt_el9 (w:World) (t:TypeId) (A:Option Addr) (len cap:Nat) (k:IntKind) (i:Int) (hs:Sl A len)
 (h:P.underlying t=some (.slice (P.elem t))) (h1:(sizeOf (P.elem t)).run P w=.ok 9 w):
 (Instr.indexAt t (.slice A len cap) (.int k i)).run P w=
  if 0<=i/\i<len then .ok (.pointer (some (adr A (i.toNat*9)))) w else(boundsPanic k i len .index).run P w:=by
 rcases A with _|a
 ·have h0:len=0:=by
   rcases Nat.eq_zero_or_pos len with h|h
   ·exact h
   ·obtain⟨_,_,h⟩:=hs h;cases h
  subst h0;rw[if_neg (by omega)];simp[Instr.indexAt,run_underlying h,asIntOf]
 ·rw[run_indexAt_slice w t a len cap k i h]
  split
  ·rename_i hi
   obtain⟨b,o,e⟩:=hs (by omega)
   cases e
   rw[h1];simp only[Result.andThen_ok,zaf,za6]
  ·rfl
@[go_sem] theorem run_indexAt_el6 (w:World) (t:TypeId) (A:Option Addr) (len cap:Nat) (k:IntKind) (i:Int) (hs:Sl A len)
 (h:P.underlying t=some (.slice (P.elem t))) (h1:(sizeOf (P.elem t)).run P w=.ok 6 w):
 (Instr.indexAt t (.slice A len cap) (.int k i)).run P w=
  if 0<=i/\i<len then .ok (.pointer (some (adr A (i.toNat*6)))) w else(boundsPanic k i len .index).run P w:=by
 rcases A with _|a
 ·have h0:len=0:=by
   rcases Nat.eq_zero_or_pos len with h|h
   ·exact h
   ·obtain⟨_,_,h⟩:=hs h;cases h
  subst h0;rw[if_neg (by omega)];simp[Instr.indexAt,run_underlying h,asIntOf]
 ·rw[run_indexAt_slice w t a len cap k i h]
  split
  ·rename_i hi
   obtain⟨b,o,e⟩:=hs (by omega)
   cases e
   rw[h1];simp only[Result.andThen_ok,zaf,za6]
  ·rfl
end
structure VaV where
 lo:RV×Rat
 hi:RV×Rat
 int:Bool
structure RoV where
 A:Option Addr
 c:Nat
 ts:List TeV
 kind:Int
 b:RV×Rat
@[reducible] def VC (A:Option Addr) (i:Nat) (v:VaV) (W:World):Prop:=
 W.cell? (adr A (i*9))=some (.bool v.lo.1.num.neg)/\W.cell? (adr A (i*9+1))=some (.slice v.lo.1.num.A v.lo.1.num.k v.lo.1.num.c)/\W.cell? (adr A (i*9+2))=some (.bool v.lo.1.den.neg)/\W.cell? (adr A (i*9+3))=some (.slice v.lo.1.den.A v.lo.1.den.k v.lo.1.den.c)/\W.cell? (adr A (i*9+4))=some (.bool v.hi.1.num.neg)/\W.cell? (adr A (i*9+5))=some (.slice v.hi.1.num.A v.hi.1.num.k v.hi.1.num.c)/\W.cell? (adr A (i*9+6))=some (.bool v.hi.1.den.neg)/\W.cell? (adr A (i*9+7))=some (.slice v.hi.1.den.A v.hi.1.den.k v.hi.1.den.c)/\W.cell? (adr A (i*9+8))=some (.bool v.int)
@[reducible] def WC (A:Option Addr) (i:Nat) (v:RoV) (W:World):Prop:=
 W.cell? (adr A (i*6))=some (.slice v.A v.ts.length v.c)/\W.cell? (adr A (i*6+1))=some (.int .u8 v.kind)/\W.cell? (adr A (i*6+2))=some (.bool v.b.1.num.neg)/\W.cell? (adr A (i*6+3))=some (.slice v.b.1.num.A v.b.1.num.k v.b.1.num.c)/\W.cell? (adr A (i*6+4))=some (.bool v.b.1.den.neg)/\W.cell? (adr A (i*6+5))=some (.slice v.b.1.den.A v.b.1.den.k v.b.1.den.c)
end Go.Proofs.YtegfiemlnnpidaaGreatDoor
