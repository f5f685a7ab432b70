/-
 The example's values. tripwirelaw17.awake.
-/
import Derived.Test.YtfdmajmhmligpaaGreatDoorKO
namespace Go.Proofs.YtfdmajmhmligpaaGreatDoor
set_option maxHeartbeats 4000000
open Go.RowKit

theorem PlK.fo {p:PlK} {lo hi:List (RV×Rat)} {V:World} (h:p.rest V) (hl:LsR 4 za0 roN (some ⟨p.gl,0,none⟩) lo V) (hh:LsR 4 za0 roN (some ⟨p.gh,0,none⟩) hi V) (sl:∀x∈lo,Sz x.2 4) (sh:∀x∈hi,Sz x.2 4):FoD 4 (p.form lo hi) V:=by
 have s1:Sz 1 4:=⟨of_decide_eq_true (by kernel_rfl),of_decide_eq_true (by kernel_rfl)⟩
 refine⟨h.1.imp fun v hv hok=>LsR.imp hok fun t ht hn=>RatN.rat hn ?_,hl.imp fun x hx hn=>RatN.rat hn (sl x hx),hh.imp fun x hx hn=>RatN.rat hn (sh x hx),h.2.1.imp fun x hx hn=>RatN.rat hn ?_,h.2.2.1.imp fun x hx hn=>RatN.rat hn ?_⟩
 ·simp only[PlK.cols,List.mem_cons,List.not_mem_nil,or_false]at hv
  rcases hv with rfl|rfl
  ·rw[List.mem_singleton.1 ht];exact s1
  ·rw[List.mem_singleton.1 ht];exact s1
 ·simp only[PlK.cost,List.mem_cons,List.not_mem_nil,or_false]at hx
  rcases hx with rfl|rfl
  ·exact⟨of_decide_eq_true (by kernel_rfl),of_decide_eq_true (by kernel_rfl)⟩
  ·exact⟨of_decide_eq_true (by kernel_rfl),of_decide_eq_true (by kernel_rfl)⟩
 ·simp only[PlK.b,List.mem_singleton]at hx
  rw[hx];exact⟨of_decide_eq_true (by kernel_rfl),of_decide_eq_true (by kernel_rfl)⟩
theorem PlK.small (p:PlK) (lo hi:List (RV×Rat)) (h1:lo.length=2) (h2:hi.length=2):FSmall (p.form lo hi):=by
 refine⟨of_decide_eq_true (by kernel_rfl),by show 2≤12;omega,fun v hv=>?_,by show lo.length≤20;omega,by show hi.length≤20;omega,by show 2≤20;omega,by show 1≤20;omega⟩
 simp only[PlK.form,PlK.cols,List.mem_cons,List.not_mem_nil,or_false]at hv
 rcases hv with rfl|rfl<;>show 1≤20<;>omega
theorem PlK.right {p:PlK} {a b c d:RV×Rat} {V:World} (h:p.rest V) (h1:¬0<cmpQ a.2 c.2) (h2:¬0<cmpQ b.2 d.2):FRight (p.form [a,b] [c,d]) V:=by
 refine⟨of_decide_eq_true (by kernel_rfl),rfl,rfl,rfl,rfl,fun j hj=>?_,fun j hj hj'=>?_⟩
 ·have hok:=h.1.ok _ (List.getElem_mem (l:=p.cols) hj)
  match j,hj with
  |0,_=>exact⟨fun t ht=>by rw[List.mem_singleton.1 ht];exact⟨of_decide_eq_true (by kernel_rfl),of_decide_eq_true (by kernel_rfl)⟩,List.pairwise_singleton _ _,fun t ht=>by rw[List.mem_singleton.1 ht];exact of_decide_eq_true (by kernel_rfl),fun t ht=>LsR.ok hok t ht⟩
  |1,_=>exact⟨fun t ht=>by rw[List.mem_singleton.1 ht];exact⟨of_decide_eq_true (by kernel_rfl),of_decide_eq_true (by kernel_rfl)⟩,List.pairwise_singleton _ _,fun t ht=>by rw[List.mem_singleton.1 ht];exact of_decide_eq_true (by kernel_rfl),fun t ht=>LsR.ok hok t ht⟩
 ·match j,hj with
  |0,_=>exact h1
  |1,_=>exact h2
theorem zoo (p:PlK) (a b:RV):bndQ (p.form [(zeroR,0),(zeroR,0)] [(a,3),(b,9)]) (vecL ([].take (min 0 1))) (dotQ (vecL ([].take (min 0 1))) (vecL p.b)) (fun i=>(p.cost[i]!).2) 2=-3:=of_decide_eq_true (by kernel_rfl)
theorem zon (p:PlK) (a b k:RV):bndQ (p.form [(zeroR,0),(zeroR,0)] [(a,3),(b,9)]) (vecL ([(k,-1)].take (min 1 1))) (dotQ (vecL ([(k,-1)].take (min 1 1))) (vecL p.b)) (fun i=>(p.cost[i]!).2) 2=-4:=of_decide_eq_true (by kernel_rfl)
theorem pl_best (p:PlK) (a b k l:RV):dotQ (vecL p.cost) (vecL [(k,3),(l,1)])=bndQ (p.form [(zeroR,0),(zeroR,0)] [(a,3),(b,9)]) (vecL ([(zeroR,0)].take (min 1 1))) (dotQ (vecL ([(zeroR,0)].take (min 1 1))) (vecL p.b)) (fun i=>(p.cost[i]!).2) 2:=of_decide_eq_true (by kernel_rfl)
theorem pl_g (q:PlK) (a b c k:RV):¬0<(bndQ (q.form [(zeroR,0),(c,2)] [(a,3),(b,9)]) (vecL ([(k,1)].take (min 1 1))) (dotQ (vecL ([(k,1)].take (min 1 1))) (vecL q.b)) (fun _=>(0:Rat)) 2).num.sign:=of_decide_eq_true (by kernel_rfl)
theorem pl_h (q:PlK) (a c k:RV):0<(bndQ (q.form [(zeroR,0),(c,-9)] [(a,3),(zeroR,0)]) (vecL ([(k,1)].take (min 1 1))) (dotQ (vecL ([(k,1)].take (min 1 1))) (vecL q.b)) (fun _=>(0:Rat)) 2).num.sign:=of_decide_eq_true (by kernel_rfl)
theorem pl_feas {p:PlK} {V:World} {a b k l:RV} (hR:FRight (p.form [(zeroR,0),(zeroR,0)] [(a,3),(b,9)]) V):FeasP (p.form [(zeroR,0),(zeroR,0)] [(a,3),(b,9)]) [(k,3),(l,1)] V:=by
 refine⟨hR,rfl,fun j hj hj'=>?_,fun j hj hj'=>?_,fun i hi=>?_⟩
 ·match j,hj with
  |0,_=>exact of_decide_eq_true (by kernel_rfl)
  |1,_=>exact of_decide_eq_true (by kernel_rfl)
 ·match j,hj with
  |0,_=>exact of_decide_eq_true (by kernel_rfl)
  |1,_=>exact of_decide_eq_true (by kernel_rfl)
 ·match i,hi with
  |0,_=>exact of_decide_eq_true (by kernel_rfl)

theorem Env.put_at {w W:World} {bs:List Bo} {old new:World→Prop} {g:Nat} {t:TypeId} {cs:Array Value} (l:List Bo) (h:Env w (l++⟨g,t,cs⟩::bs) old new W) (i:Nat) (v:Value):Env w (l++⟨g,t,cs.setIfInBounds i v⟩::bs) old new (W.setCell ⟨g,i,none⟩ v):=
 ((h.perm List.perm_middle.symm).put i v).perm List.perm_middle
def f00:FoV:=⟨-1,none,0,[],none,0,[],none,0,[],none,0,[],none,0,[]⟩
theorem zol (V:World):FoD 4 f00 V:=⟨LsR.nil_ none,LsR.nil_ none,LsR.nil_ none,LsR.nil_ none,LsR.nil_ none⟩
theorem znU:FSmall f00:=⟨by decide,by decide,fun v hv=>absurd hv (by simp[f00]),by decide,by decide,by decide,by decide⟩
theorem zoh {B:Bool} {P Q:Prop} (hB:B=true↔P∧Q) (h:¬Q):B=false:=by
 cases B
 ·rfl
 ·exact absurd (hB.1 rfl).2 h
theorem zok {B:Bool} {V:World} {Q:Prop} (hB:B=true↔FRight f00 V∧Q):B=false:=by
 cases B
 ·rfl
 ·exact absurd (hB.1 rfl).1.M0 (by decide)
theorem Env.rebase {w W:World} {old new:World→Prop} (h:Env w [] old new W):Env W [] (fun V=>old V∧new V) (fun _=>True) W:=Env.start ((h.rso.lt.mono fun _ h=>h.2).and (h.rsn.lt.mono fun _ h=>h.2))
theorem zny:Sz 0 4:=⟨by decide,by decide⟩
theorem znW:Sz 1 4:=⟨by decide,by decide⟩
theorem zog:Sz 2 4:=⟨by decide,by decide⟩
theorem znx:Sz 3 4:=⟨by decide,by decide⟩
theorem znS:Sz 9 4:=⟨by decide,by decide⟩
theorem zo3:Sz (-9) 4:=⟨by decide,by decide⟩
theorem znK:Sz (-3) 4:=⟨by decide,by decide⟩
theorem znH:Sz (-4) 4:=⟨by decide,by decide⟩
theorem znZ:Sz (-1) 4:=⟨by decide,by decide⟩
theorem RetR.eq {a b:Rat} {w:World} {e:Ending} {w':World} (h:RetR a w e w') (hab:a=b):RetR b w e w':=hab▸h
theorem Env.nm {w W:World} {bs:List Bo} {old new:World→Prop} (h:Env w bs old new W):∃W2,W=W2∧Hid (Env w bs old new W2):=⟨W,rfl,znd h⟩
theorem znL {P:Program} {md:Region.Mode} {ops:Array Oper} {Q:Exit→Act→World→Prop} {S:World→Prop} {n:Nat} {l:Array Bool} {a:Act} {w:World} (m:Nat) (hm:n=m) (l':Array Bool) (hl:l=l')
 (h:∀Q',Q'=Q→∀ops',ops'=ops→∀a',a'=a→∀S',S'=S→wpAnyH P md ops' Q' S' m l' a' w):wpAnyH P md ops Q S n l a w:=by
 subst hm;subst hl;exact h _ rfl _ rfl _ rfl _ rfl
abbrev fpl (p:PlK):Array Value:=#[.int .i64 1,.slice (some ⟨p.gc,0,none⟩) 2 2,.slice (some ⟨p.gl,0,none⟩) 2 2,.slice (some ⟨p.gh,0,none⟩) 2 2,.slice (some ⟨p.gk,0,none⟩) 2 2,.slice (some ⟨p.gb,0,none⟩) 1 1]
theorem PlK.agg_eq (p:PlK):p.agg=.agg #[.int .i64 1,.slice (some ⟨p.gc,0,none⟩) 2 2,.slice (some ⟨p.gl,0,none⟩) 2 2,.slice (some ⟨p.gh,0,none⟩) 2 2,.slice (some ⟨p.gk,0,none⟩) 2 2,.slice (some ⟨p.gb,0,none⟩) 1 1]:=rfl
def aOld (s:Nat) (p q r:PlK) (kg kh ko:RV) (g1:Nat) (V:World):Prop:=Blk V s 32 (fpl p)∧Blk V (s+1) 32 (fpl q)∧Blk V (s+1+1) 32 (fpl r)∧FoD 4 (p.form [(zeroR,0),(zeroR,0)] [(p.k3,3),(p.k4,9)]) V∧FRight (p.form [(zeroR,0),(zeroR,0)] [(p.k3,3),(p.k4,9)]) V∧FoD 4 (q.form [(zeroR,0),(kg,2)] [(q.k3,3),(q.k4,9)]) V∧FRight (q.form [(zeroR,0),(kg,2)] [(q.k3,3),(q.k4,9)]) V∧FoD 4 (r.form [(zeroR,0),(kh,-9)] [(r.k3,3),(zeroR,0)]) V∧FRight (r.form [(zeroR,0),(kh,-9)] [(r.k3,3),(zeroR,0)]) V∧LsR 4 za0 (roD 4) (some ⟨g1,0,none⟩) [(ko,1)] V∧Tz V
set_option maxRecDepth 100000 in
theorem zd7 (w:World) (hT:Tz w):Calls Tryz.prog 19 #[] w fun e w'=>e=.returned (.bool true)∧Below w.heap.size w w':=by
 have HE:=znd (Env.start hT.old)
 clear hT
 go_enter Tryz.func19,Tryz.ntmps19
 go_wp2_with fail
 refine(ziZ _ HE.out.o).mono ?_
 rintro e w1 ⟨p,rfl,hp⟩
 rw[p.agg_eq]
 replace HE:=znd (((Env.join HE.out hp).read).read)
 clear hp
 go_wp2_with fail
 refine(ziZ _ HE.out.o).mono ?_
 rintro e w1 ⟨q,rfl,hp⟩
 rw[q.agg_eq]
 replace HE:=znd ((Env.join HE.out hp).read)
 clear hp
 go_wp2_with fail
 refine(ziZ _ HE.out.o).mono ?_
 rintro e w1 ⟨r,rfl,hp⟩
 rw[r.agg_eq]
 replace HE:=znd (show Env w [⟨r.gh,48,(c8 (r.k3,3) (r.k4,9))⟩,⟨r.gl,48,(c8 (zeroR,0) (zeroR,0))⟩,⟨q.gl,48,(c8 (zeroR,0) (zeroR,0))⟩] Tz (fun V=>r.rest V∧Blk V q.gh 48 (c8 (q.k3,3) (q.k4,9))∧q.rest V∧Blk V p.gl 48 (c8 (zeroR,0) (zeroR,0))∧Blk V p.gh 48 (c8 (p.k3,3) (p.k4,9))∧p.rest V∧True) _ from Env.join HE.out hp)
 clear hp
 go_upto_region 2 with fail
 obtain⟨W2,hW2,HE2⟩:=Env.nm (show Env w [⟨(w1.heap.size+1+1),32,(fpl r)⟩,⟨(w1.heap.size+1),32,(fpl q)⟩,⟨w1.heap.size,32,(fpl p)⟩,⟨r.gh,48,(c8 (r.k3,3) (r.k4,9))⟩,⟨r.gl,48,(c8 (zeroR,0) (zeroR,0))⟩,⟨q.gl,48,(c8 (zeroR,0) (zeroR,0))⟩] Tz (fun V=>r.rest V∧Blk V q.gh 48 (c8 (q.k3,3) (q.k4,9))∧q.rest V∧Blk V p.gl 48 (c8 (zeroR,0) (zeroR,0))∧Blk V p.gh 48 (c8 (p.k3,3) (p.k4,9))∧p.rest V∧True) _ from(((HE.out.new_ (g:=w1.heap.size) rfl 32 (fpl p)).new_ (g:=w1.heap.size+1) (by simp) 32 (fpl q)).new_ (g:=w1.heap.size+1+1) (by simp) 32 (fpl r)))
 rw[hW2]
 clear hW2 HE
 have HE:=HE2
 clear HE2
 have hszr:=zal
 have hadd:=zaa
 have HC:=znd (fun(V:World) {nw:World→Prop} (h:Env w [⟨(w1.heap.size+1+1),32,(fpl r)⟩,⟨(w1.heap.size+1),32,(fpl q)⟩,⟨w1.heap.size,32,(fpl p)⟩,⟨r.gh,48,(c8 (r.k3,3) (r.k4,9))⟩,⟨r.gl,48,(c8 (zeroR,0) (zeroR,0))⟩,⟨q.gl,48,(c8 (zeroR,0) (zeroR,0))⟩] Tz nw V)=>((h.bx ⟨(w1.heap.size+1),32,(fpl q)⟩ (by simp)).cb))
 have slq:Sl (some ⟨q.gl,0,none⟩) 2:=Sl.some_ _ _ _
 have hadr:∀j,adr (some ⟨q.gl,0,none⟩) j=⟨q.gl,j,none⟩:=fun j=>by rw[za6,Nat.zero_add]
 have c:=HC.out _ HE.out
 clear c
 refine wp_region_noPanic ?_
 refine zab 4 (fun W=>CB (w1.heap.size+1) #[.int .i64 1,.slice (some ⟨q.gc,0,none⟩) 2 2,.slice (some ⟨q.gl,0,none⟩) 2 2,.slice (some ⟨q.gh,0,none⟩) 2 2,.slice (some ⟨q.gk,0,none⟩) 2 2,.slice (some ⟨q.gb,0,none⟩) 1 1] W) (by kernel_rfl) (by with_reducible first|exact HC.out _ HE.out|exact HC.out _ HE.out.drew) (fun hHeld=>?_)
 replace HE:=znd HE.out.drew
 refine gTa 0 8 hHeld ?_
 refine gTa 1 9 hHeld ?_
 refine gC 2 rfl (by kernel_rfl) (by rfl) (fun K hK=>?_)
 clear hHeld
 simp only[q1,q2,q3]
 go_simp
 refine(zbC _ (2) (2) (by decide+kernel) (by decide) (by decide) HE.out.o).mono ?_
 rintro e w3 ⟨kg,rfl,hk,hb⟩
 replace HE:=znd (Env.ret HE.out hk hb)
 clear hk hb
 (try(go_wp2_with fail))
 refine hK.out _ _ (by with_reducible first|exact HC.out _ HE.out|exact HC.out _ HE.out.drew) (fun hHeld=>?_)
 clear hK K
 try simp only[p1,p2,p3,p4]
 refine gTa 3 11 hHeld ?_
 have c:=(show CB q.gl #[.bool false,.slice none 0 0,.bool false,.slice none 0 0,.bool false,.slice none 0 0,.bool false,.slice none 0 0] _ from((HE.out.bx ⟨q.gl,48,(c8 (zeroR,0) (zeroR,0))⟩ (by simp)).cb))
 refine gL rfl (by kernel_rfl) (by kernel_rfl) (by rfl) (fun K hK=>?_)
 clear hHeld
 simp only[q1,q2,q3]
 go_simp
 (try(go_wp2_with fail))
 refine hK.out _ _ ?_
 clear hK K
 try simp only[p1,p2,p3,p4]
 refine NoPanic.normal ?_
 obtain⟨W4,hW4,HE2⟩:=Env.nm (show Env w [⟨(w1.heap.size+1+1),32,(fpl r)⟩,⟨(w1.heap.size+1),32,(fpl q)⟩,⟨w1.heap.size,32,(fpl p)⟩,⟨r.gh,48,(c8 (r.k3,3) (r.k4,9))⟩,⟨r.gl,48,(c8 (zeroR,0) (zeroR,0))⟩,⟨q.gl,48,(c8 (zeroR,0) (kg,2))⟩] Tz (fun V=>RatN kg 2 V∧r.rest V∧Blk V q.gh 48 (c8 (q.k3,3) (q.k4,9))∧q.rest V∧Blk V p.gl 48 (c8 (zeroR,0) (zeroR,0))∧Blk V p.gh 48 (c8 (p.k3,3) (p.k4,9))∧p.rest V∧True) _ from(Env.put_at [⟨(w1.heap.size+1+1),32,(fpl r)⟩,⟨(w1.heap.size+1),32,(fpl q)⟩,⟨w1.heap.size,32,(fpl p)⟩,⟨r.gh,48,(c8 (r.k3,3) (r.k4,9))⟩,⟨r.gl,48,(c8 (zeroR,0) (zeroR,0))⟩] (Env.put_at [⟨(w1.heap.size+1+1),32,(fpl r)⟩,⟨(w1.heap.size+1),32,(fpl q)⟩,⟨w1.heap.size,32,(fpl p)⟩,⟨r.gh,48,(c8 (r.k3,3) (r.k4,9))⟩,⟨r.gl,48,(c8 (zeroR,0) (zeroR,0))⟩] (Env.put_at [⟨(w1.heap.size+1+1),32,(fpl r)⟩,⟨(w1.heap.size+1),32,(fpl q)⟩,⟨w1.heap.size,32,(fpl p)⟩,⟨r.gh,48,(c8 (r.k3,3) (r.k4,9))⟩,⟨r.gl,48,(c8 (zeroR,0) (zeroR,0))⟩] (Env.put_at [⟨(w1.heap.size+1+1),32,(fpl r)⟩,⟨(w1.heap.size+1),32,(fpl q)⟩,⟨w1.heap.size,32,(fpl p)⟩,⟨r.gh,48,(c8 (r.k3,3) (r.k4,9))⟩,⟨r.gl,48,(c8 (zeroR,0) (zeroR,0))⟩] HE.out 4 (.bool kg.num.neg)) 5 (.slice kg.num.A kg.num.k kg.num.c)) 6 (.bool kg.den.neg)) 7 (.slice kg.den.A kg.den.k kg.den.c)))
 rw[hW4]
 clear hW4 HE c HC
 have HE:=HE2
 clear HE2
 have HC:=znd (fun(V:World) {nw:World→Prop} (h:Env w [⟨(w1.heap.size+1+1),32,(fpl r)⟩,⟨(w1.heap.size+1),32,(fpl q)⟩,⟨w1.heap.size,32,(fpl p)⟩,⟨r.gh,48,(c8 (r.k3,3) (r.k4,9))⟩,⟨r.gl,48,(c8 (zeroR,0) (zeroR,0))⟩,⟨q.gl,48,(c8 (zeroR,0) (kg,2))⟩] Tz nw V)=>((h.bx ⟨(w1.heap.size+1+1),32,(fpl r)⟩ (by simp)).cb))
 have slh:Sl (some ⟨r.gl,0,none⟩) 2:=Sl.some_ _ _ _
 have slh2:Sl (some ⟨r.gh,0,none⟩) 2:=Sl.some_ _ _ _
 have hadr2:∀j,adr (some ⟨r.gl,0,none⟩) j=⟨r.gl,j,none⟩:=fun j=>by rw[za6,Nat.zero_add]
 have hadr3:∀j,adr (some ⟨r.gh,0,none⟩) j=⟨r.gh,j,none⟩:=fun j=>by rw[za6,Nat.zero_add]
 go_upto_region 3 with fail
 refine wp_region_noPanic ?_
 refine zab 9 (fun W=>CB (w1.heap.size+1+1) #[.int .i64 1,.slice (some ⟨r.gc,0,none⟩) 2 2,.slice (some ⟨r.gl,0,none⟩) 2 2,.slice (some ⟨r.gh,0,none⟩) 2 2,.slice (some ⟨r.gk,0,none⟩) 2 2,.slice (some ⟨r.gb,0,none⟩) 1 1] W) (by kernel_rfl) (by with_reducible first|exact HC.out _ HE.out|exact HC.out _ HE.out.drew|exact HC3.out _ HE.out) (fun hHeld=>?_)
 replace HE:=znd HE.out.drew
 refine gTa 0 12 hHeld ?_
 refine gTa 1 13 hHeld ?_
 refine gTa 2 14 hHeld ?_
 refine gTa 3 15 hHeld ?_
 refine gTa 5 17 hHeld ?_
 refine gC 4 rfl (by kernel_rfl) (by rfl) (fun K hK=>?_)
 clear hHeld
 simp only[q1,q2,q3]
 go_simp
 refine(zbC _ (-9) (-9) (by decide+kernel) (by decide) (by decide) HE.out.o).mono ?_
 rintro e w3 ⟨kh,rfl,hk,hb⟩
 replace HE:=znd (Env.ret HE.out hk hb)
 clear hk hb
 have c:=(show CB r.gl #[.bool false,.slice none 0 0,.bool false,.slice none 0 0,.bool false,.slice none 0 0,.bool false,.slice none 0 0] _ from((HE.out.bx ⟨r.gl,48,(c8 (zeroR,0) (zeroR,0))⟩ (by simp)).cb))
 (try(go_wp2_with fail))
 refine hK.out _ _ (by with_reducible first|exact HC.out _ HE.out|exact HC.out _ HE.out.drew|exact HC3.out _ HE.out) (fun hHeld=>?_)
 clear hK K
 try simp only[p1,p2,p3,p4]
 refine gTa 6 18 hHeld ?_
 refine gC 7 rfl (by kernel_rfl) (by rfl) (fun K hK=>?_)
 clear hHeld
 simp only[q1,q2,q3]
 go_simp
 obtain⟨W5,hW5,HE2⟩:=Env.nm (show Env w [⟨(w1.heap.size+1+1),32,(fpl r)⟩,⟨(w1.heap.size+1),32,(fpl q)⟩,⟨w1.heap.size,32,(fpl p)⟩,⟨r.gh,48,(c8 (r.k3,3) (r.k4,9))⟩,⟨r.gl,48,(c8 (zeroR,0) (kh,-9))⟩,⟨q.gl,48,(c8 (zeroR,0) (kg,2))⟩] Tz (fun V=>RatN kh (-9) V∧RatN kg 2 V∧r.rest V∧Blk V q.gh 48 (c8 (q.k3,3) (q.k4,9))∧q.rest V∧Blk V p.gl 48 (c8 (zeroR,0) (zeroR,0))∧Blk V p.gh 48 (c8 (p.k3,3) (p.k4,9))∧p.rest V∧True) _ from(Env.put_at [⟨(w1.heap.size+1+1),32,(fpl r)⟩,⟨(w1.heap.size+1),32,(fpl q)⟩,⟨w1.heap.size,32,(fpl p)⟩,⟨r.gh,48,(c8 (r.k3,3) (r.k4,9))⟩] (Env.put_at [⟨(w1.heap.size+1+1),32,(fpl r)⟩,⟨(w1.heap.size+1),32,(fpl q)⟩,⟨w1.heap.size,32,(fpl p)⟩,⟨r.gh,48,(c8 (r.k3,3) (r.k4,9))⟩] (Env.put_at [⟨(w1.heap.size+1+1),32,(fpl r)⟩,⟨(w1.heap.size+1),32,(fpl q)⟩,⟨w1.heap.size,32,(fpl p)⟩,⟨r.gh,48,(c8 (r.k3,3) (r.k4,9))⟩] (Env.put_at [⟨(w1.heap.size+1+1),32,(fpl r)⟩,⟨(w1.heap.size+1),32,(fpl q)⟩,⟨w1.heap.size,32,(fpl p)⟩,⟨r.gh,48,(c8 (r.k3,3) (r.k4,9))⟩] HE.out 4 (.bool kh.num.neg)) 5 (.slice kh.num.A kh.num.k kh.num.c)) 6 (.bool kh.den.neg)) 7 (.slice kh.den.A kh.den.k kh.den.c)))
 rw[hW5]
 clear hW5 HE c
 have HE:=HE2
 clear HE2
 have HC3:=znd (fun(V:World) {nw:World→Prop} (h:Env w [⟨(w1.heap.size+1+1),32,(fpl r)⟩,⟨(w1.heap.size+1),32,(fpl q)⟩,⟨w1.heap.size,32,(fpl p)⟩,⟨r.gh,48,(c8 (r.k3,3) (r.k4,9))⟩,⟨r.gl,48,(c8 (zeroR,0) (kh,-9))⟩,⟨q.gl,48,(c8 (zeroR,0) (kg,2))⟩] Tz nw V)=>((h.bx ⟨(w1.heap.size+1+1),32,(fpl r)⟩ (by simp)).cb))
 (try(go_wp2_with fail))
 refine hK.out _ _ (by with_reducible first|exact HC.out _ HE.out|exact HC.out _ HE.out.drew|exact HC3.out _ HE.out) (fun hHeld=>?_)
 clear hK K
 try simp only[p1,p2,p3,p4]
 refine gTa 8 19 hHeld ?_
 have c:=(show CB r.gh #[.bool r.k3.num.neg,.slice r.k3.num.A r.k3.num.k r.k3.num.c,.bool r.k3.den.neg,.slice r.k3.den.A r.k3.den.k r.k3.den.c,.bool r.k4.num.neg,.slice r.k4.num.A r.k4.num.k r.k4.num.c,.bool r.k4.den.neg,.slice r.k4.den.A r.k4.den.k r.k4.den.c] _ from((HE.out.bx ⟨r.gh,48,(c8 (r.k3,3) (r.k4,9))⟩ (by simp)).cb))
 refine gL rfl (by kernel_rfl) (by kernel_rfl) (by rfl) (fun K hK=>?_)
 clear hHeld
 simp only[q1,q2,q3]
 go_simp
 (try(go_wp2_with fail))
 refine hK.out _ _ ?_
 clear hK K
 try simp only[p1,p2,p3,p4]
 refine NoPanic.normal ?_
 obtain⟨W6,hW6,HE2⟩:=Env.nm (show Env w [⟨(w1.heap.size+1+1),32,(fpl r)⟩,⟨(w1.heap.size+1),32,(fpl q)⟩,⟨w1.heap.size,32,(fpl p)⟩,⟨r.gh,48,(c8 (r.k3,3) (zeroR,0))⟩,⟨r.gl,48,(c8 (zeroR,0) (kh,-9))⟩,⟨q.gl,48,(c8 (zeroR,0) (kg,2))⟩] Tz (fun V=>RatN kh (-9) V∧RatN kg 2 V∧r.rest V∧Blk V q.gh 48 (c8 (q.k3,3) (q.k4,9))∧q.rest V∧Blk V p.gl 48 (c8 (zeroR,0) (zeroR,0))∧Blk V p.gh 48 (c8 (p.k3,3) (p.k4,9))∧p.rest V∧True) _ from(Env.put_at [⟨(w1.heap.size+1+1),32,(fpl r)⟩,⟨(w1.heap.size+1),32,(fpl q)⟩,⟨w1.heap.size,32,(fpl p)⟩] (Env.put_at [⟨(w1.heap.size+1+1),32,(fpl r)⟩,⟨(w1.heap.size+1),32,(fpl q)⟩,⟨w1.heap.size,32,(fpl p)⟩] (Env.put_at [⟨(w1.heap.size+1+1),32,(fpl r)⟩,⟨(w1.heap.size+1),32,(fpl q)⟩,⟨w1.heap.size,32,(fpl p)⟩] (Env.put_at [⟨(w1.heap.size+1+1),32,(fpl r)⟩,⟨(w1.heap.size+1),32,(fpl q)⟩,⟨w1.heap.size,32,(fpl p)⟩] HE.out 4 (.bool false)) 5 (.slice none 0 0)) 6 (.bool false)) 7 (.slice none 0 0)))
 rw[hW6]
 clear hW6 HE c HC HC3
 have HE:=HE2
 clear HE2
 go_wp2_with fail
 refine(zbC _ (1) (1) (by decide+kernel) (by decide) (by decide) HE.out.o).mono ?_
 rintro e w3 ⟨ko,rfl,hk,hb⟩
 replace HE:=znd (Env.ret HE.out hk hb)
 clear hk hb
 go_upto_region 5 with fail
 obtain⟨W7,g1,hW7,hg1,HE2⟩:=Env.al HE.out 48 #[.bool ko.num.neg,.slice ko.num.A ko.num.k ko.num.c,.bool ko.den.neg,.slice ko.den.A ko.den.k ko.den.c]
 rw[hW7,hg1]
 clear hW7 hg1 HE
 have HE:=HE2
 clear HE2
 have HB1:=znd HE.out.bel
 replace HE:=znd ((Env.rebase (Env.read (Env.read (Env.read (Env.read (Env.read (Env.read (Env.read HE.out)))))))).imp (φ:=(aOld w1.heap.size p q r kg kh ko g1)) (ψ:=fun _=>True) (fun V h=>⟨h.2.2.2.2.1,h.2.2.2.2.2.1,h.2.2.2.2.2.2.1,(PlK.fo h.2.2.2.2.2.2.2.2.2.2.2.2.2.2.2.2.1 (ls2 h.2.2.2.2.2.2.2.2.2.2.2.2.2.2.1 (zbX V) (zbX V)) (ls2 h.2.2.2.2.2.2.2.2.2.2.2.2.2.2.2.1 h.2.2.2.2.2.2.2.2.2.2.2.2.2.2.2.2.1.2.2.2.1 h.2.2.2.2.2.2.2.2.2.2.2.2.2.2.2.2.1.2.2.2.2) (by simp;exact zny) (by simp;exact⟨znx,znS⟩)),PlK.right h.2.2.2.2.2.2.2.2.2.2.2.2.2.2.2.2.1 (of_decide_eq_true (by kernel_rfl)) (of_decide_eq_true (by kernel_rfl)),(PlK.fo h.2.2.2.2.2.2.2.2.2.2.2.2.2.1 (ls2 h.2.1 (zbX V) h.2.2.2.2.2.2.2.2.2.2.1) (ls2 h.2.2.2.2.2.2.2.2.2.2.2.2.1 h.2.2.2.2.2.2.2.2.2.2.2.2.2.1.2.2.2.1 h.2.2.2.2.2.2.2.2.2.2.2.2.2.1.2.2.2.2) (by simp;exact⟨zny,zog⟩) (by simp;exact⟨znx,znS⟩)),PlK.right h.2.2.2.2.2.2.2.2.2.2.2.2.2.1 (of_decide_eq_true (by kernel_rfl)) (of_decide_eq_true (by kernel_rfl)),(PlK.fo h.2.2.2.2.2.2.2.2.2.2.2.1 (ls2 h.2.2.1 (zbX V) h.2.2.2.2.2.2.2.2.2.1) (ls2 h.2.2.2.1 h.2.2.2.2.2.2.2.2.2.2.2.1.2.2.2.1 (zbX V)) (by simp;exact⟨zny,zo3⟩) (by simp;exact⟨znx,zny⟩)),PlK.right h.2.2.2.2.2.2.2.2.2.2.2.1 (of_decide_eq_true (by kernel_rfl)) (of_decide_eq_true (by kernel_rfl)),ls1 h.2.2.2.2.2.2.2.1 (RatN.rat h.2.2.2.2.2.2.2.2.1 znW),h.1⟩) (fun _ h=>h))
 clear slq slh slh2 hadr hadr2 hadr3
 have HS:=znd (fun(V:World) {bs:List Bo} {nw:World→Prop} (h:Env W7 bs (aOld w1.heap.size p q r kg kh ko g1) nw V)=>(show CB w1.heap.size #[.int .i64 1,.slice (some ⟨p.gc,0,none⟩) 2 2,.slice (some ⟨p.gl,0,none⟩) 2 2,.slice (some ⟨p.gh,0,none⟩) 2 2,.slice (some ⟨p.gk,0,none⟩) 2 2,.slice (some ⟨p.gb,0,none⟩) 1 1] V∧CB (w1.heap.size+1) #[.int .i64 1,.slice (some ⟨q.gc,0,none⟩) 2 2,.slice (some ⟨q.gl,0,none⟩) 2 2,.slice (some ⟨q.gh,0,none⟩) 2 2,.slice (some ⟨q.gk,0,none⟩) 2 2,.slice (some ⟨q.gb,0,none⟩) 1 1] V∧CB (w1.heap.size+1+1) #[.int .i64 1,.slice (some ⟨r.gc,0,none⟩) 2 2,.slice (some ⟨r.gl,0,none⟩) 2 2,.slice (some ⟨r.gh,0,none⟩) 2 2,.slice (some ⟨r.gk,0,none⟩) 2 2,.slice (some ⟨r.gb,0,none⟩) 1 1] V from And.intro (Blk.cb h.o.1) (And.intro (Blk.cb h.o.2.1) (Blk.cb h.o.2.2.1))))
 refine wp_region_noPanic ?_
 refine wp_region_held_drew (S:=(fun W=>CB w1.heap.size #[.int .i64 1,.slice (some ⟨p.gc,0,none⟩) 2 2,.slice (some ⟨p.gl,0,none⟩) 2 2,.slice (some ⟨p.gh,0,none⟩) 2 2,.slice (some ⟨p.gk,0,none⟩) 2 2,.slice (some ⟨p.gb,0,none⟩) 1 1] W∧CB (w1.heap.size+1) #[.int .i64 1,.slice (some ⟨q.gc,0,none⟩) 2 2,.slice (some ⟨q.gl,0,none⟩) 2 2,.slice (some ⟨q.gh,0,none⟩) 2 2,.slice (some ⟨q.gk,0,none⟩) 2 2,.slice (some ⟨q.gb,0,none⟩) 1 1] W∧CB (w1.heap.size+1+1) #[.int .i64 1,.slice (some ⟨r.gc,0,none⟩) 2 2,.slice (some ⟨r.gl,0,none⟩) 2 2,.slice (some ⟨r.gh,0,none⟩) 2 2,.slice (some ⟨r.gk,0,none⟩) 2 2,.slice (some ⟨r.gb,0,none⟩) 1 1] W)) (by kernel_rfl) (by with_reducible first|exact HS.out _ HE.out|exact HS.out _ HE.out.drew) (fun hHeld=>?_)
 replace HE:=znd HE.out.drew
 refine hT 0 22 hHeld ?_
 refine za8 (i:=1) rfl (by kernel_rfl) (by rfl) (fun K hK=>?_)
 clear hHeld
 simp only[q1,q2,q3]
 go_simp
 refine(zns _ 4 (by decide) (by decide) (p.form [(zeroR,0),(zeroR,0)] [(p.k3,3),(p.k4,9)]) (HE.out.o.2.2.2.1) (PlK.small p _ _ rfl rfl) none 0 [] (LsR.nil_ none) (by simp) (by simp) (HE.out.o.2.2.2.2.2.2.2.2.2.2) (HE.out.o.2.2.2.2.1)).mono ?_
 intro e w3 hret
 obtain⟨k23,rfl,hk,hb⟩:=RetR.eq hret (zoo p p.k3 p.k4)
 replace HE:=znd (Env.ret HE.out hk hb)
 clear hret hk hb
 (try(go_wp2_with fail))
 refine hK.out _ _ (by with_reducible first|exact HS.out _ HE.out|exact HS.out _ HE.out.drew) (fun hHeld=>?_)
 clear hK K
 try simp only[p1,p2,p3,p4]
 refine za8 (i:=2) rfl (by kernel_rfl) (by rfl) (fun K hK=>?_)
 clear hHeld
 simp only[q1,q2,q3]
 go_simp
 refine(zbC _ (-3) (-3) (by decide+kernel) (by decide) (by decide) (HE.out.o.2.2.2.2.2.2.2.2.2.2)).mono ?_
 rintro e w3 ⟨k24,rfl,hk,hb⟩
 replace HE:=znd (Env.ret HE.out hk hb)
 clear hk hb
 (try(go_wp2_with fail))
 refine hK.out _ _ (by with_reducible first|exact HS.out _ HE.out|exact HS.out _ HE.out.drew) (fun hHeld=>?_)
 clear hK K
 try simp only[p1,p2,p3,p4]
 refine za8 (i:=3) rfl (by kernel_rfl) (by rfl) (fun K hK=>?_)
 clear hHeld
 simp only[q1,q2,q3]
 go_simp
 refine(zco _ k23 k24 (-3) (-3) 4 (by decide) (by decide) (RatN.rat HE.out.n.2.1 znK) (RatN.rat HE.out.n.1 znK)).mono ?_
 rintro e w3 ⟨rfl,hb⟩
 rw[decide_eq_true (rfl:(-3:Rat)=-3)]
 replace HE:=znd ((Env.call HE.out hb).imp (fun _ h=>h) (fun _ _=>trivial))
 clear hb
 (try(go_wp2_with fail))
 refine hK.out _ _ (by with_reducible first|exact HS.out _ HE.out|exact HS.out _ HE.out.drew) (fun hHeld=>?_)
 clear hK K
 try simp only[p1,p2,p3,p4]
 refine hT 4 26 hHeld ?_
 refine hT 5 27 hHeld ?_
 refine za8 (i:=6) rfl (by kernel_rfl) (by rfl) (fun K hK=>?_)
 clear hHeld
 simp only[q1,q2,q3]
 go_simp
 refine(zbC _ (-1) (-1) (by decide+kernel) (by decide) (by decide) (HE.out.o.2.2.2.2.2.2.2.2.2.2)).mono ?_
 rintro e w3 ⟨k28,rfl,hk,hb⟩
 replace HE:=znd (Env.ret HE.out hk hb)
 clear hk hb
 (try(go_wp2_with fail))
 refine hK.out _ _ (by with_reducible first|exact HS.out _ HE.out|exact HS.out _ HE.out.drew) (fun hHeld=>?_)
 clear hK K
 try simp only[p1,p2,p3,p4]
 refine za8 (i:=7) rfl (by kernel_rfl) (by rfl) (fun K hK=>?_)
 clear hHeld
 simp only[q1,q2,q3]
 go_simp
 obtain⟨W8,g8,hW8,hg8,HE2⟩:=Env.al HE.out 48 #[.bool k28.num.neg,.slice k28.num.A k28.num.k k28.num.c,.bool k28.den.neg,.slice k28.den.A k28.den.k k28.den.c]
 rw[hW8,hg8]
 clear hW8 hg8 HE
 have HE:=HE2
 clear HE2
 (try(go_wp2_with fail))
 refine hK.out _ _ (by with_reducible first|exact HS.out _ HE.out|exact HS.out _ HE.out.drew) (fun hHeld=>?_)
 clear hK K
 try simp only[p1,p2,p3,p4]
 refine za8 (i:=8) rfl (by kernel_rfl) (by rfl) (fun K hK=>?_)
 clear hHeld
 simp only[q1,q2,q3]
 go_simp
 refine(zns _ 4 (by decide) (by decide) (p.form [(zeroR,0),(zeroR,0)] [(p.k3,3),(p.k4,9)]) (HE.out.o.2.2.2.1) (PlK.small p _ _ rfl rfl) (some ⟨g8,0,none⟩) 1 [(k28,-1)] (ls1 (HE.out.bx ⟨g8,48,#[.bool k28.num.neg,.slice k28.num.A k28.num.k k28.num.c,.bool k28.den.neg,.slice k28.den.A k28.den.k k28.den.c]⟩ (by simp)) (RatN.rat HE.out.n.1 znZ)) (by simp) (by simp) (HE.out.o.2.2.2.2.2.2.2.2.2.2) (HE.out.o.2.2.2.2.1)).mono ?_
 intro e w3 hret
 obtain⟨k30,rfl,hk,hb⟩:=RetR.eq hret (zon p p.k3 p.k4 k28)
 replace HE:=znd (Env.ret HE.out hk hb)
 clear hret hk hb
 (try(go_wp2_with fail))
 refine hK.out _ _ (by with_reducible first|exact HS.out _ HE.out|exact HS.out _ HE.out.drew) (fun hHeld=>?_)
 clear hK K
 try simp only[p1,p2,p3,p4]
 refine za8 (i:=9) rfl (by kernel_rfl) (by rfl) (fun K hK=>?_)
 clear hHeld
 simp only[q1,q2,q3]
 go_simp
 refine(zbC _ (-4) (-4) (by decide+kernel) (by decide) (by decide) (HE.out.o.2.2.2.2.2.2.2.2.2.2)).mono ?_
 rintro e w3 ⟨k31,rfl,hk,hb⟩
 replace HE:=znd (Env.ret HE.out hk hb)
 clear hk hb
 (try(go_wp2_with fail))
 refine hK.out _ _ (by with_reducible first|exact HS.out _ HE.out|exact HS.out _ HE.out.drew) (fun hHeld=>?_)
 clear hK K
 try simp only[p1,p2,p3,p4]
 refine za8 (i:=10) rfl (by kernel_rfl) (by rfl) (fun K hK=>?_)
 clear hHeld
 simp only[q1,q2,q3]
 go_simp
 refine(zco _ k30 k31 (-4) (-4) 4 (by decide) (by decide) (RatN.rat HE.out.n.2.1 znH) (RatN.rat HE.out.n.1 znH)).mono ?_
 rintro e w3 ⟨rfl,hb⟩
 rw[decide_eq_true (rfl:(-4:Rat)=-4)]
 replace HE:=znd ((Env.call HE.out hb).drop.imp (fun _ h=>h) (fun _ _=>trivial))
 clear hb
 (try(go_wp2_with fail))
 refine hK.out _ _ (by with_reducible first|exact HS.out _ HE.out|exact HS.out _ HE.out.drew) (fun hHeld=>?_)
 clear hK K
 try simp only[p1,p2,p3,p4]
 refine hT 11 33 hHeld ?_
 refine hT 12 34 hHeld ?_
 refine hT 13 35 hHeld ?_
 refine hT 17 39 hHeld ?_
 refine znL 24 rfl #[true,true,true,true,true,true,true,true,true,true,true,true,true,true,false,false,false,true,false,false,false,false,false,false,false,false,false,false,false,false,false,false,false,false,false,false,false,false,false] (by kernel_rfl) ?_
 intro Q6 hQ6 ops6 hops6 a0 ha0 S6 hS6
 have HQ:=znd hQ6
 have HO:=znd hops6
 have HA:=znd ha0
 have HSS:=znd hS6
 clear hQ6 hops6 ha0 hS6
 have S1111:Hid (∀(W:World) (k36:RV) (k37:RV) (gx:Nat) (gz:Nat) (HE:Hid (Env W7 [⟨gz,48,#[.bool false,.slice none 0 0,.bool false,.slice none 0 0]⟩,⟨gx,48,#[.bool k36.num.neg,.slice k36.num.A k36.num.k k36.num.c,.bool k36.den.neg,.slice k36.den.A k36.den.k k36.den.c,.bool k37.num.neg,.slice k37.num.A k37.num.k k37.num.c,.bool k37.den.neg,.slice k37.den.A k37.den.k k37.den.c]⟩] (aOld w1.heap.size p q r kg kh ko g1) (fun V=>RatN k37 1 V∧RatN k36 3 V∧True) W)),wpAnyH Tryz.prog .any ops6 Q6 S6 20 #[true,true,true,true,true,true,true,true,true,true,true,true,true,true,true,true,true,true,true,false,false,false,false,false,false,false,false,false,false,false,false,false,false,false,false,false,false,false,false] (Act.put (Act.put (Act.put (Act.put a0 (some 36) (.agg #[.bool k36.num.neg,.slice k36.num.A k36.num.k k36.num.c,.bool k36.den.neg,.slice k36.den.A k36.den.k k36.den.c])) (some 37) (.agg #[.bool k37.num.neg,.slice k37.num.A k37.num.k k37.num.c,.bool k37.den.neg,.slice k37.den.A k37.den.k k37.den.c])) (some 38) (.slice (some ⟨gx,0,none⟩) 2 2)) (some 40) (.slice (some ⟨gz,0,none⟩) 1 1)) W):=by
  clear HE hHeld
  refine znd ?_
  intro W k36 k37 gx gz HE
  rw[HO.out,HA.out]
  try simp only[p1,p2,p3,p4]
  have hHeld:=(HS.out _ HE.out)
  rw[HQ.out,HSS.out]
  refine za8 (i:=19) rfl (by kernel_rfl) (by rfl) (fun K hK=>?_)
  clear hHeld
  simp only[q1,q2,q3]
  go_simp
  refine(zo0 _ 4 (by decide) (by decide) (p.form [(zeroR,0),(zeroR,0)] [(p.k3,3),(p.k4,9)]) (HE.out.o.2.2.2.1) (PlK.small p _ _ rfl rfl) (some ⟨gx,0,none⟩) 2 [(k36,3),(k37,1)] (ls2 (HE.out.bx ⟨gx,48,#[.bool k36.num.neg,.slice k36.num.A k36.num.k k36.num.c,.bool k36.den.neg,.slice k36.den.A k36.den.k k36.den.c,.bool k37.num.neg,.slice k37.num.A k37.num.k k37.num.c,.bool k37.den.neg,.slice k37.den.A k37.den.k k37.den.c]⟩ (by simp)) (RatN.rat HE.out.n.2.1 znx) (RatN.rat HE.out.n.1 znW)) (some ⟨gz,0,none⟩) 1 [(zeroR,0)] (ls1 (HE.out.bx ⟨gz,48,#[.bool false,.slice none 0 0,.bool false,.slice none 0 0]⟩ (by simp)) (RatD.zero_ _ 4)) (by simp) (by simp) (HE.out.o.2.2.2.2.2.2.2.2.2.2)).mono ?_
  rintro e w3 ⟨⟨B,rfl,hB⟩,hb⟩
  obtain rfl:B=true:=hB.2 ⟨pl_feas (HE.out.o.2.2.2.2.1),pl_best p p.k3 p.k4 k36 k37⟩
  replace HE:=znd (((Env.call HE.out hb).drop.drop).imp (fun _ h=>h) (fun _ _=>trivial))
  clear hb hB
  (try(go_wp2_with fail))
  refine hK.out _ _ (by with_reducible first|exact HS.out _ HE.out|exact HS.out _ HE.out.drew) (fun hHeld=>?_)
  clear hK K
  try simp only[p2,p3,p4]
  refine hT 20 42 hHeld ?_
  refine hT 21 43 hHeld ?_
  refine hT 22 44 hHeld ?_
  refine hT 23 45 hHeld ?_
  refine za8 (i:=24) rfl (by kernel_rfl) (by rfl) (fun K hK=>?_)
  clear hHeld
  simp only[q1,q2,q3]
  go_simp
  refine(znq _ 4 (by decide) (by decide) (q.form [(zeroR,0),(kg,2)] [(q.k3,3),(q.k4,9)]) (HE.out.o.2.2.2.2.2.1) (PlK.small q _ _ rfl rfl) (some ⟨g1,0,none⟩) 1 [(ko,1)] (HE.out.o.2.2.2.2.2.2.2.2.2.1) (by simp) (by simp) (HE.out.o.2.2.2.2.2.2.2.2.2.2)).mono ?_
  rintro e w3 ⟨⟨B,rfl,hB⟩,hb⟩
  obtain rfl:B=false:=zoh hB (pl_g q q.k3 q.k4 kg ko)
  replace HE:=znd (Env.call HE.out hb)
  clear hb hB
  (try(go_wp2_with fail))
  refine hK.out _ _ (by with_reducible first|exact HS.out _ HE.out|exact HS.out _ HE.out.drew) (fun hHeld=>?_)
  clear hK K
  try simp only[p2,p3,p4]
  refine hT 25 47 hHeld ?_
  refine hT 26 48 hHeld ?_
  refine hT 27 49 hHeld ?_
  refine hT 28 50 hHeld ?_
  refine hT 29 51 hHeld ?_
  refine za8 (i:=30) rfl (by kernel_rfl) (by rfl) (fun K hK=>?_)
  clear hHeld
  simp only[q1,q2,q3]
  go_simp
  refine(znq _ 4 (by decide) (by decide) (r.form [(zeroR,0),(kh,-9)] [(r.k3,3),(zeroR,0)]) (HE.out.o.2.2.2.2.2.2.2.1) (PlK.small r _ _ rfl rfl) (some ⟨g1,0,none⟩) 1 [(ko,1)] (HE.out.o.2.2.2.2.2.2.2.2.2.1) (by simp) (by simp) (HE.out.o.2.2.2.2.2.2.2.2.2.2)).mono ?_
  rintro e w3 ⟨⟨B,rfl,hB⟩,hb⟩
  obtain rfl:B=true:=hB.2 ⟨HE.out.o.2.2.2.2.2.2.2.2.1,pl_h r r.k3 kh ko⟩
  replace HE:=znd (Env.call HE.out hb)
  clear hb hB
  (try(go_wp2_with fail))
  refine hK.out _ _ (by with_reducible first|exact HS.out _ HE.out|exact HS.out _ HE.out.drew) (fun hHeld=>?_)
  clear hK K
  try simp only[p2,p3,p4]
  refine hT 31 53 hHeld ?_
  refine hT 32 54 hHeld ?_
  refine hT 33 55 hHeld ?_
  refine hT 34 56 hHeld ?_
  refine za8 (i:=35) rfl (by kernel_rfl) (by rfl) (fun K hK=>?_)
  clear hHeld
  simp only[q1,q2,q3]
  go_simp
  refine(znq _ 4 (by decide) (by decide) f00 (zol _) znU (some ⟨g1,0,none⟩) 1 [(ko,1)] (HE.out.o.2.2.2.2.2.2.2.2.2.1) (by simp) (by simp) (HE.out.o.2.2.2.2.2.2.2.2.2.2)).mono ?_
  rintro e w3 ⟨⟨B,rfl,hB⟩,hb⟩
  obtain rfl:B=false:=zok hB
  replace HE:=znd (Env.call HE.out hb)
  clear hb hB
  (try(go_wp2_with fail))
  refine hK.out _ _ (by with_reducible first|exact HS.out _ HE.out|exact HS.out _ HE.out.drew) (fun hHeld=>?_)
  clear hK K
  try simp only[p2,p3,p4]
  refine hT 36 58 hHeld ?_
  refine hT 37 59 hHeld ?_
  refine hT 38 0 hHeld ?_
  refine wpAnyH_done (by kernel_rfl) ?_ _
  refine NoPanic.normal ?_
  go_wp2_with fail
  go_ret
  exact⟨rfl,Below.after HB1.out HE.out.bel⟩
 have S1110:Hid (∀(W:World) (k36:RV) (k37:RV) (gx:Nat) (HE:Hid (Env W7 [⟨gx,48,#[.bool k36.num.neg,.slice k36.num.A k36.num.k k36.num.c,.bool k36.den.neg,.slice k36.den.A k36.den.k k36.den.c,.bool k37.num.neg,.slice k37.num.A k37.num.k k37.num.c,.bool k37.den.neg,.slice k37.den.A k37.den.k k37.den.c]⟩] (aOld w1.heap.size p q r kg kh ko g1) (fun V=>RatN k37 1 V∧RatN k36 3 V∧True) W)),wpAnyH Tryz.prog .any ops6 Q6 S6 21 #[true,true,true,true,true,true,true,true,true,true,true,true,true,true,true,true,true,true,false,false,false,false,false,false,false,false,false,false,false,false,false,false,false,false,false,false,false,false,false] (Act.put (Act.put (Act.put a0 (some 36) (.agg #[.bool k36.num.neg,.slice k36.num.A k36.num.k k36.num.c,.bool k36.den.neg,.slice k36.den.A k36.den.k k36.den.c])) (some 37) (.agg #[.bool k37.num.neg,.slice k37.num.A k37.num.k k37.num.c,.bool k37.den.neg,.slice k37.den.A k37.den.k k37.den.c])) (some 38) (.slice (some ⟨gx,0,none⟩) 2 2)) W):=by
  clear HE hHeld
  refine znd ?_
  intro W k36 k37 gx HE
  rw[HO.out,HA.out]
  try simp only[p1,p2,p3,p4]
  refine wpAnyH_ready (rs:=[18]) (by kernel_rfl) (by simp) ?_
  refine AllReadyH.cons rfl (fun K hK=>?_) ?_
  ·rw[if_pos (by rfl)]
   simp only[q1,q2,q3]
   go_simp
   have HE2:=znd (HE.out.nn 48 #[.bool false,.slice none 0 0,.bool false,.slice none 0 0])
   (try(go_wp2_with fail))
   refine hK.out _ _ (by rw[HSS.out];exact(HS.out _ HE2.out)) (fun hHeld=>?_)
   clear hK K hHeld
   try simp only[p2,p3,p4]
   have h:=S1111.out (W.alloc (.cells #[.bool false,.slice none 0 0,.bool false,.slice none 0 0] 48)) k36 k37 gx W.heap.size (znd HE2.out)
   rw[HO.out,HA.out]at h
   try simp only[p1,p2,p3,p4]at h
   exact h
  exact AllReadyH.nil
 have S1101:Hid (∀(W:World) (k36:RV) (k37:RV) (gz:Nat) (HE:Hid (Env W7 [⟨gz,48,#[.bool false,.slice none 0 0,.bool false,.slice none 0 0]⟩] (aOld w1.heap.size p q r kg kh ko g1) (fun V=>RatN k37 1 V∧RatN k36 3 V∧True) W)),wpAnyH Tryz.prog .any ops6 Q6 S6 21 #[true,true,true,true,true,true,true,true,true,true,true,true,true,true,true,true,false,true,true,false,false,false,false,false,false,false,false,false,false,false,false,false,false,false,false,false,false,false,false] (Act.put (Act.put (Act.put a0 (some 36) (.agg #[.bool k36.num.neg,.slice k36.num.A k36.num.k k36.num.c,.bool k36.den.neg,.slice k36.den.A k36.den.k k36.den.c])) (some 37) (.agg #[.bool k37.num.neg,.slice k37.num.A k37.num.k k37.num.c,.bool k37.den.neg,.slice k37.den.A k37.den.k k37.den.c])) (some 40) (.slice (some ⟨gz,0,none⟩) 1 1)) W):=by
  clear HE hHeld
  refine znd ?_
  intro W k36 k37 gz HE
  rw[HO.out,HA.out]
  try simp only[p1,p2,p3,p4]
  refine wpAnyH_ready (rs:=[16]) (by kernel_rfl) (by simp) ?_
  refine AllReadyH.cons rfl (fun K hK=>?_) ?_
  ·rw[if_pos (by rfl)]
   simp only[q1,q2,q3]
   go_simp
   have HE2:=znd (HE.out.nn 48 #[.bool k36.num.neg,.slice k36.num.A k36.num.k k36.num.c,.bool k36.den.neg,.slice k36.den.A k36.den.k k36.den.c,.bool k37.num.neg,.slice k37.num.A k37.num.k k37.num.c,.bool k37.den.neg,.slice k37.den.A k37.den.k k37.den.c])
   (try(go_wp2_with fail))
   refine hK.out _ _ (by rw[HSS.out];exact(HS.out _ HE2.out)) (fun hHeld=>?_)
   clear hK K hHeld
   try simp only[p2,p3,p4]
   have h:=S1111.out (W.alloc (.cells #[.bool k36.num.neg,.slice k36.num.A k36.num.k k36.num.c,.bool k36.den.neg,.slice k36.den.A k36.den.k k36.den.c,.bool k37.num.neg,.slice k37.num.A k37.num.k k37.num.c,.bool k37.den.neg,.slice k37.den.A k37.den.k k37.den.c] 48)) k36 k37 W.heap.size gz (znd (HE2.out.perm (List.Perm.swap _ _ _)))
   rw[HO.out,HA.out]at h
   try simp only[p1,p2,p3,p4]at h
   exact h
  exact AllReadyH.nil
 have S1100:Hid (∀(W:World) (k36:RV) (k37:RV) (HE:Hid (Env W7 [] (aOld w1.heap.size p q r kg kh ko g1) (fun V=>RatN k37 1 V∧RatN k36 3 V∧True) W)),wpAnyH Tryz.prog .any ops6 Q6 S6 22 #[true,true,true,true,true,true,true,true,true,true,true,true,true,true,true,true,false,true,false,false,false,false,false,false,false,false,false,false,false,false,false,false,false,false,false,false,false,false,false] (Act.put (Act.put a0 (some 36) (.agg #[.bool k36.num.neg,.slice k36.num.A k36.num.k k36.num.c,.bool k36.den.neg,.slice k36.den.A k36.den.k k36.den.c])) (some 37) (.agg #[.bool k37.num.neg,.slice k37.num.A k37.num.k k37.num.c,.bool k37.den.neg,.slice k37.den.A k37.den.k k37.den.c])) W):=by
  clear S1111
  clear HE hHeld
  refine znd ?_
  intro W k36 k37 HE
  rw[HO.out,HA.out]
  try simp only[p1,p2,p3,p4]
  refine wpAnyH_ready (rs:=[16,18]) (by kernel_rfl) (by simp) ?_
  refine AllReadyH.cons rfl (fun K hK=>?_) ?_
  ·rw[if_pos (by rfl)]
   simp only[q1,q2,q3]
   go_simp
   have HE2:=znd (HE.out.nn 48 #[.bool k36.num.neg,.slice k36.num.A k36.num.k k36.num.c,.bool k36.den.neg,.slice k36.den.A k36.den.k k36.den.c,.bool k37.num.neg,.slice k37.num.A k37.num.k k37.num.c,.bool k37.den.neg,.slice k37.den.A k37.den.k k37.den.c])
   (try(go_wp2_with fail))
   refine hK.out _ _ (by rw[HSS.out];exact(HS.out _ HE2.out)) (fun hHeld=>?_)
   clear hK K hHeld
   try simp only[p2,p3,p4]
   have h:=S1110.out (W.alloc (.cells #[.bool k36.num.neg,.slice k36.num.A k36.num.k k36.num.c,.bool k36.den.neg,.slice k36.den.A k36.den.k k36.den.c,.bool k37.num.neg,.slice k37.num.A k37.num.k k37.num.c,.bool k37.den.neg,.slice k37.den.A k37.den.k k37.den.c] 48)) k36 k37 W.heap.size (znd HE2.out)
   rw[HO.out,HA.out]at h
   try simp only[p1,p2,p3,p4]at h
   exact h
  refine AllReadyH.cons rfl (fun K hK=>?_) ?_
  ·rw[if_pos (by rfl)]
   simp only[q1,q2,q3]
   go_simp
   have HE2:=znd (HE.out.nn 48 #[.bool false,.slice none 0 0,.bool false,.slice none 0 0])
   (try(go_wp2_with fail))
   refine hK.out _ _ (by rw[HSS.out];exact(HS.out _ HE2.out)) (fun hHeld=>?_)
   clear hK K hHeld
   try simp only[p2,p3,p4]
   have h:=S1101.out (W.alloc (.cells #[.bool false,.slice none 0 0,.bool false,.slice none 0 0] 48)) k36 k37 W.heap.size (znd HE2.out)
   rw[HO.out,HA.out]at h
   try simp only[p1,p2,p3,p4]at h
   exact h
  exact AllReadyH.nil
 have S1001:Hid (∀(W:World) (k36:RV) (gz:Nat) (HE:Hid (Env W7 [⟨gz,48,#[.bool false,.slice none 0 0,.bool false,.slice none 0 0]⟩] (aOld w1.heap.size p q r kg kh ko g1) (fun V=>RatN k36 3 V∧True) W)),wpAnyH Tryz.prog .any ops6 Q6 S6 22 #[true,true,true,true,true,true,true,true,true,true,true,true,true,true,true,false,false,true,true,false,false,false,false,false,false,false,false,false,false,false,false,false,false,false,false,false,false,false,false] (Act.put (Act.put a0 (some 36) (.agg #[.bool k36.num.neg,.slice k36.num.A k36.num.k k36.num.c,.bool k36.den.neg,.slice k36.den.A k36.den.k k36.den.c])) (some 40) (.slice (some ⟨gz,0,none⟩) 1 1)) W):=by
  clear S1110 S1111
  clear HE hHeld
  refine znd ?_
  intro W k36 gz HE
  rw[HO.out,HA.out]
  try simp only[p1,p2,p3,p4]
  refine wpAnyH_ready (rs:=[15]) (by kernel_rfl) (by simp) ?_
  refine AllReadyH.cons rfl (fun K hK=>?_) ?_
  ·rw[if_pos (by rfl)]
   simp only[q1,q2,q3]
   go_simp
   refine(zbC _ 1 1 (by decide+kernel) (by decide) (by decide) (HE.out.o.2.2.2.2.2.2.2.2.2.2)).mono ?_
   rintro e wq ⟨k37,rfl,hk,hb⟩
   have HE2:=znd (Env.ret HE.out hk hb)
   clear hk hb
   (try(go_wp2_with fail))
   refine hK.out _ _ (by rw[HSS.out];exact(HS.out _ HE2.out)) (fun hHeld=>?_)
   clear hK K hHeld
   try simp only[p2,p3,p4]
   have h:=S1101.out wq k36 k37 gz (znd (HE2.out))
   rw[HO.out,HA.out]at h
   try simp only[p1,p2,p3,p4]at h
   exact h
  exact AllReadyH.nil
 have S1000:Hid (∀(W:World) (k36:RV) (HE:Hid (Env W7 [] (aOld w1.heap.size p q r kg kh ko g1) (fun V=>RatN k36 3 V∧True) W)),wpAnyH Tryz.prog .any ops6 Q6 S6 23 #[true,true,true,true,true,true,true,true,true,true,true,true,true,true,true,false,false,true,false,false,false,false,false,false,false,false,false,false,false,false,false,false,false,false,false,false,false,false,false] (Act.put a0 (some 36) (.agg #[.bool k36.num.neg,.slice k36.num.A k36.num.k k36.num.c,.bool k36.den.neg,.slice k36.den.A k36.den.k k36.den.c])) W):=by
  clear S1110 S1101 S1111
  clear HE hHeld
  refine znd ?_
  intro W k36 HE
  rw[HO.out,HA.out]
  try simp only[p1,p2,p3,p4]
  refine wpAnyH_ready (rs:=[15,18]) (by kernel_rfl) (by simp) ?_
  refine AllReadyH.cons rfl (fun K hK=>?_) ?_
  ·rw[if_pos (by rfl)]
   simp only[q1,q2,q3]
   go_simp
   refine(zbC _ 1 1 (by decide+kernel) (by decide) (by decide) (HE.out.o.2.2.2.2.2.2.2.2.2.2)).mono ?_
   rintro e wq ⟨k37,rfl,hk,hb⟩
   have HE2:=znd (Env.ret HE.out hk hb)
   clear hk hb
   (try(go_wp2_with fail))
   refine hK.out _ _ (by rw[HSS.out];exact(HS.out _ HE2.out)) (fun hHeld=>?_)
   clear hK K hHeld
   try simp only[p2,p3,p4]
   have h:=S1100.out wq k36 k37 (znd (HE2.out))
   rw[HO.out,HA.out]at h
   try simp only[p1,p2,p3,p4]at h
   exact h
  refine AllReadyH.cons rfl (fun K hK=>?_) ?_
  ·rw[if_pos (by rfl)]
   simp only[q1,q2,q3]
   go_simp
   have HE2:=znd (HE.out.nn 48 #[.bool false,.slice none 0 0,.bool false,.slice none 0 0])
   (try(go_wp2_with fail))
   refine hK.out _ _ (by rw[HSS.out];exact(HS.out _ HE2.out)) (fun hHeld=>?_)
   clear hK K hHeld
   try simp only[p2,p3,p4]
   have h:=S1001.out (W.alloc (.cells #[.bool false,.slice none 0 0,.bool false,.slice none 0 0] 48)) k36 W.heap.size (znd HE2.out)
   rw[HO.out,HA.out]at h
   try simp only[p1,p2,p3,p4]at h
   exact h
  exact AllReadyH.nil
 have S0001:Hid (∀(W:World) (gz:Nat) (HE:Hid (Env W7 [⟨gz,48,#[.bool false,.slice none 0 0,.bool false,.slice none 0 0]⟩] (aOld w1.heap.size p q r kg kh ko g1) (fun V=>True) W)),wpAnyH Tryz.prog .any ops6 Q6 S6 23 #[true,true,true,true,true,true,true,true,true,true,true,true,true,true,false,false,false,true,true,false,false,false,false,false,false,false,false,false,false,false,false,false,false,false,false,false,false,false,false] (Act.put a0 (some 40) (.slice (some ⟨gz,0,none⟩) 1 1)) W):=by
  clear S1100 S1110 S1101 S1111
  clear HE hHeld
  refine znd ?_
  intro W gz HE
  rw[HO.out,HA.out]
  try simp only[p1,p2,p3,p4]
  refine wpAnyH_ready (rs:=[14]) (by kernel_rfl) (by simp) ?_
  refine AllReadyH.cons rfl (fun K hK=>?_) ?_
  ·rw[if_pos (by rfl)]
   simp only[q1,q2,q3]
   go_simp
   refine(zbC _ 3 3 (by decide+kernel) (by decide) (by decide) (HE.out.o.2.2.2.2.2.2.2.2.2.2)).mono ?_
   rintro e wq ⟨k36,rfl,hk,hb⟩
   have HE2:=znd (Env.ret HE.out hk hb)
   clear hk hb
   (try(go_wp2_with fail))
   refine hK.out _ _ (by rw[HSS.out];exact(HS.out _ HE2.out)) (fun hHeld=>?_)
   clear hK K hHeld
   try simp only[p2,p3,p4]
   have h:=S1001.out wq k36 gz (znd (HE2.out))
   rw[HO.out,HA.out]at h
   try simp only[p1,p2,p3,p4]at h
   exact h
  exact AllReadyH.nil
 have S0000:Hid (∀(W:World) (HE:Hid (Env W7 [] (aOld w1.heap.size p q r kg kh ko g1) (fun V=>True) W)),wpAnyH Tryz.prog .any ops6 Q6 S6 24 #[true,true,true,true,true,true,true,true,true,true,true,true,true,true,false,false,false,true,false,false,false,false,false,false,false,false,false,false,false,false,false,false,false,false,false,false,false,false,false] a0 W):=by
  clear S1100 S1001 S1110 S1101 S1111
  clear HE hHeld
  refine znd ?_
  intro W HE
  rw[HO.out,HA.out]
  try dsimp only
  refine wpAnyH_ready (rs:=[14,18]) (by kernel_rfl) (by simp) ?_
  refine AllReadyH.cons rfl (fun K hK=>?_) ?_
  ·rw[if_pos (by rfl)]
   simp only[q1,q2,q3]
   go_simp
   refine(zbC _ 3 3 (by decide+kernel) (by decide) (by decide) (HE.out.o.2.2.2.2.2.2.2.2.2.2)).mono ?_
   rintro e wq ⟨k36,rfl,hk,hb⟩
   have HE2:=znd (Env.ret HE.out hk hb)
   clear hk hb
   (try(go_wp2_with fail))
   refine hK.out _ _ (by rw[HSS.out];exact(HS.out _ HE2.out)) (fun hHeld=>?_)
   clear hK K hHeld
   try simp only[p2,p3,p4]
   have h:=S1000.out wq k36 (znd (HE2.out))
   rw[HO.out,HA.out]at h
   try simp only[p1,p2,p3,p4]at h
   exact h
  refine AllReadyH.cons rfl (fun K hK=>?_) ?_
  ·rw[if_pos (by rfl)]
   simp only[q1,q2,q3]
   go_simp
   have HE2:=znd (HE.out.nn 48 #[.bool false,.slice none 0 0,.bool false,.slice none 0 0])
   (try(go_wp2_with fail))
   refine hK.out _ _ (by rw[HSS.out];exact(HS.out _ HE2.out)) (fun hHeld=>?_)
   clear hK K hHeld
   try simp only[p2,p3,p4]
   have h:=S0001.out (W.alloc (.cells #[.bool false,.slice none 0 0,.bool false,.slice none 0 0] 48)) W.heap.size (znd HE2.out)
   rw[HO.out,HA.out]at h
   try simp only[p1,p2,p3,p4]at h
   exact h
  exact AllReadyH.nil
 exact S0000.out _ HE
end Go.Proofs.YtfdmajmhmligpaaGreatDoor
