/-
 slices.Clone of terms; slices.IndexFunc, slices.DeleteFunc by sparse.Norm's test. slices.IndexFunc, slices.DeleteFunc by sparse.Norm's test. sparse.Norm of a list that rises.
-/
import Derived.Test.YtfdmajmhmligpaaGreatDoorSS
import Derived.Test.YtfdmajmhmligpaaGreatDoorQC
import Derived.Test.YtfdmajmhmligpaaGreatDoorTT
import Derived.Lib.SliceRun
namespace Go.Proofs.YtfdmajmhmligpaaGreatDoor
set_option maxHeartbeats 4000000
open Go.RowKit

theorem zcd (t:TeV):∀u∈(tecells t).toList,u.oneCell'=true:=by
 intro u hu
 simp only[tecells,List.mem_cons,List.not_mem_nil,or_false]at hu
 rcases hu with rfl|rfl|rfl|rfl|rfl<;>rfl
set_option maxRecDepth 100000 in
theorem zhy (w:World) (c:Nat):Calls Tryz.prog 80 #[.slice none 0 c] w fun e w'=>e=.returned (.slice none 0 0)∧w'=w:=by
 have heq:=fun(W:World)=>Lib.run_eql_slice_nil (P:=Tryz.prog) W 24 65 none 0 c 0 0 zaJ
 go_enter Tryz.func80,Tryz.ntmps80
 go_wp2_with fail
 go_ret
 exact⟨rfl,rfl⟩
set_option maxRecDepth 100000 in
theorem zhz (w:World) (ad:Addr) (c:Nat) (ts:List TeV) (h:El w 5 (some ad) (ts.map tecells)) (hl:ts.length≤1000000):Calls Tryz.prog 80 #[.slice (some ad) ts.length c] w fun e w'=>∃A' c',e=.returned (.slice A' ts.length c')∧ts.length≤c'∧Rests w' (w.heap.size≤·) (fun V=>El V 5 A' (ts.map tecells))∧Below w.heap.size w w':=by
 have hX:Below w.heap.size w (w.alloc (.cells #[] 65)):=Below.of_alloc w (.cells #[] 65)
 have hel:=h.alloc (.cells #[] 65)
 obtain⟨v',w',hrun,ho,hb⟩:=OwnE.apps' (P:=Tryz.prog) (c:=c) zaJ zbD rfl (by decide) (OwnE.made w (Nat.le_refl _) 65 5) hel (fun d hd u hu=>by
  obtain⟨t,-,rfl⟩:=List.mem_map.1 hd
  exact zcd t u hu) (by simp;omega) (by simp[maxLen];omega) (by simp)
 rw[List.nil_append]at ho
 rw[List.length_map]at hrun
 obtain⟨A',c',hv,hc,hr⟩:=ho.reads
 rw[List.length_map]at hv hc
 subst hv
 have Hrun:=znd hrun
 have Hb:=znd (hX.trans hb)
 have Hr:=znd hr
 have heq:=fun(W:World)=>Lib.run_eql_slice_nil (P:=Tryz.prog) W 24 65 (some ad) ts.length c 0 0 zaJ
 clear h hX hel hrun ho hb hr
 go_enter Tryz.func80,Tryz.ntmps80
 go_wp2_with (at_builtin;refine zac rfl (.tmp 5) (.tmp 6) 24 _ _ _ rfl rfl rfl Hrun.out ?_)
 go_wp2_with fail
 go_ret
 exact⟨_,_,rfl,hc,Hr.out,Hb.out⟩
theorem ziB (w:World) (ok:TeV→World→Prop) (A:Option Addr) (c:Nat) (ts:List TeV) (h:LsR 5 tecells ok A ts w) (hl:ts.length≤1000000):Calls Tryz.prog 80 #[.slice A ts.length c] w fun e w'=>∃A' c',e=.returned (.slice A' ts.length c')∧ts.length≤c'∧Rests w' (w.heap.size≤·) (fun V=>El V 5 A' (ts.map tecells))∧Below w.heap.size w w':=by
 rcases A with _|ad
 ·have h0:ts=[]:=by
   rcases Nat.eq_zero_or_pos ts.length with h0|h0
   ·exact List.eq_nil_of_length_eq_zero h0
   ·obtain⟨_,_,e⟩:=h.sl h0;cases e
  subst h0
  refine(zhy w c).mono ?_
  rintro e w' ⟨rfl,rfl⟩
  exact⟨none,0,rfl,Nat.le_refl _,⟨El.nil_ _ _ _,fun _ _=>El.nil_ _ _ _⟩,Below.refl _ _⟩
 ·exact zhz w ad c ts h.el hl
set_option maxRecDepth 100000 in
theorem zfi (w:World) (t:TeV) (n:Nat) (hn:n≤100000000000) (h:RatD t.r t.q n w):Calls Tryz.prog 85 #[tA t] w fun e w'=>e=.returned (.bool (t.q.num.sign==0))∧Below w.heap.size w w':=by
 have HE:=znd (lyT t ((RatD.old h)))
 have c:=Env.c1 HE.out
 clear h
 unfold tA
 go_enter Tryz.func85,Tryz.ntmps85
 go_wp2_with fail
 refine(zaV _ t.r t.q n (by omega) HE.out.o).mono ?_
 rintro e w1 ⟨rfl,hb⟩
 replace HE:=znd (Env.call HE.out hb)
 clear hb
 go_wp2_with fail
 exact bodyPost_ret (v:=.bool (t.q.num.sign==0)) (by simp[results,Tryz.results85,go_sem]) rfl (⟨rfl,HE.out.bel⟩)

def nzT (t:TeV):Bool:=!(t.q.num.sign==0)
theorem OwnE.cut {w:World} {B:Nat} {e:TypeId} {sz g n cap:Nat} {cs:List (Array Value)} (h:OwnE w B e sz (.slice (some ⟨g,0,none⟩) n cap) cs) (i:Nat) (hi:i≤cs.length):OwnE w B e sz (.slice (some ⟨g,0,none⟩) i cap) (cs.take i):=by
 obtain⟨hs,hl,ho⟩:=h
 have hs':∀c∈cs.take i,c.size=sz:=fun c hc=>hs c (List.mem_of_mem_take hc)
 refine⟨hs',?_,?_⟩
 ·rw[zbg hs']
 ·rcases ho with⟨h1,-⟩|⟨g',cap',cur,hv,hg,hh,hn,hm,hsz,ht⟩
  ·cases h1
  ·obtain⟨rfl,rfl,rfl⟩:g=g'∧n=cs.length∧cap=cap':=by simpa using hv
   have hlen:(cs.take i).length=i:=by simp;omega
   refine .inr ⟨g,cap,cur,by rw[hlen],hg,hh,by omega,hm,hsz,?_⟩
   rw[hlen]
   have e:zb1 cs=zb1 (cs.take i)++zb1 (cs.drop i):=by rw[←zff,List.take_append_drop]
   have h2:(cur.toList.take (cs.length*sz)).take (i*sz)=cur.toList.take (i*sz):=by
    rw[List.take_take,Nat.min_eq_left (Nat.mul_le_mul_right _ hi)]
   rw[←h2,ht,e]
   exact List.take_left' (by rw[zbg hs',hlen])
theorem OwnE.behind {w:World} {B:Nat} {e:TypeId} {sz g n cap:Nat} {cs:List (Array Value)} (h:OwnE w B e sz (.slice (some ⟨g,0,none⟩) n cap) cs) (k:Nat) (hk:n*sz≤k) (u:Value):OwnE (w.setCell ⟨g,k,none⟩ u) B e sz (.slice (some ⟨g,0,none⟩) n cap) cs:=by
 obtain⟨hs,hl,ho⟩:=h
 refine⟨hs,hl,?_⟩
 rcases ho with⟨h1,-⟩|⟨g',cap',cur,hv,hg,hh,hn,hm,hsz,ht⟩
 ·cases h1
 ·obtain⟨rfl,rfl,rfl⟩:g=g'∧n=cs.length∧cap=cap':=by simpa using hv
  refine .inr ⟨g,cap,cur.setIfInBounds k u,rfl,hg,Blk.set_ (show Blk w g e cur from hh) k u,hn,hm,by simpa using hsz,?_⟩
  rw[Array.toList_setIfInBounds,List.take_set,List.set_eq_of_length_le (by simp;omega)]
  exact ht
theorem OwnE.behinds {B:Nat} {e:TypeId} {sz g n cap:Nat} {cs:List (Array Value)} (vs:List Value):∀(w:World) (k:Nat),n*sz≤k→OwnE w B e sz (.slice (some ⟨g,0,none⟩) n cap) cs→OwnE (w.setCells g k vs) B e sz (.slice (some ⟨g,0,none⟩) n cap) cs:=by
 induction vs with
 |nil=>intro w k _ h;exact h
 |cons v r ih=>intro w k hk h;exact ih _ _ (by omega) (h.behind k hk v)
theorem zeW (g:Nat) (vs:List Value):∀(w:World) (k b:Nat),b≠g→(w.setCells g k vs).heap[b]?=w.heap[b]?:=by
 induction vs with
 |nil=>intro w k b _;rfl
 |cons v r ih=>intro w k b hb;exact(ih _ _ b hb).trans (Below.heap_setCell w _ v b hb)
theorem zeB (g:Nat) (vs:List Value):∀(w:World) (k:Nat),(w.setCells g k vs).heap.size=w.heap.size:=by
 induction vs with
 |nil=>intro w k;rfl
 |cons v r ih=>intro w k;exact(ih _ _).trans (by simp[World.setCell])
theorem ze6 {B:Nat} {a:World} {g:Nat} (hg:B≤g) (vs:List Value):∀(w:World) (k:Nat),Below B a w→Below B a (w.setCells g k vs):=by
 induction vs with
 |nil=>intro w k h;exact h
 |cons v r ih=>intro w k h;exact ih _ _ (h.setCell hg v)
theorem zhk (w:World) {B g n cap i:Nat} {cs:List (Array Value)} (h:OwnE w B 65 5 (.slice (some ⟨g,0,none⟩) n cap) cs) (hi:i<n):
 ∃vs,∀ty,(Builtin.clear_ #[25] ty #[.slice (some ⟨g,i*5,none⟩) (n-i) (cap-i)]).run Tryz.prog w=.ok (.tuple #[]) (w.setCells g (i*5) vs):=by
 obtain⟨-,hl,h1|⟨g',cap',cur,hv,hg,hh,hn,hm,hsz,ht⟩⟩:=h
 ·cases h1.1
 ·obtain⟨rfl,rfl,rfl⟩:g=g'∧n=cs.length∧cap=cap':=by simpa using hv
  have hb:Blk w g 65 cur:=hh
  have hzv:∀w,(zeroValue 65).run Tryz.prog w=.ok zcq w:=fun w=>by kernel_rfl
  have hzs:∀v∈(Builtin.zeroCells zcq.cells (cs.length-i)).toList,v.oneCell'=true:=by
   intro v hv
   simp only[Builtin.zeroCells,Array.toList_map,List.mem_map]at hv
   obtain⟨k,-,rfl⟩:=hv
   have hk:k%zcq.cells.size<5:=Nat.mod_lt _ (by decide)
   generalize k%zcq.cells.size=m at*
   match m,hk with
   |0,_=>rfl
   |1,_=>rfl
   |2,_=>rfl
   |3,_=>rfl
   |4,_=>rfl
  have hzl:(Builtin.zeroCells zcq.cells (cs.length-i)).toList.length=(cs.length-i)*5:=by simp[Builtin.zeroCells];rfl
  have hst:=run_storeCells_cells (P:=Tryz.prog) g (i*5) (Builtin.zeroCells zcq.cells (cs.length-i)).toList 0 w (fun j hj=>by
   rw[hb.cell,Array.getElem?_eq_getElem (by rw[hzl]at hj;omega)];rfl) (fun j hj=>hb.frozen _) hzs
  rw[Nat.add_zero]at hst
  obtain⟨m,hm'⟩:∃m,cs.length-i=m+1:=⟨cs.length-i-1,by omega⟩
  refine⟨(Builtin.zeroCells zcq.cells (cs.length-i)).toList,fun ty=>?_⟩
  rw[hm']at hst⊢
  simp[Builtin.clear_,run_underlying zaE,hzv,hst]
set_option maxRecDepth 100000 in
theorem ziX (w:World) (n:Nat) (hn:n≤100000000000) (A:Option Addr) (c:Nat) (ts:List TeV) (h:LsR 5 tecells (teD n) A ts w) (hl:ts.length≤1000000):
 Calls Tryz.prog 115 #[.slice A ts.length c,.func (.func 85) #[] #[]] w fun e w'=>(∃z:Int,e=.returned (.int .i64 z)∧((z=-1∧∀t∈ts,nzT t=true)∨∃i:Nat,∃hi:i<ts.length,z=i∧nzT ts[i]=false∧∀t∈ts.take i,nzT t=true))∧Below w.heap.size w w':=by
 have sl1:=h.sl
 have hsz1:=zai
 have hadd:=zaa
 have HE:=znd (Env.start (h.old zah))
 clear h
 go_enter Tryz.func115,Tryz.ntmps115
 go_wp2_with fail
 go_loopw [8] (fun jv wr=>∃j:Nat,jv=.int .i64 (j:Int)∧j≤ts.length∧Hid (∀t∈ts.take j,nzT t=true)∧Hid (Env w [] (fun V=>LsR 5 tecells (teD n) A ts V) (fun _=>True) wr)) (fun jv _=>ts.length-(intOf jv).toNat)
 case atStart=>exact⟨0,rfl,Nat.zero_le _,znd (by simp),HE⟩
 case round=>
  clear HE
  obtain⟨j,rfl,hj,HN,HE⟩:=hrel
  by_cases hlt:j<ts.length
  ·have c:=HE.out.o.tc j hlt
   have hD:=HE.out.o.ok _ (List.getElem_mem hlt)
   have Hj:=znd (rfl:ts[j]=ts[j])
   obtain⟨t,ht⟩:∃t,t=ts[j]:=⟨_,rfl⟩
   rw[←ht]at c hD
   have Ht:=znd ht
   clear ht Hj
   go_wp2_with fail
   refine(zfi _ t n hn hD).mono ?_
   rintro e w1 ⟨rfl,hb⟩
   replace HE:=znd (Env.call HE.out hb)
   clear hb c hD
   obtain⟨B,hB⟩:∃B,(t.q.num.sign==0)=B:=⟨_,rfl⟩
   have HB:=znd hB
   rw[hB]
   clear hB
   cases B
   ·go_wp2_with fail
    go_roundw
    case rel=>exact⟨j+1,by go_num,by omega,znd (fun u hu=>by
     rw[List.take_succ_eq_append_getElem hlt]at hu
     rcases List.mem_append.1 hu with hu|hu
     ·exact HN.out u hu
     ·rw[List.mem_singleton.1 hu,←Ht.out];unfold nzT;rw[HB.out];rfl),HE⟩
    case measure=>(simp[intOf]<;>omega)
   ·go_wp2_with fail
    go_ret
    exact⟨⟨_,rfl,.inr ⟨j,hlt,rfl,by rw[←Ht.out];unfold nzT;rw[HB.out];rfl,HN.out⟩⟩,HE.out.bel⟩
  ·obtain rfl:j=ts.length:=by omega
   go_wp2_with fail
   go_ret
   exact⟨⟨_,rfl,.inl ⟨rfl,fun t ht=>HN.out t (by rw[List.take_length];exact ht)⟩⟩,HE.out.bel⟩
theorem OwnE.zero {w:World} {B:Nat} {e:TypeId} {sz n cap:Nat} {A:Option Addr} {cs:List (Array Value)} (h:OwnE w B e sz (.slice A n cap) cs) (hn:0<n):(∃g,A=some ⟨g,0,none⟩)∧n≤cap:=by
 obtain⟨-,-,h1|⟨g',cap',cur,hv,hg,hh,hn,-⟩⟩:=h
 ·have:n=0:=by simpa using(by simpa using h1.1:A=none∧n=0∧cap=0).2.1
  omega
 ·obtain⟨rfl,rfl,rfl⟩:A=some ⟨g',0,none⟩∧n=cs.length∧cap=cap':=by simpa using hv
  exact⟨⟨_,rfl⟩,hn⟩
def DI (ps:List TeV) (cs:List (Array Value)) (i j:Nat):Prop:=∃J,cs=((ps.take j).filter nzT).map tecells++J++(ps.drop j).map tecells∧((ps.take j).filter nzT).length=i∧i+J.length=j∧0<J.length
theorem DI.len {ps:List TeV} {cs:List (Array Value)} {i j:Nat} (h:DI ps cs i j) (hj:j≤ps.length):cs.length=ps.length:=by
 obtain⟨J,rfl,h1,h2,-⟩:=h
 simp[h1];omega
theorem DI.start {ps:List TeV} {i:Nat} (hi:i<ps.length) (h0:nzT ps[i]=false) (h1:∀t∈ps.take i,nzT t=true):DI ps (ps.map tecells) i (i+1):=by
 have e:(ps.take (i+1)).filter nzT=ps.take i:=by
  rw[List.take_succ_eq_append_getElem hi,List.filter_append,List.filter_eq_self.2 h1]
  simp[h0]
 refine⟨[tecells ps[i]],?_,?_,by simp,by simp⟩
 ·rw[e]
  conv=>lhs;rw[←List.take_append_drop i ps,List.map_append,List.drop_eq_getElem_cons hi,List.map_cons]
  rw[List.append_assoc]
  rfl
 ·rw[e];simp;omega
theorem DI.at_ {ps:List TeV} {cs:List (Array Value)} {i j:Nat} (h:DI ps cs i j) (hj:j<ps.length):cs[j]?=some (tecells ps[j]):=by
 obtain⟨J,rfl,h1,h2,-⟩:=h
 rw[List.getElem?_append_right (by simp[h1];omega)]
 simp only[List.length_append,List.length_map,h1,h2,Nat.sub_self]
 rw[List.drop_eq_getElem_cons hj,List.map_cons]
 rfl
theorem DI.zero {ps:List TeV} {cs:List (Array Value)} {i j:Nat} (h:DI ps cs i j) (hj:j<ps.length) (h0:nzT ps[j]=false):DI ps cs i (j+1):=by
 obtain⟨J,rfl,h1,h2,h3⟩:=h
 have e:(ps.take (j+1)).filter nzT=(ps.take j).filter nzT:=by
  rw[List.take_succ_eq_append_getElem hj,List.filter_append]
  simp[h0]
 refine⟨J++[tecells ps[j]],?_,by rw[e];exact h1,by simp;omega,by simp⟩
 rw[e,List.drop_eq_getElem_cons hj,List.map_cons]
 simp only[List.append_assoc,List.cons_append,List.nil_append]
theorem DI.keep {ps:List TeV} {cs:List (Array Value)} {i j:Nat} (h:DI ps cs i j) (hj:j<ps.length) (h0:nzT ps[j]=true):DI ps (cs.set i (tecells ps[j])) (i+1) (j+1):=by
 obtain⟨J,rfl,h1,h2,h3⟩:=h
 obtain⟨x,J',rfl⟩:=List.exists_cons_of_ne_nil (List.ne_nil_of_length_pos h3)
 have e:(ps.take (j+1)).filter nzT=(ps.take j).filter nzT++[ps[j]]:=by
  rw[List.take_succ_eq_append_getElem hj,List.filter_append]
  simp[h0]
 simp only[List.length_cons]at h2
 refine⟨J'++[tecells ps[j]],?_,by rw[e];simp[h1],by simp;omega,by simp⟩
 rw[e,List.append_assoc,List.set_append_right _ _ (by simp[h1]),List.length_map,h1,Nat.sub_self,List.drop_eq_getElem_cons hj,List.map_cons,List.map_append]
 simp only[List.append_assoc,List.cons_append,List.nil_append,List.set_cons_zero,List.map_cons,List.map_nil]
theorem DI.end_ {ps:List TeV} {cs:List (Array Value)} {i j:Nat} (h:DI ps cs i j) (hj:j=ps.length):(ps.filter nzT).length=i∧cs.take i=(ps.filter nzT).map tecells:=by
 subst hj
 obtain⟨J,rfl,h1,h2,h3⟩:=h
 rw[List.take_length]at h1⊢
 refine⟨h1,?_⟩
 rw[List.append_assoc]
 exact List.take_left' (by simp[h1])
theorem arr5 (x:Array Value) (h:x.size=5):∃a b c d e,x=#[a,b,c,d,e]:=by
 obtain⟨l⟩:=x
 match l,h with
 |[a,b,c,d,e],_=>exact⟨a,b,c,d,e,rfl⟩
set_option maxRecDepth 100000 in
theorem zed (w0 w:World) (v:Value) (ps:List TeV) (n:Nat) (hn:n≤100000000000) (old new:World→Prop) (h:GL w0 [⟨65,5,v,ps.map tecells⟩] old new w) (hok:∀V,new V→∀p∈ps,teD n p V) (hl:ps.length≤1000000):
 Calls Tryz.prog 84 #[v,.func (.func 85) #[] #[]] w fun e w'=>(∃A c,e=.returned (.slice A (ps.filter nzT).length c)∧(ps.filter nzT).length≤c∧Rests w' (w0.heap.size≤·) (fun V=>El V 5 A ((ps.filter nzT).map tecells)∧new V))∧Below w0.heap.size w0 w':=by
 obtain⟨A,c,hv,hpc,-,hel,-⟩:=(h.own _ (List.mem_cons_self ..)).form
 rw[List.length_map]at hv hpc
 have hv':v=.slice A ps.length c:=hv
 subst hv'
 have HG:=znd h
 have HO:=znd hok
 have hx:=znd (show LsR 5 tecells (teD n) A ps w from⟨hel,hok _ h.n⟩)
 clear h hok hel hv
 have hsz1:=zai
 have hadd:=zaa
 go_enter Tryz.func84,Tryz.ntmps84
 go_wp2_with fail
 refine(ziX _ n hn A c ps hx.out hl).mono ?_
 rintro e w1 ⟨⟨z,rfl,hz⟩,hb⟩
 replace HG:=znd ((HG.out.keep (Rests.pure trivial _ _) hb).imp (fun _ h=>h) (fun _ h=>h.2))
 clear hb hx
 rcases hz with⟨rfl,hz⟩|⟨i,hi,rfl,h0,hz⟩
 ·have e:=List.filter_eq_self.2 hz
  have Hz:=znd e
  clear hz e
  go_wp2_with fail
  go_ret
  obtain⟨A',c',hv,hc,hr⟩:=(HG.out.own _ (List.mem_cons_self ..)).reads
  obtain⟨rfl,-,rfl⟩:A=A'∧ps.length=(ps.map tecells).length∧c=c':=by simpa using hv
  rw[Hz.out]
  exact⟨⟨_,_,rfl,hpc,hr.and (HG.out.rsn.mono fun _ h=>h.1)⟩,HG.out.bel⟩
 ·have hpp:0<ps.length:=by omega
  obtain⟨⟨g,hA⟩,-⟩:=(show OwnE w1 w0.heap.size 65 5 (.slice A ps.length c) (ps.map tecells)from HG.out.own _ (List.mem_cons_self ..)).zero hpp
  have HA:=znd hA
  have sl1:Sl A ps.length:=by rw[hA];exact Sl.some_ _ _ _
  clear hA
  have HD:=znd (DI.start hi h0 hz)
  have hi1:¬((i:Int)=-1):=by omega
  have hi2:((i:Int)==-1)=false:=by simp
  clear h0 hz
  go_wp2_with fail
  go_loopw [5,6] (fun iv jv wr=>∃(i j:Nat) (cs:List (Array Value)),iv=.int .i64 (i:Int)∧jv=.int .i64 (j:Int)∧j≤ps.length∧i<j∧Hid (DI ps cs i j)∧Hid (GL w0 [⟨65,5,.slice A ps.length c,cs⟩] old new wr)) (fun _ jv _=>ps.length-(intOf jv).toNat)
  case atStart=>exact⟨i,i+1,_,rfl,by go_num,by omega,by omega,HD,HG⟩
  case round=>
   clear HD HG
   obtain⟨i,j,cs,rfl,rfl,hj,hij,HD,HG⟩:=hrel
   have hcl:=HD.out.len hj
   have HOw:=znd (show OwnE wr w0.heap.size 65 5 (.slice A ps.length c) cs from HG.out.own _ (List.mem_cons_self ..))
   by_cases hlt:j<ps.length
   ·have HE:=znd HG.out.env
    obtain⟨t,ht⟩:∃t,t=ps[j]:=⟨_,rfl⟩
    have Hm:=znd (show t∈ps by rw[ht];exact List.getElem_mem hlt)
    have hcj:=HD.out.at_ hlt
    rw[←ht]at hcj
    have c0:TC A j t wr:=by
     have hcc:=HOw.out.el.1.cell j (by omega)
     have e:cs[j]'(by omega)=tecells t:=by
      rw[List.getElem?_eq_getElem (by omega)]at hcj
      injection hcj
     rw[e]at hcc
     exact⟨hcc 0 (by decide),hcc 1 (by decide),hcc 2 (by decide),hcc 3 (by decide),hcc 4 (by decide)⟩
    have Ht:=znd ht
    clear hcj ht
    go_upto_region 8 with fail
    obtain⟨W2,gt,hW2,hgt,HE⟩:=Env.al HE.out 65 #[.int .i64 t.pl,.bool t.r.num.neg,.slice t.r.num.A t.r.num.k t.r.num.c,.bool t.r.den.neg,.slice t.r.den.A t.r.den.k t.r.den.c]
    rw[hW2,hgt]
    clear hW2 hgt c0
    have c1:=Env.c1 HE.out
    go_wp2_with fail
    refine(zfi _ t n hn (HO.out _ HE.out.o.2 t Hm.out)).mono ?_
    rintro e w3 ⟨rfl,hb⟩
    replace HE:=znd (Env.call HE.out hb)
    replace c1:=Env.c1 HE.out
    clear hb
    obtain⟨B,hB⟩:∃B,(t.q.num.sign==0)=B:=⟨_,rfl⟩
    have HB:=znd hB
    rw[hB]
    clear hB
    cases B
    ·have HOx:=znd (HOw.out.below HE.out.bel)
     have hic:i<cs.length:=by omega
     obtain⟨x0,x1,x2,x3,x4,hx⟩:=arr5 cs[i] (HOx.out.1 _ (List.getElem_mem hic))
     have c2:W2.heap.size=W2.heap.size:=rfl
     have c5:w3.cell? (adr A (i*5))=some x0∧w3.cell? (adr A (i*5+1))=some x1∧w3.cell? (adr A (i*5+2))=some x2∧w3.cell? (adr A (i*5+3))=some x3∧w3.cell? (adr A (i*5+4))=some x4:=by
      have hcc:=HOx.out.el.1.cell i hic
      rw[hx]at hcc
      exact⟨hcc 0 (by decide),hcc 1 (by decide),hcc 2 (by decide),hcc 3 (by decide),hcc 4 (by decide)⟩
     have f5:=fun k=>HOx.out.free HA.out k
     have hil:i<ps.length:=by omega
     have HGp:=znd (GL.put5 HA.out HG.out HE.out i hic (.int .i64 t.pl) (.bool t.r.num.neg) (.slice t.r.num.A t.r.num.k t.r.num.c) (.bool t.r.den.neg) (.slice t.r.den.A t.r.den.k t.r.den.c))
     clear c2 hx
     have hA:=HA.out
     subst hA
     have hGp:=HGp.out
     simp only[za6,Nat.zero_add]at c5 f5 hGp
     replace HGp:=znd hGp
     have hadr:∀j,adr (some ⟨g,0,none⟩) j=⟨g,j,none⟩:=fun j=>by rw[za6,Nat.zero_add]
     clear hGp hadd
     go_upto_region 10 with fail
     revert HGp
     generalize (World.setCell (World.setCell (World.setCell (World.setCell (World.setCell w3 _ _) _ _) _ _) _ _) _ _)=W5
     intro HGp
     clear c5 f5 c1
     go_wp2_with fail
     go_roundw
     case rel=>exact⟨i+1,j+1,_,by go_num,by go_num,by omega,by omega,znd (by have h:=HD.out.keep hlt (by rw[←Ht.out];unfold nzT;rw[HB.out];rfl);rw[←Ht.out]at h;exact h),znd (HGp.out.imp (fun _ h=>h) (fun _ h=>h.2))⟩
     case measure=>(simp[intOf]<;>omega)
    ·go_wp2_with fail
     go_roundw
     case rel=>exact⟨i,j+1,cs,rfl,by go_num,by omega,by omega,znd (HD.out.zero hlt (by rw[←Ht.out];unfold nzT;rw[HB.out];rfl)),znd ((HG.out.keep (Rests.pure trivial _ _) HE.out.bel).imp (fun _ h=>h) (fun _ h=>h.2))⟩
     case measure=>(simp[intOf]<;>omega)
   ·obtain rfl:j=ps.length:=by omega
    have hil:i<ps.length:=by omega
    have hil2:(i:Int)≤(ps.length:Int):=by omega
    have hpc2:(ps.length:Int)≤(c:Int):=by omega
    have hA:=HA.out
    subst hA
    obtain⟨vs,hclr⟩:=zhk wr HOw.out hil
    have hcut:=(HOw.out.cut i (by omega)).behinds vs wr (i*5) (Nat.le_refl _)
    obtain⟨hfl,htk⟩:=HD.out.end_ rfl
    rw[htk]at hcut
    have hgo:=GL.go (o':=⟨65,5,.slice (some ⟨g,0,none⟩) i c,(ps.filter nzT).map tecells⟩) HG.out (Rests.pure trivial wr (wr.heap.size≤·)) (Below.refl _ wr) hcut
     (ze6 (by have:=HOw.out.lt g rfl;omega) vs _ _ (Below.refl _ _)) (fun k _ hk=>zeW g vs _ _ k (fun e=>hk (by rw[e];rfl))) (by rw[zeB];exact Nat.le_refl _) (.inl rfl)
    have HGo:=znd hgo
    have Hfl:=znd hfl
    clear hcut htk hgo hfl
    have hic2:(0:Int)≤(i:Int):=by omega
    have hic3:(i:Int)≤(c:Int):=by omega
    go_wp2_with fail
    go_ret
    obtain⟨A',c',hv,hc,hr⟩:=(HGo.out.own _ (List.mem_cons_self ..)).reads
    rw[List.length_map,Hfl.out]at hv hc
    obtain⟨rfl,rfl⟩:some ⟨g,0,none⟩=A'∧c=c':=by simpa using hv
    rw[Hfl.out]
    exact⟨⟨_,_,rfl,hc,hr.and (HGo.out.rsn.mono fun _ h=>h.1) |>.imp fun _ h=>⟨h.1,h.2.2⟩⟩,HGo.out.bel⟩

theorem zbr {P:Program} {w w':World} {ops:Array Oper} {o:Oper} {a:Act} {K:Act→World→Prop} {Q:Exit→Act→World→Prop} {E:Prop} (hgd:o.guard=none) (s x:Operand) (t:TypeId) (v y v':Value)
 (ho:o.op=.call {callee:=.builtin .append,args:=#[s,x],argTypes:=#[t,t]}) (hs:a.eval s=v) (hx:a.eval x=y)
 (hrun:(Builtin.append_ #[t,t] o.type #[v,y]).run P w=.ok v' w')
 (h:K (a.put o.dst v') w'):if Region.wanted o (yielded ops a.tmps)=true then Oper.wp P o a w K Q else E:=by
 have hw:Region.wanted o (yielded ops a.tmps)=true:=by simp[Region.wanted,hgd]
 rw[if_pos hw]
 unfold Oper.wp execOp
 simp only[ho,resolve,invoke,builtin,Sem.run_bind,Sem.run_pure,Result.andThen_ok,List.map_toArray,List.map_cons,List.map_nil,hs,hx,hrun]
 exact h
theorem Env.drewN {w W:World} {bs:List Bo} {old new:World→Prop} (h:Env w bs old new W) (n:Nat):Env w bs old new (W.drewN n):=h.call (Below.drewN (Below.refl _ W) n)
def plq (t:TeV):Int×Rat:=(t.pl,t.q)
def RetVec (us:List (Int×Rat)) (w:World) (e:Ending) (w':World):Prop:=
 ∃A c ts,e=.returned (.slice A (List.length ts) c)∧ts.length≤c∧ts.map plq=us∧Rests w' (w.heap.size≤·) (LsR 5 tecells teN A ts)∧Below w.heap.size w w'
def nzP (p:Int×Rat):Bool:=!(p.2.num.sign==0)
theorem filter_plq (l:List TeV):(l.filter nzT).map plq=(l.map plq).filter nzP:=by
 induction l with
 |nil=>rfl
 |cons t l ih=>
  have e:nzP (plq t)=nzT t:=rfl
  by_cases h:nzT t=true
  ·simp[e,h,ih]
  ·simp[e,h,ih]
theorem GL.appT {w W W':World} {ls:List Ow} {bs:List Bo} {old new old' new':World→Prop} {t:TypeId} (ht:Tryz.prog.underlying t=some (.slice 65)) {A:Option Addr} {c:Nat} {os:List TeV} (h:GL w (⟨65,5,.slice A os.length c,os.map tecells⟩::ls) old new W) (he:Env W bs old' new' W') (x:TeV) (hl:os.length≤1000000):
 ∃A' c' w',(Builtin.append_ #[t,t] t #[.slice A os.length c,.slice (some ⟨W'.heap.size,0,none⟩) 1 1]).run Tryz.prog (W'.alloc (.cells (tecells x) 65))=.ok (.slice A' (os++[x]).length c') w'∧GL w (⟨65,5,.slice A' (os++[x]).length c',(os++[x]).map tecells⟩::ls) old (fun V=>new' V∧new V) w':=by
 obtain⟨v',w',hrun,hG⟩:=GL.app (P:=Tryz.prog) ht zbD rfl (by decide) h he (tecells x) rfl (zcd x) (by simp;omega) (by simp[maxLen];omega)
 obtain⟨A',c',hv,-⟩:=(hG.own _ (List.mem_cons_self ..)).form
 have hv':v'=.slice A' (os++[x]).length c':=by rw[show v'=_ from hv];simp
 subst hv'
 refine⟨A',c',w',hrun,?_⟩
 have e:(os++[x]).map tecells=os.map tecells++[tecells x]:=by simp
 rw[e];exact hG
set_option maxRecDepth 100000 in
theorem zbe (w:World) (n:Nat) (hn:n≤100000000000) (h1n:1≤n) (A:Option Addr) (c:Nat) (ts:List TeV) (h:LsR 5 tecells (teD n) A ts w) (h20:ts.length≤20) (hr:Rise ts) (hT:Tz w):
 Calls Tryz.prog 44 #[.slice A ts.length c] w (RetVec ((ts.map plq).filter nzP) w):=by
 have HE:=znd (Env.start ((h.old zah).and hT.old))
 have HR:=znd hr
 have HS:=znd (show∀t∈ts,Sz t.q n from fun t ht=>RatD.sz (h.ok t ht) h1n)
 clear h hr hT
 have hsz1:=zbV
 have hsz2:=zai
 have hadd:=zaa
 go_enter Tryz.func44,Tryz.ntmps44
 go_wp2_with fail
 refine(ziB _ (teD n) A c ts HE.out.o.1 (by omega)).mono ?_
 rintro e w1 ⟨A1,c1,rfl,hc1,hk,hb⟩
 replace HE:=znd (Env.ret HE.out hk hb)
 clear hk hb
 have sl1:Sl A1 ts.length:=by have:=HE.out.n.1.sl;rwa [List.length_map]at this
 go_wp2_with fail
 refine(zhV _ (teD n) zah A1 c1 ts ⟨HE.out.n.1,HE.out.o.1.ok⟩ h20 HR.out).mono ?_
 rintro e w2 ⟨rfl,hb⟩
 replace HE:=znd (Env.call HE.out hb)
 clear hb
 go_wp2_with fail
 have HG:=znd ((GL.start HE.out).new_ 65 5)
 clear HE
 go_loopw [4,14] (fun ov iv wr=>∃(Ao:Option Addr) (co i:Nat) (os:List TeV),ov=.slice Ao i co∧iv=.int .i64 (i:Int)∧i≤ts.length∧Hid (os.length=i)∧Hid (os.map plq=(ts.take i).map plq)∧Hid (GL w [⟨65,5,.slice Ao i co,os.map tecells⟩] (fun V=>LsR 5 tecells (teD n) A ts V∧Tz V) (fun V=>(∀p∈os,teN p V)∧El V 5 A1 (ts.map tecells)) wr)) (fun _ iv _=>ts.length-(intOf iv).toNat)
 case atStart=>exact⟨none,0,0,[],rfl,rfl,Nat.zero_le _,znd rfl,znd rfl,znd (HG.out.imp (fun _ h=>h.2) (fun _ h=>⟨by simp,h.1⟩))⟩
 case round=>
  clear HG
  obtain⟨Ao,co,i,os,rfl,rfl,hi,Hoi,HM,HG⟩:=hrel
  by_cases hlt:i<ts.length
  ·have HE:=znd HG.out.env
   have HLs:=znd (show LsR 5 tecells (teD n) A1 ts wr from⟨HE.out.o.2.2,HE.out.o.1.1.ok⟩)
   have c0:=HLs.out.tc i hlt
   obtain⟨t,ht⟩:∃t,t=ts[i]:=⟨_,rfl⟩
   rw[←ht]at c0
   have Hm:=znd (show t∈ts by rw[ht];exact List.getElem_mem hlt)
   have Ht:=znd ht
   clear ht
   go_upto_region 7 with fail
   obtain⟨W2,gt,hW2,hgt,HE⟩:=Env.al HE.out 65 #[.int .i64 t.pl,.bool t.r.num.neg,.slice t.r.num.A t.r.num.k t.r.num.c,.bool t.r.den.neg,.slice t.r.den.A t.r.den.k t.r.den.c]
   rw[hW2,hgt]
   clear hW2 hgt c0
   have c:=Env.c1 HE.out
   go_upto_region 8 with fail
   go_cut [32]from 15 to 56 (fun bv wx=>bv=.bool false∧Hid (Env wr [⟨gt,65,#[.int .i64 t.pl,.bool t.r.num.neg,.slice t.r.num.A t.r.num.k t.r.num.c,.bool t.r.den.neg,.slice t.r.den.A t.r.den.k t.r.den.c]⟩] (fun V=>(fun V=>LsR 5 tecells (teD n) A ts V∧Tz V) V∧(fun V=>(∀p∈os,teN p V)∧El V 5 A1 (ts.map tecells)) V) (fun _=>True) wx))
   case first=>
    rcases Nat.eq_zero_or_pos i with rfl|h0
    ·go_quiet (fail)
     go_wp2_with fail
     go_meet
     case rel=>exact⟨rfl,znd (HE.out.drewN _)⟩
    ·obtain⟨k,rfl⟩:∃k,i=k+1:=⟨i-1,by omega⟩
     have hko:k<os.length:=by have:=Hoi.out;omega
     have hlt2:(os[k]'hko).pl<t.pl:=by
      have h2:=congrArg (fun l=>l[k]?) HM.out
      simp only[List.getElem?_map,List.getElem?_take,List.getElem?_eq_getElem hko]at h2
      rw[if_pos (by omega),List.getElem?_eq_getElem (by omega)]at h2
      have h3:(os[k]'hko).pl=(ts[k]'(by omega)).pl:=by simpa[plq] using congrArg (fun o=>(o.map Prod.fst).getD 0) h2
      rw[h3,Ht.out]
      exact HR.out.at_ (by omega) hlt
     have cc:Hid (LsR 5 tecells teN Ao os wr):=znd ⟨(show OwnE wr w.heap.size 65 5 (.slice Ao (k+1) co) (os.map tecells)from HG.out.own _ (List.mem_cons_self ..)).el.1,HG.out.n.1⟩
     have c2:=((cc.out.old zda).below HE.out.bel).now.tc k hko
     have slo:Sl Ao (k+1):=by have:=cc.out.sl;rwa [Hoi.out]at this
     have hne:((os[k]'hko).pl==t.pl)=false:=by simp;omega
     generalize (os[k]'hko)=u at*
     have hi1:(0:Int)<(k:Int)+1:=by omega
     have hi3:(k:Int)<(k:Int)+1:=by omega
     have hi4:k<k+1:=by omega
     have hi5:IntKind.i64.wrap ((k:Int)+1-1)=(k:Int):=by rw[IntKind.wrap_i64];omega
     have hi6:IntKind.i64.wrap (k:Int)=(k:Int):=by rw[IntKind.wrap_i64];omega
     clear cc hlt2 hko
     go_quiet (fail)
     go_wp2_with fail
     go_meet
     case rel=>exact⟨rfl,znd (HE.out.drewN _)⟩
   case rest=>
    clear HE c
    obtain⟨rfl,HE⟩:=hcut
    have c:=Env.c1 HE.out
    go_upto_region 10 with fail
    go_region_held3 (fun W=>CB gt #[.int .i64 t.pl,.bool t.r.num.neg,.slice t.r.num.A t.r.num.k t.r.num.c,.bool t.r.den.neg,.slice t.r.den.A t.r.den.k t.r.den.c] W) (first|with_reducible exact c|((repeat' apply And.intro)<;>go_keep)|exact c|exact Env.c1 (HE.out.other _)|exact Env.c1 (HE.out.drew.other _))
     (first
      |(go_at_call 24;go_must (refine(zaG _ t.r t.q n (by omega) h1n (by first|exact HE.out.o.1.1.ok t Hm.out|exact HE.out.drew.o.1.1.ok t Hm.out) (by first|exact HE.out.o.1.2|exact HE.out.drew.o.1.2)).mono ?_;rintro e w3 ⟨rk,rfl,hk,hb⟩;replace HE:=znd (Env.rx HE.out hk hb);replace c:=Env.c1 HE.out;clear hk hb))
      |(obtain⟨Ap,cp,w8,hrun,hG⟩:=GL.appT zaE (os:=os) (by rw[Hoi.out];exact HG.out) (by first|exact HE.out.read|exact HE.out.drew.read) ⟨t.pl,rk,t.q⟩ (by have:=Hoi.out;omega);rw[Hoi.out]at hrun;refine zbr rfl (.tmp 47) (.tmp 54) 25 _ _ _ rfl rfl rfl hrun ?_;replace c:=Blk.cb hG.n.1.1;have HG2:=znd hG;clear hrun hG HE))
    go_wp2_with fail
    go_roundw
    case rel=>exact⟨Ap,cp,i+1,os++[⟨t.pl,rk,t.q⟩],by rw[Hoi.out],by go_num,by omega,znd (by have:=Hoi.out;simp;omega),znd (by rw[List.map_append,HM.out,List.take_succ_eq_append_getElem hlt,List.map_append,←Ht.out];rfl),znd (by have hX:=HG2.out;rw[List.length_append,Hoi.out]at hX;exact hX.imp (fun _ h=>h) (fun V h=>⟨fun p hp=>by
     rcases List.mem_append.1 hp with hp|hp
     ·exact h.2.1 p hp
     ·rw[List.mem_singleton.1 hp];exact h.1.2.1,h.2.2⟩))⟩
    case measure=>(simp[intOf]<;>omega)
  ·obtain rfl:i=ts.length:=by omega
   have hol:os.length≤1000000:=by have:=Hoi.out;omega
   have HM2:=znd (show os.map plq=ts.map plq by have:=HM.out;rwa [List.take_length]at this)
   have HS2:=znd (show∀p∈os,Sz p.q n from fun p hp=>by
    have h1:=List.mem_map_of_mem (f:=plq) hp
    rw[HM2.out]at h1
    obtain⟨t,ht,e⟩:=List.mem_map.1 h1
    have e2:t.q=p.q:=congrArg Prod.snd e
    rw[←e2];exact HS.out t ht)
   clear HM
   go_wp2_with fail
   refine(zed w _ (.slice Ao ts.length co) os n hn _ _ HG.out (fun V hV p hp=>RatN.rat (hV.1 p hp) (HS2.out p hp)) hol).mono ?_
   rintro e w9 ⟨⟨Ap,cp,rfl,hc,hr⟩,hb⟩
   have Hr:=znd hr
   clear hr
   go_wp2_with fail
   go_ret
   refine⟨Ap,cp,os.filter nzT,rfl,hc,by rw[filter_plq,HM2.out],Hr.out.imp fun V h=>⟨h.1,fun p hp=>h.2.1 p (List.mem_filter.1 hp).1⟩,hb⟩
end Go.Proofs.YtfdmajmhmligpaaGreatDoor
