/-
 Lists of elements of more than one cell: read, made by append. Lists of tokens in memory. tokens.Tokens.
-/
import Derived.Test.YtegfiemlnnpidaaGreatDoorVal
import Derived.Test.YtegfiemlnnpidaaGreatDoorLowB
import Derived.Test.YtegfiemlnnpidaaGreatDoorTK
import Derived.Maps.AppendAt
namespace Go.Proofs.YtegfiemlnnpidaaGreatDoor
open Go.RowKit

structure El (w:World) (sz:Nat) (A:Option Addr) (cs:List (Array Value)):Prop where
 sl:Sl A cs.length
 size:∀i,(h:i<cs.length)->(cs[i]).size=sz
 cell:∀i,(h:i<cs.length)->∀j,j<sz->w.cell? (adr A (i*sz+j))=(cs[i])[j]?
theorem El.nil_ (w:World) (sz:Nat) (A:Option Addr):El w sz A []:=⟨fun h=>absurd h (by simp),fun i h=>absurd h (by simp),fun i h=>absurd h (by simp)⟩
theorem El.lt {w:World} {sz:Nat} {A:Option Addr} {cs:List (Array Value)} (h:El w sz A cs) (i:Nat) (hi:i<cs.length) (j:Nat) (hj:j<sz):(adr A (i*sz+j)).block<w.heap.size:=by
 have h1:=h.cell i hi j hj;have h2:j<(cs[i]).size:=by rw[h.size i hi];exact hj
 rw[Array.getElem?_eq_getElem h2]at h1;exact World.block_lt_of_cell? w _ h1
theorem El.keep {w w':World} {sz:Nat} {A:Option Addr} {cs:List (Array Value)} (h:El w sz A cs) (hk:∀p:Addr,p.block<w.heap.size->p.block=(adr A 0).block->w'.cell? p=w.cell? p):El w' sz A cs:=
 ⟨h.sl,h.size,fun i hi j hj=>(hk _ (h.lt i hi j hj) rfl).trans (h.cell i hi j hj)⟩
theorem El.below {w w':World} {sz:Nat} {A:Option Addr} {cs:List (Array Value)} (h:El w sz A cs) (hb:Below w.heap.size w w'):El w' sz A cs:=h.keep fun _ hp _=>hb.cell hp
theorem El.alloc {w:World} {sz:Nat} {A:Option Addr} {cs:List (Array Value)} (h:El w sz A cs) (o:Obj):El (w.alloc o) sz A cs:=h.keep fun p hp _=>World.cell?_alloc_lt w o p hp
theorem El.drew {w:World} {sz:Nat} {A:Option Addr} {cs:List (Array Value)} (h:El w sz A cs):El w.drew sz A cs:=⟨h.sl,h.size,h.cell⟩
theorem El.take {w:World} {sz:Nat} {A:Option Addr} {cs:List (Array Value)} (h:El w sz A cs) (n:Nat):El w sz A (cs.take n):=by
 have hl:(cs.take n).length<=cs.length:=by simp;omega
 refine⟨h.sl.mono hl,fun i hi=>?_,fun i hi j hj=>?_⟩
 ·rw[List.getElem_take];exact h.size i (by omega)
 ·rw[List.getElem_take];exact h.cell i (by omega) j hj
def zb1 (cs:List (Array Value)):List Value:=cs.flatMap Array.toList
theorem zbg {sz:Nat} {cs:List (Array Value)} (h:∀c∈cs,c.size=sz):(zb1 cs).length=cs.length*sz:=by
 induction cs with
 |nil=>simp[zb1]
 |cons c cs ih=>
  have:=ih (fun x hx=>h x (by simp[hx]));unfold zb1 at this⊢;simp only[List.flatMap_cons,List.length_append,this,Array.length_toList,h c (by simp),List.length_cons,Nat.add_mul,Nat.one_mul];omega
theorem zbJ {sz:Nat} {cs:List (Array Value)} (h:∀c∈cs,c.size=sz) (i j:Nat) (hi:i<cs.length) (hj:j<sz):(zb1 cs)[i*sz+j]?=(cs[i])[j]?:=by
 induction cs generalizing i with
 |nil=>simp at hi
 |cons c cs ih=>
  have hc:c.size=sz:=h c (by simp);unfold zb1;rw[List.flatMap_cons]
  match i with
  |0=>
   rw[List.getElem?_append_left (by rw[Array.length_toList,hc];omega)];simp
  |i+1=>
   rw[List.getElem?_append_right (by rw[Array.length_toList,hc,Nat.add_mul];omega),Array.length_toList,hc,show(i+1)*sz+j-sz=i*sz+j from by rw[Nat.add_mul];omega];exact ih (fun x hx=>h x (by simp[hx])) i (by simpa using hi)
theorem El.flat {w:World} {sz:Nat} {A:Option Addr} {cs:List (Array Value)} (hsz:0<sz) (h:El w sz A cs):∀j u,(zb1 cs)[j]?=some u->w.cell? (adr A j)=some u:=by
 intro j u hu;have hc:∀c∈cs,c.size=sz:=fun c hc=>by obtain⟨i,hi,rfl⟩:=List.mem_iff_getElem.1 hc;exact h.size i hi
 have hl:=zbg hc;have hj:j<cs.length*sz:=by rw[<-hl];exact(List.getElem?_eq_some_iff.1 hu).1
 have h1:j/sz<cs.length:=(Nat.div_lt_iff_lt_mul hsz).2 hj;have h2:j%sz<sz:=Nat.mod_lt _ hsz;have e:j/sz*sz+j%sz=j:=by rw[Nat.mul_comm];exact Nat.div_add_mod _ _
 have:=h.cell _ h1 _ h2;rw[<-zbJ hc _ _ h1 h2,e]at this;rw[this,hu]

def OwnE (w:World) (B:Nat) (e:TypeId) (sz:Nat) (pv:Value) (cs:List (Array Value)):Prop:=(∀c∈cs,c.size=sz)/\w.ownsRow B e sz pv cs.length (zb1 cs)
theorem OwnE.nil_ (w:World) (B:Nat) (e:TypeId) (sz:Nat):OwnE w B e sz (.slice none 0 0) []:=⟨by simp,World.ownsRow_nil _ _ _ _⟩
theorem OwnE.form {w:World} {B:Nat} {e:TypeId} {sz:Nat} {pv:Value} {cs:List (Array Value)} (h:OwnE w B e sz pv cs):∃A c,pv=.slice A cs.length c/\cs.length<=c/\c<=maxLen/\El w sz A cs/\(∀b,pv.ownBlock=some b->B<=b):=by
 obtain⟨hs,h⟩:=h;have hs':∀i,(h:i<cs.length)->(cs[i]).size=sz:=fun i hi=>hs _ (List.getElem_mem hi);rcases h.2 with⟨h1,h2⟩|⟨g,cap,cur,hv,hg,hh,hn,hm,hsz,ht⟩
 ·have:cs=[]:=List.eq_nil_of_length_eq_zero h2;subst this;exact⟨none,0,h1,Nat.le_refl _,by simp[maxLen],El.nil_ _ _ _,by rw[h1];intro b hb;cases hb⟩
 ·refine⟨some ⟨g,0,none⟩,cap,hv,hn,hm,⟨Sl.some_ _ _ _,hs',fun i hi j hj=>?_⟩,?_⟩
  ·have hlt:i*sz+j<cs.length*sz:=by
    have:(i+1)*sz<=cs.length*sz:=Nat.mul_le_mul_right _ hi;rw[Nat.add_mul]at this;omega
   have hc:w.cell? (adr (some ⟨g,0,none⟩) (i*sz+j))=cur[i*sz+j]?:=by simp[World.cell?,adr,hh]
   have h2:(cur.toList.take (cs.length*sz))[i*sz+j]?=cur[i*sz+j]?:=by rw[List.getElem?_take,if_pos hlt];simp
   rw[hc,<-h2,ht];exact zbJ hs i j hi hj
  ·rw[hv];intro b hb;cases hb;exact hg
theorem OwnE.keep {w w':World} {B:Nat} {e:TypeId} {sz:Nat} {pv:Value} {cs:List (Array Value)} (h:OwnE w B e sz pv cs) (hk:∀b,b<w.heap.size->pv.ownBlock=some b->w'.heap[b]?=w.heap[b]?):OwnE w' B e sz pv cs:=by
 refine⟨h.1,h.2.1,?_⟩;rcases h.2.2 with h2|⟨g,cap,cur,hv,hg,hh,r⟩
 ·exact .inl h2
 ·exact .inr ⟨g,cap,cur,hv,hg,by rw[hk g (Array.getElem?_eq_some_iff.1 hh).1 (by rw[hv];rfl)];exact hh,r⟩
theorem OwnE.below {w w':World} {B:Nat} {e:TypeId} {sz:Nat} {pv:Value} {cs:List (Array Value)} (h:OwnE w B e sz pv cs) (hb:Below w.heap.size w w'):OwnE w' B e sz pv cs:=h.keep fun b hlt _=>hb.block b hlt
theorem OwnE.alloc {w:World} {B:Nat} {e:TypeId} {sz:Nat} {pv:Value} {cs:List (Array Value)} (h:OwnE w B e sz pv cs) (o:Obj):OwnE (w.alloc o) B e sz pv cs:=h.keep fun b hlt _=>Below.heap_alloc w o b hlt
theorem OwnE.drew {w:World} {B:Nat} {e:TypeId} {sz:Nat} {pv:Value} {cs:List (Array Value)} (h:OwnE w B e sz pv cs):OwnE w.drew B e sz pv cs:=h
theorem OwnE.lt {w:World} {B:Nat} {e:TypeId} {sz:Nat} {pv:Value} {cs:List (Array Value)} (h:OwnE w B e sz pv cs):∀b,pv.ownBlock=some b->B<=b/\b<w.heap.size:=fun b hb=>World.ownsRow.lt h.2 b hb
theorem zff (cs ds:List (Array Value)):zb1 (cs++ds)=zb1 cs++zb1 ds:=by simp[zb1]
theorem OwnE.apps {P:Program} {W:World} {B:Nat} {t e:TypeId} {sz bytes:Nat} {pv z:Value} {cs ds:List (Array Value)} (ht:P.underlying t=some (.slice e)) (hinfo:(P.info? e).map (fun i=>(i.zero,i.size,i.bytes))=some (some z,sz,bytes)) (hz:z.cells.size=sz) (hsz:0<sz)
 (hown:OwnE W B e sz pv cs) {b o c:Nat} (hd:El W sz (some ⟨b,o,none⟩) ds) (h1:∀d∈ds,∀u∈d.toList,u.oneCell'=true) (hlen:(cs.length+ds.length)*bytes<=140737488355328) (hl:cs.length+ds.length<=maxLen) (hB:B<=W.heap.size):
 ∃v' w',(Builtin.append_ #[t,t] t #[pv,.slice (some ⟨b,o,none⟩) ds.length c]).run P W=.ok v' w'/\OwnE w' B e sz v' (cs++ds)/\Below B W w'/\
  (∀k,k<W.heap.size->pv.ownBlock≠some k->w'.heap[k]?=W.heap[k]?)/\W.heap.size<=w'.heap.size/\(v'.ownBlock=pv.ownBlock\/v'.ownBlock=some W.heap.size):=by
 obtain⟨i0,hi0,hz0,hz1,hz2⟩:=info_parts hinfo;have hds:∀d∈ds,d.size=sz:=fun c hc=>by obtain⟨i,hi,rfl⟩:=List.mem_iff_getElem.1 hc;exact hd.size i hi
 obtain⟨v',w',hrun,h2,h3,-,h5⟩:=run_append_own_at (P:=P) W B t t e i0 z sz bytes ht hi0 hz0 hz1 hz2 hz hsz pv cs.length (zb1 cs) hown.2
  ⟨b,o,none⟩ ds.length c (zb1 ds) (zbg hds) (fun j u hu=>by have:=hd.flat hsz j u hu;rwa [za6,<-zaf]at this) (fun u hu=>by
   obtain⟨d,hd,hu⟩:=List.mem_flatMap.1 hu;exact h1 d hd u hu) hl hlen hB
 have hlt:=hown.lt;refine⟨v',w',hrun,⟨fun c hc=>?_,?_⟩,?_,?_,h3.size,h5⟩
 ·rcases List.mem_append.1 hc with h|h
  ·exact hown.1 c h
  ·exact hds c h
 ·rw[List.length_append,zff];exact h2
 ·exact(Below.refl _ _).grown h3 hB (fun b hb=>(hlt b hb).1)
 ·intro k hk hne;exact h3.block k hk (fun e=>hne e.symm)

@[go_sem] theorem run_indexAt_el {P:Program} (w:World) (t:TypeId) (A:Option Addr) (len cap:Nat) (k:IntKind) (i:Int) (hs:Sl A len)
 (h:P.underlying t=some (.slice (P.elem t))) (h1:(sizeOf (P.elem t)).run P w=.ok 7 w):
 (Instr.indexAt t (.slice A len cap) (.int k i)).run P w=
  if 0<=i/\i<len then .ok (.pointer (some (adr A (i.toNat*7)))) w else(boundsPanic k i len .index).run P w:=by
 rcases A with _|a
 ·have h0:len=0:=by
   rcases Nat.eq_zero_or_pos len with h|h
   ·exact h
   ·obtain⟨_,_,h⟩:=hs h;cases h
  subst h0;rw[if_neg (by omega)];simp[Instr.indexAt,run_underlying h,asIntOf]
 ·rw[run_indexAt_slice w t a len cap k i h]
  split
  ·rename_i hi
   obtain⟨b,o,e⟩:=hs (by omega)
   cases e
   rw[h1];simp only[Result.andThen_ok,zaf,za6]
  ·rfl
theorem zaa (A:Option Addr) (n j:Nat):(adr A n).add j=adr A (n+j):=by
 unfold adr;rw[zaf,Nat.add_assoc]

theorem Rests.lt {w:World} {F:Nat->Prop} {φ:World->Prop} (h:Rests w F φ):Rests w (fun b=>F b/\b<w.heap.size) φ:=⟨h.now,fun w' hw=>h.lift w' fun b hF hb=>hw b ⟨hF,hb⟩ hb⟩

theorem zt3:Tryz.prog.underlying 110=some (.slice 118):=by kernel_rfl
def tokZ:Value:=.agg #[.int .u8 0,.string ⟨#[]⟩,.bool false,.slice none 0 0,.bool false,.slice none 0 0,.int .i64 0]
theorem ztV:(Tryz.prog.info? 118).map (fun i=>(i.zero,i.size,i.bytes))=some (some tokZ,7,96):=by kernel_rfl

def zoQ (ps:List (Tk×RV)):List (Array Value):=ps.map fun p=>zq6 p.1 p.2
structure TokO (w:World) (B:Nat) (v:Value) (ps:List (Tk×RV)):Prop where
 own:OwnE w B 118 7 v (zoQ ps)
 num:∀p∈ps,Rests w (fun b=>B<=b/\some b≠v.ownBlock) (RatN p.2 p.1.x)
theorem TokO.nil_ (w:World) (B:Nat):TokO w B (.slice none 0 0) []:=⟨OwnE.nil_ _ _ _ _,by simp⟩
theorem TokO.below {w w':World} {B:Nat} {v:Value} {ps:List (Tk×RV)} (h:TokO w B v ps) (hb:Below w.heap.size w w'):TokO w' B v ps:=⟨h.own.below hb,fun p hp=>(h.num p hp).below hb⟩
theorem TokO.alloc {w:World} {B:Nat} {v:Value} {ps:List (Tk×RV)} (h:TokO w B v ps) (o:Obj):TokO (w.alloc o) B v ps:=⟨h.own.alloc o,fun p hp=>(h.num p hp).alloc o⟩
theorem TokO.drew {w:World} {B:Nat} {v:Value} {ps:List (Tk×RV)} (h:TokO w B v ps):TokO w.drew B v ps:=⟨h.own,fun p hp=>(h.num p hp).drew⟩
theorem zsF (k:Tk) (r:RV):∀u∈(zq6 k r).toList,u.oneCell'=true:=by
 intro u hu;simp only[zq6,List.mem_cons,List.not_mem_nil,or_false]at hu;rcases hu with rfl|rfl|rfl|rfl|rfl|rfl|rfl<;>rfl
theorem TokO.apps {W:World} {B:Nat} {v:Value} {ps qs:List (Tk×RV)} {b o c:Nat} (h:TokO W B v ps) (hd:El W 7 (some ⟨b,o,none⟩) (zoQ qs)) (hq:∀q∈qs,Rests W (fun b=>B<=b/\some b≠v.ownBlock) (RatN q.2 q.1.x)) (hl:ps.length+qs.length<=1000000) (hB:B<=W.heap.size):
 ∃v' w',(Builtin.append_ #[110,110] 110 #[v,.slice (some ⟨b,o,none⟩) qs.length c]).run Tryz.prog W=.ok v' w'/\TokO w' B v' (ps++qs)/\Below B W w'/\
  (∀k,k<W.heap.size->v.ownBlock≠some k->w'.heap[k]?=W.heap[k]?)/\W.heap.size<=w'.heap.size/\(∀φ:World->Prop,Rests W (fun b=>B<=b/\some b≠v.ownBlock) φ->Rests w' (fun b=>B<=b/\some b≠v'.ownBlock) φ):=by
 have e1:(zoQ ps).length=ps.length:=by simp[zoQ]
 have e2:(zoQ qs).length=qs.length:=by simp[zoQ]
 obtain⟨v',w',hrun,ho,hb,hk,hs,hor⟩:=h.own.apps (P:=Tryz.prog) (c:=c) zt3 ztV rfl (by decide) hd (fun d hd u hu=>by
  obtain⟨q,_,rfl⟩:=List.mem_map.1 hd;exact zsF _ _ u hu) (by rw[e1,e2];omega) (by rw[e1,e2];simp only[maxLen];omega) hB
 rw[e2]at hrun;have key:∀φ:World->Prop,Rests W (fun b=>B<=b/\some b≠v.ownBlock) φ->Rests w' (fun b=>B<=b/\some b≠v'.ownBlock) φ:=fun φ hp=>by
  have h1:=hp.lt;have h2:∀b,((B<=b/\some b≠v.ownBlock)/\b<W.heap.size)->w'.heap[b]?=W.heap[b]?:=fun b hb=>hk b hb.2 (fun e=>hb.1.2 e.symm);have h3:∀b,((B<=b/\some b≠v.ownBlock)/\b<W.heap.size)->B<=b/\some b≠v'.ownBlock:=fun b hb=>by
   refine⟨hb.1.1,?_⟩;rcases hor with e|e
   ·rw[e];exact hb.1.2
   ·rw[e];intro e;injection e;omega
  refine⟨h1.lift w' fun b hb _=>h2 b hb,fun w'' hw=>h1.lift w'' fun b hb hlt=>?_⟩;exact(hw b (h3 b hb) (Nat.lt_of_lt_of_le hlt hs)).trans (h2 b hb)
 refine⟨v',w',hrun,⟨?_,fun p hp=>?_⟩,hb,hk,hs,key⟩
 ·have:zoQ (ps++qs)=zoQ ps++zoQ qs:=by simp[zoQ]
  rw[this];exact ho
 ·rcases List.mem_append.1 hp with hp|hp
  ·exact key _ (h.num p hp)
  ·exact key _ (hq p hp)
theorem TokO.set_ {w:World} {B:Nat} {v:Value} {ps:List (Tk×RV)} (h:TokO w B v ps) {a:Addr} (ha:a.block<B) (u:Value):TokO (w.setCell a u) B v ps:=
 ⟨h.own.keep fun b _ hb=>Below.heap_setCell w a u b (fun e=>by have:=(h.own.lt b hb).1;omega),fun p hp=>(h.num p hp).set (a:=a) (fun hF=>by have:=hF.1;omega) u⟩
theorem TokO.mono {w:World} {B C:Nat} {v:Value} {ps:List (Tk×RV)} (h:TokO w B v ps) (hB:C<=B):TokO w C v ps:=by
 refine⟨⟨h.own.1,h.own.2.1,?_⟩,fun p hp=>(h.num p hp).mono fun b hb=>⟨Nat.le_trans hB hb.1,hb.2⟩⟩;rcases h.own.2.2 with h2|⟨g,cap,cur,hv,hg,r⟩
 ·exact .inl h2
 ·exact .inr ⟨g,cap,cur,hv,Nat.le_trans hB hg,r⟩
theorem TokO.app {W:World} {B:Nat} {v:Value} {ps:List (Tk×RV)} (h:TokO W B v ps) (k:Tk) (r:RV) (hr:Rests W (fun b=>B<=b/\some b≠v.ownBlock) (RatN r k.x)) (hl:ps.length+1<=1000000) (hB:B<=W.heap.size):
 ∃v' w',(Builtin.append_ #[110,110] 110 #[v,.slice (some ⟨W.heap.size,0,none⟩) 1 1]).run Tryz.prog (W.alloc (.cells (zq6 k r) 118))=.ok v' w'/\TokO w' B v' (ps++[(k,r)])/\Below B W w'/\
  (∀k,k<W.heap.size->v.ownBlock≠some k->w'.heap[k]?=W.heap[k]?)/\W.heap.size<=w'.heap.size/\(∀φ:World->Prop,Rests W (fun b=>B<=b/\some b≠v.ownBlock) φ->Rests w' (fun b=>B<=b/\some b≠v'.ownBlock) φ):=by
 have hn:=Blk.new W 118 (zq6 k r)
 obtain⟨v',w',hrun,ho,hb,hk,hs,hφ⟩:=(h.alloc (.cells (zq6 k r) 118)).apps (qs:=[(k,r)]) (b:=W.heap.size) (o:=0) (c:=1)
  ⟨Sl.some_ _ _ _,fun i hi=>by
   have:i=0:=by simpa[zoQ] using hi
   subst this;rfl,fun i hi j hj=>by
   have:i=0:=by simpa[zoQ] using hi
   subst this;rw[za6,Nat.zero_mul,Nat.zero_add,Nat.zero_add];exact hn.cell j⟩ (fun q hq=>by
   have:q=(k,r):=by simpa using hq
   subst this;exact hr.alloc _) hl (by simp;omega)
 refine⟨v',w',hrun,ho,((Below.refl B W).alloc hB _).trans hb,fun k hk' hne=>?_,?_,fun φ hp=>hφ φ (hp.alloc _)⟩
 ·rw[hk k (by simp;omega) hne,Below.heap_alloc _ _ _ hk']
 ·simp at hs;omega

structure TokR (w:World) (A:Option Addr) (ps:List (Tk×RV)):Prop where
 el:El w 7 A (zoQ ps)
 num:∀p∈ps,RatN p.2 p.1.x w
theorem TokO.read {w:World} {B:Nat} {v:Value} {ps:List (Tk×RV)} (h:TokO w B v ps):∃A c,v=.slice A ps.length c/\ps.length<=c/\TokR w A ps:=by
 obtain⟨A,c,hv,hc,_,he,_⟩:=h.own.form;have e1:(zoQ ps).length=ps.length:=by simp[zoQ]
 rw[e1]at hv hc;exact⟨A,c,hv,hc,he,fun p hp=>(h.num p hp).now⟩
theorem TokR.rests {w:World} {B:Nat} {v:Value} {ps:List (Tk×RV)} {A:Option Addr} {c:Nat} (h:TokO w B v ps) (hv:v=.slice A ps.length c) (hr:TokR w A ps):Rests w (B<=·) (fun W=>TokR W A ps):=by
 refine⟨hr,fun w' hw=>⟨⟨hr.el.sl,hr.el.size,fun i hi j hj=>?_⟩,fun p hp=>(h.num p hp).lift w' fun b hb hl=>hw b hb.1 hl⟩⟩;have hlt:=hr.el.lt i hi j hj;obtain⟨b,o,rfl⟩:=hr.el.sl (by omega);have hB:=(h.own.lt b (by rw[hv];rfl)).1;rw[World.cell?_of_block (hw _ hB hlt)];exact hr.el.cell i hi j hj
theorem TokR.below {w w':World} {A:Option Addr} {ps:List (Tk×RV)} (h:TokR w A ps) (hb:Below w.heap.size w w'):TokR w' A ps:=⟨h.el.below hb,fun p hp=>(h.num p hp).below hb⟩
theorem TokR.drew {w:World} {A:Option Addr} {ps:List (Tk×RV)} (h:TokR w A ps):TokR w.drew A ps:=⟨h.el.drew,fun p hp=>(h.num p hp).drew⟩
theorem TokR.alloc {w:World} {A:Option Addr} {ps:List (Tk×RV)} (h:TokR w A ps) (o:Obj):TokR (w.alloc o) A ps:=⟨h.el.alloc o,fun p hp=>((h.num p hp).old.alloc o).now⟩
theorem TokR.sl {w:World} {A:Option Addr} {ps:List (Tk×RV)} (h:TokR w A ps):Sl A ps.length:=by have:=h.el.sl;rwa [show(zoQ ps).length=ps.length from by simp[zoQ]]at this
theorem TokR.cells {w:World} {A:Option Addr} {ps:List (Tk×RV)} (h:TokR w A ps) (i:Nat) (hi:i<ps.length):
 w.cell? (adr A (i*7))=some (.int .u8 ((ps[i]).1.kind:Nat))/\w.cell? (adr A (i*7+1))=some (.string ⟨(ps[i]).1.s.toArray⟩)/\w.cell? (adr A (i*7+2))=some (.bool (ps[i]).2.num.neg)/\w.cell? (adr A (i*7+3))=some (.slice (ps[i]).2.num.A (ps[i]).2.num.k (ps[i]).2.num.c)/\
 w.cell? (adr A (i*7+4))=some (.bool (ps[i]).2.den.neg)/\w.cell? (adr A (i*7+5))=some (.slice (ps[i]).2.den.A (ps[i]).2.den.k (ps[i]).2.den.c)/\w.cell? (adr A (i*7+6))=some (.int .i64 ((ps[i]).1.line:Nat)):=by
 have hi':i<(zoQ ps).length:=by simpa[zoQ] using hi
 have e:(zoQ ps)[i]=zq6 (ps[i]).1 (ps[i]).2:=by simp[zoQ]
 have hc:=h.el.cell i hi';rw[e]at hc;exact⟨hc 0 (by decide),hc 1 (by decide),hc 2 (by decide),hc 3 (by decide),hc 4 (by decide),hc 5 (by decide),hc 6 (by decide)⟩

theorem zpE {P:List UInt8->Nat×Rat} {f:Nat} {l l':List UInt8} {n n':Nat} (h:skipG false l n=skipG false l' n'):toks P f l n=toks P f l' n':=by
 cases f with
 |zero=>rfl
 |succ f=>simp only[toks,h]
theorem zpD (r:Bool) (l:List UInt8) (n:Nat):skipG false (skipG r l n).1 (skipG r l n).2=skipG r l n:=by
 induction l generalizing r n with
 |nil=>rfl
 |cons b t ih=>
  by_cases h1:b=10
  ·have:skipG r (b::t) n=skipG false t (n+1):=by simp[skipG,h1]
   rw[this];exact ih _ _
  ·by_cases h2:(r||zl3 b||b==35)=true
   ·have:skipG r (b::t) n=skipG (r||b==35) t n:=by conv=>lhs;unfold skipG
                                                   rw[if_neg h1,if_pos h2]
    rw[this];exact ih _ _
   ·have:skipG r (b::t) n=(b::t,n):=by conv=>lhs;unfold skipG
                                       rw[if_neg h1,if_neg h2]
    rw[this];have h3:¬(false||zl3 b||b==35)=true:=by cases r<;>simp_all
    show skipG false (b::t) n=_
    conv=>lhs;unfold skipG
    rw[if_neg h1,if_neg h3]
structure TtI (s:ByteArray) (T:Nat×Nat×List Tk) (k m:Nat) (ps:List (Tk×RV)):Prop where
 at_:skipG false (s.data.toList.drop k) m=(s.data.toList.drop k,m)
 le:k<=s.size
 ln:m<=1+k
 ct:ps.length<=k
 eq:T=glue (ps.map Prod.fst) (toks parseR (s.size+1-k) (s.data.toList.drop k) m)
theorem ztd (s:ByteArray) (p n:Nat) (hp:p<=s.size):skipG false (s.data.toList.drop p) n=(s.data.toList.drop (zpJ s p n),zsm s p n):=by
 rw[zsA s p n hp];rfl
theorem zrL (s:ByteArray) (p n:Nat) (hp:p<=s.size):p<=zpJ s p n:=by
 unfold zpJ;have:=zqP false (s.data.toList.drop p) n;have h2:(s.data.toList.drop p).length=s.size-p:=by simp
 omega
theorem zr7 (s:ByteArray) (p n:Nat) (hp:p<=s.size):zsm s p n+p<=n+zpJ s p n:=by
 have h1:=zu9 false (s.data.toList.drop p) n;have h4:=ztd s p n hp;rw[h4]at h1;simp only at h1;obtain⟨t,ht⟩:=zrS false (s.data.toList.drop p) n;rw[h4]at ht;simp only at ht;have h5:=congrArg (List.count (10:UInt8)) ht;rw[List.count_append]at h5;have h6:=List.count_le_length (a:=(10:UInt8)) (l:=t);have h7:=congrArg List.length ht;have h8:=zrL s p n hp;have h9:=zqK s p n;simp at h7;omega
theorem TtI.start (s:ByteArray):TtI s (toks parseR (s.size+1) s.data.toList 1) (zpJ s 0 1) (zsm s 0 1) []:=by
 have h:=ztd s 0 1 (Nat.zero_le _);have h2:=zr7 s 0 1 (Nat.zero_le _);have h3:=zqK s 0 1;have hi:=zpD false (s.data.toList.drop 0) 1;rw[h]at hi;refine⟨hi,h3,by omega,Nat.zero_le _,?_⟩;have e:toks parseR (s.size+1-zpJ s 0 1) (s.data.toList.drop (zpJ s 0 1)) (zsm s 0 1)=toks parseR (s.size+1) s.data.toList 1:=by
  rw[zpQ _ (s.size+1) _ _ (by simp;omega) (by simp;omega)];refine zpE ?_;rw[hi,<-h,List.drop_zero]
 rw[e];generalize hT:toks parseR (s.size+1) s.data.toList 1=T;unfold glue
 split
 ·rename_i h0
  have hz:=zr6 (P:=parseR) (s.size+1) s.data.toList 1 (by rw[hT];exact h0);rw[hT]at hz;obtain⟨a,b,c⟩:=T;simp at h0 hz;simp[h0,hz]
 ·rfl
theorem TtI.done {s:ByteArray} {T:Nat×Nat×List Tk} {k m:Nat} {ps:List (Tk×RV)} (h:TtI s T k m ps) (hk:¬k<s.size):T=(0,0,ps.map Prod.fst++[⟨1,[],0,m⟩]):=by
 have:=h.le;rw[h.eq,List.drop_eq_nil_of_le (by simp;omega),show s.size+1-k=1 from by omega];rfl
theorem TtI.tok {s:ByteArray} {T:Nat×Nat×List Tk} {k m:Nat} {ps:List (Tk×RV)} (h:TtI s T k m ps) (hk:k<s.size):
 T=glue (ps.map Prod.fst) (if(zp0 s k hk).1=0 then zn1 (upT m (zp0 s k hk).2.1) (toks parseR (s.size-k) (zp0 s k hk).2.2 m) else((zp0 s k hk).1,m,[])):=by
 have ha:=h.at_;rw[h.eq,show s.size+1-k=(s.size-k)+1 from by omega]
 conv=>lhs;arg 2;unfold toks
 rw[ha,zpC hk];have e:=zt2 (P:=parseR) s[k] (s.data.toList.drop (k+1)) 0 m;rw[Nat.zero_add]at e;simp only[e];rfl
theorem TtI.fault {s:ByteArray} {T:Nat×Nat×List Tk} {k m:Nat} {ps:List (Tk×RV)} (h:TtI s T k m ps) (hk:k<s.size) (he:(zp0 s k hk).1≠0):T=((zp0 s k hk).1,m,[]):=by
 rw[h.tok hk,if_neg he];unfold glue;rw[if_neg he]
theorem TtI.next {s:ByteArray} {T:Nat×Nat×List Tk} {k m en:Nat} {ps:List (Tk×RV)} {r:RV} (h:TtI s T k m ps) (hk:k<s.size) (he:(zp0 s k hk).1=0) (hd:s.data.toList.drop en=(zp0 s k hk).2.2) (hgt:k<en) (hle:en<=s.size):
 TtI s T (zpJ s en m) (zsm s en m) (ps++[(upT m (zp0 s k hk).2.1,r)]):=by
 have h1:=ztd s en m hle;have h2:=zr7 s en m hle;have h3:=zqK s en m;have h4:=zrL s en m hle;have hl:=h.ln;have hc:=h.ct;have hi:=zpD false (s.data.toList.drop en) m;rw[h1]at hi;refine⟨hi,h3,by omega,by simp;omega,?_⟩;rw[h.tok hk,if_pos he,<-hd];have e:toks parseR (s.size+1-zpJ s en m) (s.data.toList.drop (zpJ s en m)) (zsm s en m)=toks parseR (s.size-k) (s.data.toList.drop en) m:=by
  rw[zpQ _ (s.size-k) _ _ (by simp;omega) (by simp;omega)];refine zpE ?_;rw[hi,<-h1]
 rw[e];generalize toks parseR (s.size-k) (s.data.toList.drop en) m=R;unfold glue zn1;by_cases h0:R.1=0<;>simp[h0]
def zrG (T:Nat×Nat×List Tk) (w:World) (E:Ending) (w':World):Prop:=
 ∃v ps,E=.returned (.tuple #[v,.agg #[.int .i64 (T.1:Nat),.int .i64 (T.2.1:Nat)]])/\ps.map Prod.fst=T.2.2/\TokO w' w.heap.size v ps/\(T.1≠0->v=.slice none 0 0)/\Below w.heap.size w w'
section
variable {w:World} {g:Nat} {a b u0 u1:Value} {t:TypeId}
def set2 (w:World) (g:Nat) (a b:Value):World:=(w.setCell ⟨g,0,none⟩ a).setCell ⟨g,1,none⟩ b
theorem zpv:(w.setCell ⟨g,0,none⟩ a).setCell ⟨g,1,none⟩ b=set2 w g a b:=rfl
theorem zrT (H:Blk w g t #[u0,u1]):Blk (set2 w g a b) g t #[a,b]:=(H.set_ 0 a).set_ 1 b
theorem zpt (H:Blk w g t #[u0,u1]):(set2 w g a b).cell? ⟨g,0,none⟩=some a:=(zrT H).cell 0
theorem zpw (H:Blk w g t #[u0,u1]):(set2 w g a b).cell? ⟨g,1,none⟩=some b:=(zrT H).cell 1
theorem zoV {B:Nat} {w0:World} (H:Below B w0 w) (hg:B<=g):Below B w0 (set2 w g a b):=(H.setCell (p:=⟨g,0,none⟩) hg a).setCell (p:=⟨g,1,none⟩) hg b
end
structure Tt (w W:World) (v:Value) (ps:List (Tk×RV)):Prop where
 tok:TokO W (w.heap.size+1) v ps
 box:Blk W w.heap.size 73 #[.int .i64 0,.int .i64 0]
 below:Below w.heap.size w W
theorem Tt.start (w:World):Tt w (w.alloc (.cells #[.int .i64 0,.int .i64 0] 73)) (.slice none 0 0) []:=
 ⟨TokO.nil_ _ _,Blk.new _ _ _,Below.of_alloc _ _⟩
theorem Tt.after {w W W':World} {v:Value} {ps:List (Tk×RV)} (h:Tt w W v ps) (hb:Below W.heap.size W W'):Tt w W' v ps:=
 ⟨h.tok.below hb,h.box.below hb h.box.lt,Below.after h.below hb⟩
theorem Tt.drew {w W:World} {v:Value} {ps:List (Tk×RV)} (h:Tt w W v ps):Tt w W.drew v ps:=⟨h.tok.drew,h.box,h.below.drew⟩
theorem zsP (s:ByteArray) (k:Nat) (h:k<s.size):(zp0 s k h).2.1.line=0:=by
 unfold zp0 tok1
 split
 ·rfl
 ·split
  ·rfl
  ·split<;>rfl
theorem zvA {tk:Tk} (h:tk.line=0) (m:Nat):upT m tk=⟨tk.kind,tk.s,tk.x,m⟩:=by
 unfold upT;rw[h,Nat.zero_add]
theorem Tt.app {w W:World} {v:Value} {ps:List (Tk×RV)} (h:Tt w W v ps) (k:Tk) (r:RV) (hr:Rests W (fun b=>w.heap.size+1<=b/\some b≠v.ownBlock) (RatN r k.x)) (hl:ps.length+1<=1000000):
 ∃v' w',(Builtin.append_ #[110,110] 110 #[v,.slice (some ⟨W.heap.size,0,none⟩) 1 1]).run Tryz.prog (W.alloc (.cells (zq6 k r) 118))=.ok v' w'/\Tt w w' v' (ps++[(k,r)]):=by
 have hlt:=h.box.lt;obtain⟨v',w',hrun,ho,hb,-,-,-⟩:=h.tok.app k r hr hl (by omega);exact⟨v',w',hrun,ho,h.box.below hb (Nat.lt_succ_self _),h.below.trans (hb.mono (by omega))⟩

end Go.Proofs.YtegfiemlnnpidaaGreatDoor
