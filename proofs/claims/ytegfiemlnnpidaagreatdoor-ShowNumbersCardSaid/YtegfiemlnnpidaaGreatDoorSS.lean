/-
 Lists of things of many cells: read ones (LsR); lists of the call's own that grow while other facts of memory stay (GL). Lists of the call's own, written into. Vectors in memory: terms, fractions; indexing slices of them. Sorting a list that rises already.
-/
import Derived.Test.YtegfiemlnnpidaaGreatDoorTT
import Derived.Test.YtegfiemlnnpidaaGreatDoorEM
namespace Go.Proofs.YtegfiemlnnpidaaGreatDoor
open Go.RowKit

theorem El.old {w:World} {sz:Nat} {A:Option Addr} {cs:List (Array Value)} (h:El w sz A cs):Rests w (·<w.heap.size) (fun V=>El V sz A cs):=
 ⟨h,fun _ hw=>h.keep fun _ hp _=>World.cell?_of_block (hw _ hp hp)⟩
theorem Rests.all {α:Type} {w:World} {F:Nat->Prop} {φ:α->World->Prop} {l:List α} (h:∀p∈l,Rests w F (φ p)):Rests w F (fun V=>∀p∈l,φ p V):=
 ⟨fun p hp=>(h p hp).now,fun w' hw p hp=>(h p hp).lift w' hw⟩
structure LsR {α:Type} (sz:Nat) (cells:α->Array Value) (ok:α->World->Prop) (A:Option Addr) (l:List α) (W:World):Prop where
 el:El W sz A (l.map cells)
 ok:∀p∈l,ok p W
section
variable {α:Type} {sz:Nat} {cells:α->Array Value} {ok:α->World->Prop} {A:Option Addr} {l:List α} {w W:World}
theorem LsR.sl (h:LsR sz cells ok A l w):Sl A l.length:=by have:=h.el.sl;rwa [List.length_map]at this
theorem LsR.nil_ (A:Option Addr):LsR sz cells ok A [] w:=⟨El.nil_ _ _ _,by simp⟩
theorem LsR.old (hk:∀p W,ok p W->Rests W (·<W.heap.size) (ok p)) (h:LsR sz cells ok A l w):Rests w (·<w.heap.size) (LsR sz cells ok A l):=
 (h.el.old.and (Rests.all (φ:=ok) fun p hp=>hk p w (h.ok p hp))).imp fun _ h=>⟨h.1,h.2⟩
theorem LsR.imp {ok':α->World->Prop} (h:LsR sz cells ok A l w) (hi:∀p∈l,ok p w->ok' p w):LsR sz cells ok' A l w:=⟨h.el,fun p hp=>hi p hp (h.ok p hp)⟩
theorem LsR.cell (h:LsR sz cells ok A l w) (i:Nat) (hi:i<l.length) (j:Nat) (hj:j<sz):w.cell? (adr A (i*sz+j))=(cells l[i])[j]?:=by
 have hi':i<(l.map cells).length:=by simpa using hi
 have hc:=h.el.cell i hi' j hj
 rwa [List.getElem_map]at hc
theorem LsR.take (h:LsR sz cells ok A l w) (n:Nat):LsR sz cells ok A (l.take n) w:=
 ⟨by have:=h.el.take n;rwa [<-List.map_take]at this,fun p hp=>h.ok p (List.mem_of_mem_take hp)⟩
end
structure Ow where
 e:TypeId
 sz:Nat
 v:Value
 cs:List (Array Value)
structure GL (w:World) (ls:List Ow) (old new:World->Prop) (W:World):Prop where
 own:∀o∈ls,OwnE W w.heap.size o.e o.sz o.v o.cs
 nd:ls.Pairwise fun a b=>∀k,a.v.ownBlock=some k->b.v.ownBlock≠some k
 rso:Rests W (fun n=>∀o∈ls,o.v.ownBlock≠some n) old
 rsn:Rests W (fun n=>w.heap.size<=n/\∀o∈ls,o.v.ownBlock≠some n) new
 bel:Below w.heap.size w W
section
variable {w W W':World} {ls:List Ow} {bs:List Bo} {old new old' new' φ ψ:World->Prop}
theorem GL.o (h:GL w ls old new W):old W:=h.rso.now
theorem GL.n (h:GL w ls old new W):new W:=h.rsn.now
theorem GL.start (h:Env w bs old new W):GL w [] (fun V=>(∀b∈bs,Blk V b.g b.t b.cs)/\old V) new W:=by
 refine⟨by simp,.nil,?_,h.rsn.mono fun _ hn=>⟨hn.1,by simp⟩,h.bel⟩;refine Rests.and ?_ (h.rso.mono fun _ _=>by simp);exact Rests.all (φ:=fun(b:Bo) V=>Blk V b.g b.t b.cs) fun b hb=>⟨h.bx b hb,fun w' hw=>(hw b.g (by simp) (h.bx b hb).lt).trans (h.bx b hb)⟩
theorem GL.imp (h:GL w ls old new W) (ho:∀V,old V->φ V) (hn:∀V,new V->ψ V):GL w ls φ ψ W:=⟨h.own,h.nd,h.rso.imp ho,h.rsn.imp hn,h.bel⟩
theorem GL.new_ (h:GL w ls old new W) (e:TypeId) (sz:Nat):GL w (⟨e,sz,.slice none 0 0,[]⟩::ls) old new W:=by
 refine⟨fun o ho=>?_,.cons (fun b _ k hk=>?_) h.nd,h.rso.mono fun n hn o ho=>?_,h.rsn.mono fun n hn=>⟨hn.1,fun o ho=>?_⟩,h.bel⟩
 ·rcases List.mem_cons.1 ho with rfl|ho
  ·exact OwnE.nil_ _ _ _ _
  ·exact h.own o ho
 ·cases hk
 ·rcases List.mem_cons.1 ho with rfl|ho
  ·intro e;cases e
  ·exact hn o ho
 ·rcases List.mem_cons.1 ho with rfl|ho
  ·intro e;cases e
  ·exact hn.2 o ho
theorem GL.perm {ls':List Ow} (h:GL w ls old new W) (p:ls'.Perm ls):GL w ls' old new W:=
 ⟨fun o ho=>h.own o (p.mem_iff.1 ho),(p.pairwise_iff fun hab k hk e=>hab k e hk).2 h.nd,h.rso.mono fun _n hn o ho=>hn o (p.mem_iff.1 ho),h.rsn.mono fun _n hn=>⟨hn.1,fun o ho=>hn.2 o (p.mem_iff.1 ho)⟩,h.bel⟩
theorem GL.env (h:GL w ls old new W):Env W [] (fun V=>old V/\new V) (fun _=>True) W:=
 Env.start ((h.rso.lt.mono fun _ hn=>hn.2).and (h.rsn.lt.mono fun _ hn=>hn.2))
theorem GL.go {o':Ow} {o:Ow} {X:World} (h:GL w (o::ls) old new W) (he:Rests X (fun n=>W.heap.size<=n) ψ) (hX:Below W.heap.size W X) (ho:OwnE W' w.heap.size o'.e o'.sz o'.v o'.cs) (hb:Below w.heap.size X W')
 (hk:∀k,k<X.heap.size->o.v.ownBlock≠some k->W'.heap[k]?=X.heap[k]?) (hs:X.heap.size<=W'.heap.size) (hor:o'.v.ownBlock=o.v.ownBlock\/∃k,o'.v.ownBlock=some k/\X.heap.size<=k):
 GL w (o'::ls) old (fun V=>ψ V/\new V) W':=by
 have hx:=hX.size;have hlt:∀q∈(o::ls),∀k,q.v.ownBlock=some k->k<W.heap.size:=fun q hq k e=>((h.own q hq).lt k e).2;have hnd:=List.pairwise_cons.1 h.nd;have hF:∀n,(∀q∈(o::ls),q.v.ownBlock≠some n)->n<X.heap.size->∀q∈(o'::ls),q.v.ownBlock≠some n:=fun n hn hlx q hq=>by
  rcases List.mem_cons.1 hq with rfl|hq
  ·rcases hor with e|⟨k,e,hk'⟩
   ·rw[e];exact hn o (List.mem_cons_self ..)
   ·rw[e];intro e';injection e' with e';omega
  ·exact hn q (List.mem_cons_of_mem _ hq)
 have hN:∀n,W.heap.size<=n->∀q∈(o::ls),q.v.ownBlock≠some n:=fun n hn q hq e=>by have:=hlt q hq n e;omega
 have hold:∀n,n<W.heap.size->(∀q∈(o::ls),q.v.ownBlock≠some n)->W'.heap[n]?=W.heap[n]?:=fun n hn hq=>(hk n (by omega) (hq o (List.mem_cons_self ..))).trans (hX.block n hn);have tr:∀{F:Nat->Prop} {χ:World->Prop},Rests W (fun n=>F n/\∀q∈(o::ls),q.v.ownBlock≠some n) χ->Rests W' (fun n=>F n/\∀q∈(o'::ls),q.v.ownBlock≠some n) χ:=fun{F χ} hr=>by
  refine⟨hr.lift _ fun n hn hlw=>hold n hlw hn.2,fun w' hw=>hr.lift _ fun n hn hlw=>?_⟩;exact(hw n ⟨hn.1,hF n hn.2 (by omega)⟩ (by omega)).trans (hold n hlw hn.2)
 refine⟨fun q hq=>?_,.cons (fun q hq k e=>?_) hnd.2,?_,?_,?_⟩
 ·rcases List.mem_cons.1 hq with rfl|hq
  ·exact ho
  ·refine((h.own q (List.mem_cons_of_mem _ hq)).below hX).keep fun b hbx e=>hk b hbx fun e'=>?_;exact hnd.1 q hq b e' e
 ·rcases hor with e'|⟨k',e',hk'⟩
  ·exact hnd.1 q hq k (e'▸e)
  ·intro e2;have h1:=hlt q (List.mem_cons_of_mem _ hq) k e2;rw[e']at e;injection e with e;omega
 ·exact(tr (F:=fun _=>True) (h.rso.mono fun n hn=>⟨trivial,hn⟩)).mono fun n hn=>hn.2
 ·refine Rests.and ?_ (tr h.rsn);have hlx:=he.lt;refine⟨hlx.lift _ fun n hn hlw=>hk n hlw (hN n hn.1 o (List.mem_cons_self ..)),fun w' hw=>hlx.lift _ fun n hn hlw=>?_⟩;have hwx:w.heap.size<=n:=Nat.le_trans h.bel.size hn.1;exact(hw n ⟨hwx,hF n (hN n hn.1) hn.2⟩ (by omega)).trans (hk n hlw (hN n hn.1 o (List.mem_cons_self ..)))
 ·exact(Below.after h.bel hX).trans hb
theorem GL.keep (h:GL w ls old new W) (he:Rests W' (W.heap.size<=·) ψ) (hb:Below W.heap.size W W'):GL w ls old (fun V=>ψ V/\new V) W':=by
 have hlt:∀q∈ls,∀k,q.v.ownBlock=some k->k<W.heap.size:=fun q hq k e=>((h.own q hq).lt k e).2;refine⟨fun q hq=>(h.own q hq).below hb,h.nd,h.rso.below hb,Rests.and (he.mono fun n hn=>⟨Nat.le_trans h.bel.size hn,fun q hq e=>?_⟩) (h.rsn.below hb),Below.after h.bel hb⟩;have:=hlt q hq n e;have:W.heap.size<=n:=hn;omega
theorem Env.fresh {W0:World} (h:Env W0 bs old new W):Rests W (W0.heap.size<=·) new:=h.rsn.mono fun _ hn=>hn.1
theorem GL.app {P:Program} {t e:TypeId} {sz bytes:Nat} {z v:Value} {cs:List (Array Value)} (ht:P.underlying t=some (.slice e)) (hinfo:(P.info? e).map (fun i=>(i.zero,i.size,i.bytes))=some (some z,sz,bytes)) (hz:z.cells.size=sz) (hsz:0<sz)
 (h:GL w (⟨e,sz,v,cs⟩::ls) old new W) (he:Env W bs old' new' W') (d:Array Value) (hd:d.size=sz) (h1:∀u∈d.toList,u.oneCell'=true) (hlen:(cs.length+1)*bytes<=140737488355328) (hl:cs.length+1<=maxLen):
 ∃v' w',(Builtin.append_ #[t,t] t #[v,.slice (some ⟨W'.heap.size,0,none⟩) 1 1]).run P (W'.alloc (.cells d e))=.ok v' w'/\GL w (⟨e,sz,v',cs++[d]⟩::ls) old (fun V=>new' V/\new V) w':=by
 have hX:Below W.heap.size W (W'.alloc (.cells d e)):=he.bel.alloc he.bel.size _;have hwW:=h.bel.size;have hWW:=he.bel.size;have hown:=(h.own _ (List.mem_cons_self ..)).below hX;have hn:=Blk.new W' e d;have hel:El (W'.alloc (.cells d e)) sz (some ⟨W'.heap.size,0,none⟩) [d]:=by
  refine⟨Sl.some_ _ _ _,fun i hi=>?_,fun i hi j hj=>?_⟩
  ·have:i=0:=by simpa using hi
   subst this;exact hd
  ·have:i=0:=by simpa using hi
   subst this;rw[za6,Nat.zero_mul,Nat.zero_add,Nat.zero_add];exact hn.cell j
 obtain⟨v',w',hrun,ho,hb,hk,hs,hor⟩:=OwnE.apps ht hinfo hz hsz hown (c:=1) hel (fun d' hd' u hu=>by
  rw[List.mem_singleton.1 hd']at hu;exact h1 u hu) hlen hl (by simp;omega)
 refine⟨v',w',hrun,GL.go (o':=⟨e,sz,v',cs++[d]⟩) h (he.fresh.alloc _) hX ho hb hk hs ?_⟩;rcases hor with e|e
 ·exact .inl e
 ·exact .inr ⟨_,e,Nat.le_refl _⟩
theorem GL.tell {α:Type} {e:TypeId} {sz:Nat} {v:Value} {cells:α->Array Value} {ok:α->World->Prop} {l:List α} {ls:List Ow} (h:GL w (⟨e,sz,v,l.map cells⟩::ls) old new W) (hok:∀V,new V->∀p∈l,ok p V):
 ∃A c,v=.slice A l.length c/\l.length<=c/\Rests W (w.heap.size<=·) (LsR sz cells ok A l):=by
 have ho:=h.own _ (List.mem_cons_self ..);obtain⟨A,c,hv,hc,-,hel,hB⟩:=ho.form;rw[List.length_map]at hv hc;refine⟨A,c,hv,hc,(Rests.and (φ:=fun V=>El V sz A (l.map cells)) ?_ (h.rsn.mono fun n hn=>hn.1)).imp fun V hV=>⟨hV.1,hok V hV.2⟩⟩;rcases Nat.eq_zero_or_pos l.length with h0|h0
 ·have:l=[]:=List.eq_nil_of_length_eq_zero h0;subst this;exact⟨El.nil_ _ _ _,fun _ _=>El.nil_ _ _ _⟩
 ·obtain⟨b,o,rfl⟩:=hel.sl (by simpa using h0);have hb:=hB b (by rw[show v=_ from hv];rfl);exact⟨hel,fun w' hw=>hel.keep fun p hp hp0=>World.cell?_of_block (hw _ (by rw[hp0];exact hb) hp)⟩
end

theorem zfg {sz:Nat} {cs:List (Array Value)} (h:∀c∈cs,c.size=sz) (i j:Nat) (hi:i<cs.length) (hj:j<sz) (u:Value):zb1 (cs.set i ((cs[i]).setIfInBounds j u))=(zb1 cs).set (i*sz+j) u:=by
 have h':∀c∈cs.set i ((cs[i]).setIfInBounds j u),c.size=sz:=fun c hc=>by
  rcases List.mem_or_eq_of_mem_set hc with hc|rfl
  ·exact h c hc
  ·simpa using h _ (List.getElem_mem hi)
 have l1:=zbg h;have l2:=zbg h';rw[List.length_set]at l2;apply List.ext_getElem?;intro k;by_cases hk:k<cs.length*sz
 ·have hsz:0<sz:=by omega
  obtain⟨a,b,rfl,hb⟩:∃a b,k=a*sz+b/\b<sz:=⟨k/sz,k%sz,by rw[Nat.mul_comm,Nat.div_add_mod],Nat.mod_lt _ hsz⟩;have ha:a<cs.length:=by
   rcases Nat.lt_or_ge a cs.length with h|h
   ·exact h
   ·have:=Nat.mul_le_mul_right sz h;omega
  rw[zbJ h' a b (by simpa using ha) hb];by_cases e:a=i
  ·subst e;by_cases e2:b=j
   ·subst e2;have h0:b<(cs[a]).size:=by rw[h _ (List.getElem_mem ha)];exact hb
    rw[List.getElem?_set_self (by rw[l1];exact hk)];simp[h0]
   ·rw[List.getElem?_set_ne (by omega),zbJ h a b ha hb];simp[Ne.symm e2]
  ·have hne:i*sz+j≠a*sz+b:=by
    intro e3;rcases Nat.lt_or_gt_of_ne e with h1|h1
    ·have:=Nat.mul_le_mul_right sz (show a+1<=i from h1);rw[Nat.add_mul]at this;omega
    ·have:=Nat.mul_le_mul_right sz (show i+1<=a from h1);rw[Nat.add_mul]at this;omega
   rw[List.getElem?_set_ne hne,zbJ h a b ha hb,List.getElem_set_ne (Ne.symm e)]
 ·rw[List.getElem?_eq_none (by omega),List.getElem?_eq_none (by simp;omega)]
theorem OwnE.set1 {w:World} {B:Nat} {e:TypeId} {sz g n cap:Nat} {cs:List (Array Value)} (h:OwnE w B e sz (.slice (some ⟨g,0,none⟩) n cap) cs) (i j:Nat) (hi:i<cs.length) (hj:j<sz) (u:Value):
 OwnE (w.setCell ⟨g,i*sz+j,none⟩ u) B e sz (.slice (some ⟨g,0,none⟩) n cap) (cs.set i ((cs[i]).setIfInBounds j u)):=by
 obtain⟨hs,hl,ho⟩:=h;refine⟨fun c hc=>?_,?_,?_⟩
 ·rcases List.mem_or_eq_of_mem_set hc with hc|rfl
  ·exact hs c hc
  ·simpa using hs _ (List.getElem_mem hi)
 ·rw[zfg hs i j hi hj,List.length_set,List.length_set];exact hl
 ·rcases ho with⟨h1,-⟩|⟨g',cap',cur,hv,hg,hh,hn,hm,hsz,ht⟩
  ·cases h1
  ·obtain⟨rfl,rfl,rfl⟩:g=g'/\n=cs.length/\cap=cap':=by simpa using hv
   refine .inr ⟨g,cap,cur.setIfInBounds (i*sz+j) u,by rw[List.length_set],hg,?_,by rw[List.length_set];exact hn,hm,by simpa using hsz,?_⟩
   ·exact Blk.set_ (show Blk w g e cur from hh) (i*sz+j) u
   ·rw[zfg hs i j hi hj,<-ht,List.length_set,Array.toList_setIfInBounds,List.take_set]
theorem OwnE.free {w:World} {B:Nat} {e:TypeId} {sz g n cap:Nat} {A:Option Addr} (hA:A=some ⟨g,0,none⟩) {cs:List (Array Value)} (h:OwnE w B e sz (.slice A n cap) cs) (k:Nat):w.frozen? (adr A k)=false:=by
 subst hA;obtain⟨-,-,h1|⟨g',cap',cur,hv,hg,hh,-⟩⟩:=h
 ·cases h1.1
 ·obtain⟨rfl,-,-⟩:g=g'/\n=cs.length/\cap=cap':=by simpa using hv
  rw[za6];exact(Blk.cb (show Blk w g e cur from hh)).2 _
theorem OwnE.el {w:World} {B:Nat} {e:TypeId} {sz n cap:Nat} {A:Option Addr} {cs:List (Array Value)} (h:OwnE w B e sz (.slice A n cap) cs):El w sz A cs/\n=cs.length:=by
 obtain⟨A',c',hv,-,-,hel,-⟩:=h.form;obtain⟨rfl,rfl,rfl⟩:A=A'/\n=cs.length/\cap=c':=by simpa using hv
 exact⟨hel,rfl⟩
theorem OwnE.made (W:World) {B:Nat} (hB:B<=W.heap.size) (e:TypeId) (sz:Nat):OwnE (W.alloc (.cells #[] e)) B e sz (.slice (some ⟨W.heap.size,0,none⟩) 0 0) []:=
 ⟨by simp,by simp[zb1],.inr ⟨W.heap.size,0,#[],rfl,hB,heap_alloc_new W _,Nat.le_refl _,by simp[maxLen],by simp,by simp[zb1]⟩⟩
theorem OwnE.reads {W:World} {B:Nat} {e:TypeId} {sz:Nat} {v:Value} {cs:List (Array Value)} (h:OwnE W B e sz v cs):∃A c,v=.slice A cs.length c/\cs.length<=c/\Rests W (B<=·) (fun V=>El V sz A cs):=by
 obtain⟨A,c,hv,hc,-,hel,hB⟩:=h.form;refine⟨A,c,hv,hc,?_⟩;rcases Nat.eq_zero_or_pos cs.length with h0|h0
 ·have:cs=[]:=List.eq_nil_of_length_eq_zero h0;subst this;exact⟨El.nil_ _ _ _,fun _ _=>El.nil_ _ _ _⟩
 ·obtain⟨b,o,rfl⟩:=hel.sl h0;have hb:=hB b (by rw[hv];rfl);exact⟨hel,fun w' hw=>hel.keep fun p hp hp0=>World.cell?_of_block (hw _ (by rw[hp0];exact hb) hp)⟩

section
variable {P:Program}
@[go_sem] theorem run_indexAt_el5 (w:World) (t:TypeId) (A:Option Addr) (len cap:Nat) (k:IntKind) (i:Int) (hs:Sl A len)
 (h:P.underlying t=some (.slice (P.elem t))) (h1:(sizeOf (P.elem t)).run P w=.ok 5 w):
 (Instr.indexAt t (.slice A len cap) (.int k i)).run P w=
  if 0<=i/\i<len then .ok (.pointer (some (adr A (i.toNat*5)))) w else(boundsPanic k i len .index).run P w:=by
 rcases A with _|a
 ·have h0:len=0:=by
   rcases Nat.eq_zero_or_pos len with h|h
   ·exact h
   ·obtain⟨_,_,h⟩:=hs h;cases h
  subst h0;rw[if_neg (by omega)];simp[Instr.indexAt,run_underlying h,asIntOf]
 ·rw[run_indexAt_slice w t a len cap k i h]
  split
  ·rename_i hi
   obtain⟨b,o,e⟩:=hs (by omega)
   cases e
   rw[h1];simp only[Result.andThen_ok,zaf,za6]
  ·rfl
@[go_sem] theorem run_indexAt_el4 (w:World) (t:TypeId) (A:Option Addr) (len cap:Nat) (k:IntKind) (i:Int) (hs:Sl A len)
 (h:P.underlying t=some (.slice (P.elem t))) (h1:(sizeOf (P.elem t)).run P w=.ok 4 w):
 (Instr.indexAt t (.slice A len cap) (.int k i)).run P w=
  if 0<=i/\i<len then .ok (.pointer (some (adr A (i.toNat*4)))) w else(boundsPanic k i len .index).run P w:=by
 rcases A with _|a
 ·have h0:len=0:=by
   rcases Nat.eq_zero_or_pos len with h|h
   ·exact h
   ·obtain⟨_,_,h⟩:=hs h;cases h
  subst h0;rw[if_neg (by omega)];simp[Instr.indexAt,run_underlying h,asIntOf]
 ·rw[run_indexAt_slice w t a len cap k i h]
  split
  ·rename_i hi
   obtain⟨b,o,e⟩:=hs (by omega)
   cases e
   rw[h1];simp only[Result.andThen_ok,zaf,za6]
  ·rfl
end
theorem zbV (w:World):(sizeOf (Tryz.prog.elem 76)).run Tryz.prog w=.ok 5 w:=by kernel_rfl
theorem zai (w:World):(sizeOf (Tryz.prog.elem 77)).run Tryz.prog w=.ok 5 w:=by kernel_rfl
theorem zal (w:World):(sizeOf (Tryz.prog.elem 25)).run Tryz.prog w=.ok 4 w:=by kernel_rfl
theorem zaE:Tryz.prog.underlying 77=some (.slice 80):=by kernel_rfl
theorem zbn:Tryz.prog.underlying 25=some (.slice 55):=by kernel_rfl
def zcq:Value:=.agg #[.int .i64 0,.bool false,.slice none 0 0,.bool false,.slice none 0 0]
def ratZ:Value:=.agg cZ
theorem zbD:(Tryz.prog.info? 80).map (fun i=>(i.zero,i.size,i.bytes))=some (some zcq,5,72):=by kernel_rfl
theorem zc7:(Tryz.prog.info? 55).map (fun i=>(i.zero,i.size,i.bytes))=some (some ratZ,4,64):=by kernel_rfl

structure TeV where
 pl:Int
 r:RV
 q:Rat
def zw7 (t:TeV):Array Value:=#[.int .i64 t.pl,.bool t.r.num.neg,.slice t.r.num.A t.r.num.k t.r.num.c,.bool t.r.den.neg,.slice t.r.den.A t.r.den.k t.r.den.c]
def rtcells (p:RV×Rat):Array Value:=(cR p.1)
@[reducible] def TC (A:Option Addr) (i:Nat) (t:TeV) (W:World):Prop:=
 W.cell? (adr A (i*5))=some (.int .i64 t.pl)/\W.cell? (adr A (i*5+1))=some (.bool t.r.num.neg)/\W.cell? (adr A (i*5+2))=some (.slice t.r.num.A t.r.num.k t.r.num.c)/\W.cell? (adr A (i*5+3))=some (.bool t.r.den.neg)/\W.cell? (adr A (i*5+4))=some (.slice t.r.den.A t.r.den.k t.r.den.c)
@[reducible] def RC (A:Option Addr) (i:Nat) (p:RV×Rat) (W:World):Prop:=
 W.cell? (adr A (i*4))=some (.bool p.1.num.neg)/\W.cell? (adr A (i*4+1))=some (.slice p.1.num.A p.1.num.k p.1.num.c)/\W.cell? (adr A (i*4+2))=some (.bool p.1.den.neg)/\W.cell? (adr A (i*4+3))=some (.slice p.1.den.A p.1.den.k p.1.den.c)
theorem LsR.tc {ok:TeV->World->Prop} {A:Option Addr} {l:List TeV} {w:World} (h:LsR 5 zw7 ok A l w) (i:Nat) (hi:i<l.length):TC A i l[i] w:=by
 have hc:=h.cell i hi;exact⟨hc 0 (by decide),hc 1 (by decide),hc 2 (by decide),hc 3 (by decide),hc 4 (by decide)⟩
theorem LsR.rc {ok:RV×Rat->World->Prop} {A:Option Addr} {l:List (RV×Rat)} {w:World} (h:LsR 4 rtcells ok A l w) (i:Nat) (hi:i<l.length):RC A i l[i] w:=by
 have hc:=h.cell i hi;exact⟨hc 0 (by decide),hc 1 (by decide),hc 2 (by decide),hc 3 (by decide)⟩
def teD (n:Nat) (t:TeV) (W:World):Prop:=RatD t.r t.q n W
def teN (t:TeV) (W:World):Prop:=RatN t.r t.q W
def roD (n:Nat) (p:RV×Rat) (W:World):Prop:=RatD p.1 p.2 n W
def roN (p:RV×Rat) (W:World):Prop:=RatN p.1 p.2 W
theorem zah {n:Nat} (t:TeV) (W:World) (h:teD n t W):Rests W (·<W.heap.size) (teD n t):=RatD.old h
theorem zda (t:TeV) (W:World) (h:teN t W):Rests W (·<W.heap.size) (teN t):=RatN.old h
theorem zbQ {n:Nat} (t:RV×Rat) (W:World) (h:roD n t W):Rests W (·<W.heap.size) (roD n t):=RatD.old h
theorem zdc (t:RV×Rat) (W:World) (h:roN t W):Rests W (·<W.heap.size) (roN t):=RatN.old h
def Rise (l:List TeV):Prop:=l.Pairwise fun a b=>a.pl<b.pl
theorem Rise.at_ {l:List TeV} (h:Rise l) {i j:Nat} (hij:i<j) (hj:j<l.length):(l[i]'(by omega)).pl<l[j].pl:=List.pairwise_iff_getElem.1 h i j (by omega) hj hij
theorem lyT {w:World} {o:World->Prop} (a:TeV) (h:Rests w (·<w.heap.size) o):Env w [⟨w.heap.size,80,#[.int .i64 a.pl,.bool a.r.num.neg,.slice a.r.num.A a.r.num.k a.r.num.c,.bool a.r.den.neg,.slice a.r.den.A a.r.den.k a.r.den.c]⟩] o (fun _=>True) (w.alloc (.cells #[.int .i64 a.pl,.bool a.r.num.neg,.slice a.r.num.A a.r.num.k a.r.num.c,.bool a.r.den.neg,.slice a.r.den.A a.r.den.k a.r.den.c] 80)):=Env.lay1 (Env.start h) rfl
abbrev tA (r:TeV):Value:=.agg #[.int .i64 r.pl,.bool r.r.num.neg,.slice r.r.num.A r.r.num.k r.r.num.c,.bool r.r.den.neg,.slice r.r.den.A r.r.den.k r.r.den.c]

end Go.Proofs.YtegfiemlnnpidaaGreatDoor
