/-
 program.Broken. Lists of the call's own at any place among others, and boxes among them. program.Span. program.slack.
-/
import Derived.Test.YtfdmajmhmligpaaGreatDoorPC
import Derived.Test.YtfdmajmhmligpaaGreatDoorDG
namespace Go.Proofs.YtfdmajmhmligpaaGreatDoor
set_option maxHeartbeats 8000000
open Go.RowKit

theorem zer:Tryz.prog.underlying 29=some (.slice 25):=by kernel_rfl
theorem zgx:(Tryz.prog.info? 25).map (fun i=>(i.zero,i.size,i.bytes))=some (some (.slice none 0 0),1,24):=by kernel_rfl
theorem zbZ {P:Program} {a:Act} {w w':World} {K:Act→World→Prop} {Q:Exit→Act→World→Prop} {o:Oper} (l c:Operand) (t:TypeId) (hop:o.op=Op.makeSlice t l c) {vl vc v:Value} (hl:a.eval l=vl) (hc:a.eval c=vc) (hrun:(Instr.makeSlice t vl vc).run P w=.ok v w') (h:K (a.put o.dst v) w'):Oper.wp P o a w K Q:=by
 subst hl;subst hc
 unfold Oper.wp
 simp[execOp,hop,hrun,Result.andThen]
 exact h
theorem zcw (w:World) (L:Nat) (hL:L≤2000):(Instr.makeSlice 30 (.int .i64 (L:Int)) (.int .i64 (L:Int))).run Tryz.prog w=.ok (.slice (some ⟨w.heap.size,0,none⟩) L L) (w.alloc (.cells (madeCells ratZ.cells (L*4)) 48)):=by
 obtain⟨i0,hi0,hz0,hz1,hz2⟩:=info_parts zc7
 have h:=run_makeSlice (P:=Tryz.prog) w 30 48 i0 ratZ zbn hi0 hz0 .i64 .i64 (L:Int) (L:Int) (by omega) (by omega) (by rw[hz1,Int.toNat_natCast];omega) (by rw[hz2];omega) (by omega)
 rw[Int.toNat_natCast,hz1]at h
 exact h
theorem ze3 (w:World) (L:Nat) (hL:L≤2000):(Instr.makeSlice 29 (.int .i64 (L:Int)) (.int .i64 (L:Int))).run Tryz.prog w=.ok (.slice (some ⟨w.heap.size,0,none⟩) L L) (w.alloc (.cells (madeCells (Value.slice none 0 0).cells (L*1)) 25)):=by
 obtain⟨i0,hi0,hz0,hz1,hz2⟩:=info_parts zgx
 have h:=run_makeSlice (P:=Tryz.prog) w 29 25 i0 (.slice none 0 0) zer hi0 hz0 .i64 .i64 (L:Int) (L:Int) (by omega) (by omega) (by rw[hz1,Int.toNat_natCast];omega) (by rw[hz2];omega) (by omega)
 rw[Int.toNat_natCast,hz1]at h
 exact h
theorem zhH {z:Array Value} {sz:Nat} (hz:z.size=sz) (hsz:0<sz) (n:Nat):madeCells z (n*sz)=(zb1 (List.replicate n z)).toArray:=by
 have hs:∀c∈List.replicate n z,c.size=sz:=fun c hc=>by rw[List.eq_of_mem_replicate hc];exact hz
 have hl:=zbg hs
 rw[List.length_replicate]at hl
 apply Array.toList_inj.1
 apply List.ext_getElem?
 intro k
 by_cases hk:k<n*sz
 ·obtain⟨a,b,rfl,hb⟩:∃a b,k=a*sz+b∧b<sz:=⟨k/sz,k%sz,by rw[Nat.mul_comm,Nat.div_add_mod],Nat.mod_lt _ hsz⟩
  have ha:a<n:=by
   rcases Nat.lt_or_ge a n with h|h
   ·exact h
   ·have:=Nat.mul_le_mul_right sz h;omega
  rw[zbJ hs a b (by simpa using ha) hb,List.getElem_replicate]
  have e:(madeCells z (n*sz)).toList[a*sz+b]?=some (z[(a*sz+b)%z.size]!):=by
   simp[madeCells,hk]
  have e2:(a*sz+b)%z.size=b:=by
   rw[hz,Nat.add_comm,Nat.add_mul_mod_self_right,Nat.mod_eq_of_lt hb]
  rw[e,e2]
  simp[hz,hb]
 ·rw[List.getElem?_eq_none (by rw[Array.length_toList,size_madeCells];omega),List.getElem?_eq_none (by rw[List.toList_toArray,hl];omega)]
theorem OwnE.of_blk {W:World} {B:Nat} {e:TypeId} {sz g:Nat} {cs:List (Array Value)} (hB:B≤g) (hs:∀c∈cs,c.size=sz) (hl:cs.length≤maxLen) (hb:Blk W g e (zb1 cs).toArray):OwnE W B e sz (.slice (some ⟨g,0,none⟩) cs.length cs.length) cs:=by
 have h1:=zbg hs
 exact⟨hs,by rw[h1],.inr ⟨g,cs.length,(zb1 cs).toArray,rfl,hB,hb,Nat.le_refl _,hl,by rw[List.size_toArray,h1],by rw[List.toList_toArray,List.take_of_length_le (Nat.le_of_eq h1)]⟩⟩
section
variable {w W W':World} {ls:List Ow} {bs:List Bo} {old new φ ψ:World→Prop}
theorem zjm {α:Type} {l:List α} {k:Nat} (hk:k<l.length):(l[k]::l.eraseIdx k).Perm l:=by
 conv=>rhs;rw[←List.take_append_drop k l,List.drop_eq_getElem_cons hk]
 rw[List.eraseIdx_eq_take_drop_succ]
 exact List.perm_middle.symm
theorem GL.goAt {k:Nat} {o o':Ow} {X:World} (h:GL w ls old new W) (hk:ls[k]?=some o) (he:Rests X (fun n=>W.heap.size≤n) ψ) (hX:Below W.heap.size W X) (ho:OwnE W' w.heap.size o'.e o'.sz o'.v o'.cs) (hb:Below w.heap.size X W')
 (hkk:∀b,b<X.heap.size→o.v.ownBlock≠some b→W'.heap[b]?=X.heap[b]?) (hs:X.heap.size≤W'.heap.size) (hor:o'.v.ownBlock=o.v.ownBlock∨∃b,o'.v.ownBlock=some b∧X.heap.size≤b):
 GL w (ls.set k o') old (fun V=>ψ V∧new V) W':=by
 obtain⟨hk',rfl⟩:=List.getElem?_eq_some_iff.1 hk
 have p1:(ls[k]::ls.eraseIdx k).Perm ls:=zjm hk'
 have p2:(ls.set k o').Perm (o'::ls.eraseIdx k):=by
  have:=(zjm (l:=ls.set k o') (k:=k) (by simpa using hk')).symm
  rwa [List.getElem_set_self,List.eraseIdx_set_eq]at this
 exact((h.perm p1).go he hX ho hb hkk hs hor).perm p2
theorem GL.call (h:GL w ls old new W) (hk:Rests W' (fun n=>W.heap.size≤n) ψ) (hb:Below W.heap.size W W'):GL w ls old (fun V=>ψ V∧new V) W':=h.keep hk hb
theorem GL.drew (h:GL w ls old new W):GL w ls old new W.drew:=⟨fun o ho=>(h.own o ho).drew,h.nd,h.rso.drew,h.rsn.drew,h.bel.drew⟩
theorem GL.box (h:GL w ls old new W) (t:TypeId) (cs:Array Value):GL w ls old (fun V=>Blk V W.heap.size t cs∧new V) (W.alloc (.cells cs t)):=
 h.keep ⟨Blk.new W t cs,fun w' hw=>(hw W.heap.size (Nat.le_refl _) (by simp)).trans (Blk.new W t cs)⟩ ((Below.refl _ W).alloc (Nat.le_refl _) _)
theorem GL.setg {k i j:Nat} {e:TypeId} {sz g n cap:Nat} {cs:List (Array Value)} (h:GL w ls old new W) (hk:ls[k]?=some ⟨e,sz,.slice (some ⟨g,0,none⟩) n cap,cs⟩) (hi:i<cs.length) (hj:j<sz) (u:Value):
 GL w (ls.set k ⟨e,sz,.slice (some ⟨g,0,none⟩) n cap,cs.set i ((cs[i]).setIfInBounds j u)⟩) old new (W.setCell ⟨g,i*sz+j,none⟩ u):=by
 have ho:OwnE W w.heap.size e sz (.slice (some ⟨g,0,none⟩) n cap) cs:=h.own _ (List.mem_of_getElem? hk)
 have hg:=ho.lt g rfl
 refine(GL.goAt (ψ:=fun _=>True) h hk (.pure trivial _ _) (Below.refl _ _) (o':=⟨e,sz,.slice (some ⟨g,0,none⟩) n cap,cs.set i ((cs[i]).setIfInBounds j u)⟩) (ho.set1 i j hi hj u) ((Below.refl _ W).setCell (show w.heap.size≤(⟨g,i*sz+j,none⟩:Addr).block from hg.1) u) (fun b _ hne=>?_) ?_ (.inl rfl)).imp (fun _ h=>h) fun _ h=>h.2
 ·exact Below.heap_setCell W _ u b fun e'=>hne (by rw[e'];rfl)
 ·simp[World.setCell]
theorem zaQ {α:Type} (l:List α) (k:Nat) (a b:α) (h:l[k]?=some a):(l.set k b)[k]?=some b:=by
 obtain⟨h1,-⟩:=List.getElem?_eq_some_iff.1 h
 rw[List.getElem?_set_self h1]
theorem GL.set1 {k i:Nat} {e:TypeId} {g n cap:Nat} {A:Option Addr} (hA:A=some ⟨g,0,none⟩) {cs:List (Array Value)} (h:GL w ls old new W) (hk:ls[k]?=some ⟨e,1,.slice A n cap,cs⟩) (hi:i<cs.length) (u:Value):
 GL w (ls.set k ⟨e,1,.slice A n cap,cs.set i #[u]⟩) old new (W.setCell (adr A i) u):=by
 subst hA
 obtain⟨x,hx⟩:∃x,x=cs[i]:=⟨_,rfl⟩
 have hxs:x.size=1:=by rw[hx];exact(h.own _ (List.mem_of_getElem? hk)).1 _ (List.getElem_mem hi)
 have h0:=h.setg hk hi (j:=0) (by decide) u
 rw[←hx,show x.setIfInBounds 0 u=#[u]from by
  obtain⟨l⟩:=x
  match l,hxs with
  |[_],_=>rfl]at h0
 rw[za6,Nat.zero_add]
 simpa using h0
theorem zks (x:Array Value) (hx:x.size=4) (a b c d:Value):(((x.setIfInBounds 0 a).setIfInBounds 1 b).setIfInBounds 2 c).setIfInBounds 3 d=#[a,b,c,d]:=by
 obtain⟨l⟩:=x
 match l,hx with
 |[_,_,_,_],_=>rfl
theorem GL.set4 {k i:Nat} {e:TypeId} {g n cap:Nat} {A:Option Addr} (hA:A=some ⟨g,0,none⟩) {cs:List (Array Value)} (h:GL w ls old new W) (hk:ls[k]?=some ⟨e,4,.slice A n cap,cs⟩) (hi:i<cs.length) (a b c d:Value):
 GL w (ls.set k ⟨e,4,.slice A n cap,cs.set i #[a,b,c,d]⟩) old new ((((W.setCell (adr A (i*4)) a).setCell (adr A (i*4+1)) b).setCell (adr A (i*4+2)) c).setCell (adr A (i*4+3)) d):=by
 subst hA
 have e0:∀k,adr (some ⟨g,0,none⟩) k=⟨g,k,none⟩:=fun k=>by rw[za6,Nat.zero_add]
 simp only[e0]
 obtain⟨x,hx⟩:∃x,x=cs[i]:=⟨_,rfl⟩
 have hxs:x.size=4:=by rw[hx];exact(h.own _ (List.mem_of_getElem? hk)).1 _ (List.getElem_mem hi)
 have h0:=h.setg hk hi (j:=0) (by decide) a
 have h1:=h0.setg (zaQ _ _ _ _ hk) (i:=i) (by simpa using hi) (j:=1) (by decide) b
 have h2:=h1.setg (zaQ _ _ _ _ (zaQ _ _ _ _ hk)) (i:=i) (by simpa using hi) (j:=2) (by decide) c
 have h3:=h2.setg (zaQ _ _ _ _ (zaQ _ _ _ _ (zaQ _ _ _ _ hk))) (i:=i) (by simpa using hi) (j:=3) (by decide) d
 simp only[List.getElem_set_self,List.set_set,←hx]at h3
 rw[zks x hxs]at h3
 exact h3
theorem zju (x:Array Value) (hx:x.size=6) (a b c d f g:Value):(((((x.setIfInBounds 0 a).setIfInBounds 1 b).setIfInBounds 2 c).setIfInBounds 3 d).setIfInBounds 4 f).setIfInBounds 5 g=#[a,b,c,d,f,g]:=by
 obtain⟨l⟩:=x
 match l,hx with
 |[_,_,_,_,_,_],_=>rfl
theorem GL.put6 {k:Nat} {e:TypeId} {g:Nat} {c0:Array Value} (h:GL w ls old new W) (hk:ls[k]?=some ⟨e,6,.slice (some ⟨g,0,none⟩) 1 1,[c0]⟩) (u0 u1 u2 u3 u4 u5:Value):
 GL w (ls.set k ⟨e,6,.slice (some ⟨g,0,none⟩) 1 1,[#[u0,u1,u2,u3,u4,u5]]⟩) old new ((((((W.setCell ⟨g,0,none⟩ u0).setCell ⟨g,1,none⟩ u1).setCell ⟨g,2,none⟩ u2).setCell ⟨g,3,none⟩ u3).setCell ⟨g,4,none⟩ u4).setCell ⟨g,5,none⟩ u5):=by
 have hxs:c0.size=6:=(h.own _ (List.mem_of_getElem? hk)).1 _ (List.mem_singleton.2 rfl)
 have h0:=h.setg hk (i:=0) (by simp) (j:=0) (by decide) u0
 have h1:=h0.setg (zaQ _ _ _ _ hk) (i:=0) (by simp) (j:=1) (by decide) u1
 have h2:=h1.setg (zaQ _ _ _ _ (zaQ _ _ _ _ hk)) (i:=0) (by simp) (j:=2) (by decide) u2
 have h3:=h2.setg (zaQ _ _ _ _ (zaQ _ _ _ _ (zaQ _ _ _ _ hk))) (i:=0) (by simp) (j:=3) (by decide) u3
 have h4:=h3.setg (zaQ _ _ _ _ (zaQ _ _ _ _ (zaQ _ _ _ _ (zaQ _ _ _ _ hk)))) (i:=0) (by simp) (j:=4) (by decide) u4
 have h5:=h4.setg (zaQ _ _ _ _ (zaQ _ _ _ _ (zaQ _ _ _ _ (zaQ _ _ _ _ (zaQ _ _ _ _ hk))))) (i:=0) (by simp) (j:=5) (by decide) u5
 simp only[List.set_set,List.getElem_cons_zero,List.set_cons_zero,Nat.zero_mul,Nat.zero_add]at h5
 rw[zju c0 hxs]at h5
 exact h5
theorem GL.cell {k i j:Nat} {e:TypeId} {sz n cap:Nat} {A:Option Addr} {cs:List (Array Value)} (h:GL w ls old new W) (hk:ls[k]?=some ⟨e,sz,.slice A n cap,cs⟩) (hi:i<cs.length) (hj:j<sz):W.cell? (adr A (i*sz+j))=(cs[i])[j]?:=
 ((h.own _ (List.mem_of_getElem? hk)).el).1.cell i hi j hj
theorem GL.free {k:Nat} {e:TypeId} {sz g n cap:Nat} {A:Option Addr} (hA:A=some ⟨g,0,none⟩) {cs:List (Array Value)} (h:GL w ls old new W) (hk:ls[k]?=some ⟨e,sz,.slice A n cap,cs⟩) (i:Nat):W.frozen? (adr A i)=false:=
 (h.own _ (List.mem_of_getElem? hk)).free hA i
theorem GL.add {e:TypeId} {sz:Nat} {cs:List (Array Value)} (h:GL w ls old new W) (hs:∀c∈cs,c.size=sz) (hl:cs.length≤maxLen):GL w (⟨e,sz,.slice (some ⟨W.heap.size,0,none⟩) cs.length cs.length,cs⟩::ls) old new (W.alloc (.cells (zb1 cs).toArray e)):=by
 refine(GL.go (X:=W) (ψ:=fun _=>True) (o':=⟨e,sz,.slice (some ⟨W.heap.size,0,none⟩) cs.length cs.length,cs⟩) (h.new_ e sz) (.pure trivial _ _) (Below.refl _ _) (OwnE.of_blk h.bel.size hs hl (Blk.new W e _)) ((Below.refl _ W).alloc h.bel.size _) (fun b hb _=>Below.heap_alloc W _ b hb) (by simp) (.inr ⟨W.heap.size,rfl,Nat.le_refl _⟩)).imp (fun _ h=>h) fun _ h=>h.2
theorem GL.addz {e:TypeId} {sz:Nat} {z:Array Value} (h:GL w ls old new W) (hz:z.size=sz) (hsz:0<sz) (L:Nat) (hl:L≤maxLen):GL w (⟨e,sz,.slice (some ⟨W.heap.size,0,none⟩) L L,List.replicate L z⟩::ls) old new (W.alloc (.cells (madeCells z (L*sz)) e)):=by
 have h1:=h.add (e:=e) (sz:=sz) (cs:=List.replicate L z) (fun c hc=>by rw[List.eq_of_mem_replicate hc];exact hz) (by simpa using hl)
 rw[←zhH hz hsz L,List.length_replicate]at h1
 exact h1
theorem GL.addb (h:GL w ls old new W) (e:TypeId) (c:Array Value):GL w (⟨e,c.size,.slice (some ⟨W.heap.size,0,none⟩) 1 1,[c]⟩::ls) old new (W.alloc (.cells c e)):=by
 have h1:=h.add (e:=e) (sz:=c.size) (cs:=[c]) (fun x hx=>by rw[List.mem_singleton.1 hx]) (by simp[maxLen])
 rw[show(zb1 [c]).toArray=c from by simp[zb1]]at h1
 exact h1
theorem GL.nils (h:GL w ls old new W) (e:TypeId) (sz:Nat):∀k,GL w (ls++List.replicate k ⟨e,sz,.slice none 0 0,[]⟩) old new W
 |0=>by simpa using h
 |k+1=>(GL.new_ (GL.nils h e sz k) e sz).perm (by
   rw[List.replicate_succ]
   exact List.perm_middle)
theorem GL.appAt {P:Program} {t e:TypeId} {k sz bytes:Nat} {z v:Value} {cs:List (Array Value)} (ht:P.underlying t=some (.slice e)) (hinfo:(P.info? e).map (fun i=>(i.zero,i.size,i.bytes))=some (some z,sz,bytes)) (hz:z.cells.size=sz) (hsz:0<sz)
 (h:GL w ls old new W) (hk:ls[k]?=some ⟨e,sz,v,cs⟩) {b of:Nat} {d:Array Value} {c:Nat} (hd:El W sz (some ⟨b,of,none⟩) [d]) (h1:∀u∈d.toList,u.oneCell'=true) (hlen:(cs.length+1)*bytes≤140737488355328) (hl:cs.length+1≤maxLen):
 ∃v' w',(Builtin.append_ #[t,t] t #[v,.slice (some ⟨b,of,none⟩) 1 c]).run P W=.ok v' w'∧GL w (ls.set k ⟨e,sz,v',cs++[d]⟩) old new w'∧Below w.heap.size W w'∧(∃A n cap,v'=.slice A n cap):=by
 have hown:OwnE W w.heap.size e sz v cs:=h.own _ (List.mem_of_getElem? hk)
 obtain⟨v',w',hrun,ho,hb,hkk,hs,hor⟩:=OwnE.apps ht hinfo hz hsz hown (c:=c) (ds:=[d]) hd (fun d' hd' u hu=>by
  rw[List.mem_singleton.1 hd']at hu
  exact h1 u hu) hlen hl h.bel.size
 obtain⟨A,cap,hv,-⟩:=ho.form
 refine⟨v',w',hrun,(GL.goAt (ψ:=fun _=>True) (o':=⟨e,sz,v',cs++[d]⟩) h hk (.pure trivial _ _) (Below.refl _ _) ho hb hkk hs ?_).imp (fun _ h=>h) (fun _ h=>h.2),hb,A,_,cap,hv⟩
 rcases hor with e|e
 ·exact .inl e
 ·exact .inr ⟨_,e,Nat.le_refl _⟩
@[reducible] def bow (g:Nat) (t:TypeId) (sz:Nat) (c:Array Value):Ow:=⟨t,sz,.slice (some ⟨g,0,none⟩) 1 1,[c]⟩
theorem GL.ofEnv {bs1 bs2:List Bo} (h:Env w (bs1++bs2) old new W):GL w (bs1.map fun b=>bow b.g b.t b.cs.size b.cs) (fun V=>(∀b∈bs2,Blk V b.g b.t b.cs)∧old V) new W:=by
 have hnd:=List.pairwise_append.1 h.nd
 have hn:∀n,(∀b∈bs1++bs2,b.g≠n)→∀o∈bs1.map (fun b=>bow b.g b.t b.cs.size b.cs),o.v.ownBlock≠some n:=fun n hn o ho e=>by
  obtain⟨b,hb,rfl⟩:=List.mem_map.1 ho
  injection e with e
  exact hn b (List.mem_append_left _ hb) e
 refine⟨fun o ho=>?_,?_,?_,h.rsn.mono fun n hn'=>⟨hn'.1,hn n hn'.2⟩,h.bel⟩
 ·obtain⟨b,hb,rfl⟩:=List.mem_map.1 ho
  exact OwnE.of_blk (cs:=[b.cs]) (h.own b (List.mem_append_left _ hb)) (fun x hx=>by rw[List.mem_singleton.1 hx]) (by simp[maxLen]) (by rw[show(zb1 [b.cs]).toArray=b.cs from by simp[zb1]];exact h.bx b (List.mem_append_left _ hb))
 ·refine List.pairwise_map.2 (hnd.1.imp fun{a b} hab k ha hb=>?_)
  injection ha with ha
  injection hb with hb
  exact hab (ha.trans hb.symm)
 ·refine Rests.and (Rests.all (φ:=fun(b:Bo) V=>Blk V b.g b.t b.cs) fun b hb=>⟨h.bx b (List.mem_append_right _ hb),fun w' hw=>(hw b.g (fun o ho e=>?_) (h.bx b (List.mem_append_right _ hb)).lt).trans (h.bx b (List.mem_append_right _ hb))⟩) (h.rso.mono hn)
  obtain⟨a,ha,rfl⟩:=List.mem_map.1 ho
  injection e with e
  exact hnd.2.2 a ha b hb e
theorem Env.made {W0:World} (h:Env W0 bs old new W):Rests W (fun n=>W0.heap.size≤n) (fun V=>(∀b∈bs,Blk V b.g b.t b.cs)∧new V):=
 Rests.and (Rests.all (φ:=fun(b:Bo) V=>Blk V b.g b.t b.cs) fun b hb=>⟨h.bx b hb,fun _w' hw=>(hw b.g (h.own b hb) (h.bx b hb).lt).trans (h.bx b hb)⟩) h.fresh
theorem GL.sink (h:GL w ls old new W):GL w ls (fun V=>new V∧old V) (fun _=>True) W:=⟨h.own,h.nd,(h.rsn.mono fun _ h=>h.2).and h.rso,.pure trivial _ _,h.bel⟩
theorem OwnE.blk {B:Nat} {t:TypeId} {sz g:Nat} {c:Array Value} (h:OwnE W B t sz (.slice (some ⟨g,0,none⟩) 1 1) [c]):Blk W g t c:=by
 obtain⟨hs,hl,h1|⟨g',cap',cur,hv,hg,hh,hn,hm,hsz,ht⟩⟩:=h
 ·cases h1.1
 ·obtain⟨rfl,-,rfl⟩:g=g'∧1=[c].length∧1=cap':=by simpa using hv
  have e:cur=c:=by
   apply Array.toList_inj.1
   rw[List.take_of_length_le (by rw[Array.length_toList,hsz];simp)]at ht
   rw[ht];simp[zb1]
  rw[←e];exact hh
theorem GL.drop_ {t:TypeId} {sz g:Nat} {c:Array Value} (h:GL w (⟨t,sz,.slice (some ⟨g,0,none⟩) 1 1,[c]⟩::ls) old new W):GL w ls old (fun V=>Blk V g t c∧new V) W:=by
 have ho:OwnE W w.heap.size t sz (.slice (some ⟨g,0,none⟩) 1 1) [c]:=h.own _ (List.mem_cons_self ..)
 have hB:=ho.blk
 have hg:=ho.lt g rfl
 have hnd:=List.pairwise_cons.1 h.nd
 refine⟨fun o ho=>h.own o (List.mem_cons_of_mem _ ho),hnd.2,h.rso.mono fun n hn o ho=>hn o (List.mem_cons_of_mem _ ho),Rests.and ⟨hB,fun w' hw=>(hw g ⟨hg.1,fun o ho e=>?_⟩ hg.2).trans hB⟩ (h.rsn.mono fun n hn=>⟨hn.1,fun o ho=>hn.2 o (List.mem_cons_of_mem _ ho)⟩),h.bel⟩
 exact hnd.1 o ho g rfl e
theorem GL.cb {k g:Nat} {t:TypeId} {sz:Nat} {c:Array Value} (h:GL w ls old new W) (hk:ls[k]?=some (bow g t sz c)):CB g c W:=(OwnE.blk (h.own _ (List.mem_of_getElem? hk))).cb
theorem GL.put4 {k:Nat} {e:TypeId} {g:Nat} {c0:Array Value} (h:GL w ls old new W) (hk:ls[k]?=some (bow g e 4 c0)) (u0 u1 u2 u3:Value):
 GL w (ls.set k (bow g e 4 #[u0,u1,u2,u3])) old new ((((W.setCell ⟨g,0,none⟩ u0).setCell ⟨g,1,none⟩ u1).setCell ⟨g,2,none⟩ u2).setCell ⟨g,3,none⟩ u3):=by
 have h0:=h.set4 (i:=0) rfl hk (by simp) u0 u1 u2 u3
 simp only[Nat.zero_mul,Nat.zero_add,za6,List.set_cons_zero]at h0
 exact h0
theorem GL.al (h:GL w ls old new W) (t:TypeId) (cs:Array Value):∃W' g,W.alloc (.cells cs t)=W'∧W.heap.size=g∧Hid (GL w ls old (fun V=>Blk V g t cs∧new V) W'):=⟨_,_,rfl,rfl,znd (h.box t cs)⟩
theorem zdD {P:Program} {w w':World} {o:Oper} {a:Act} {K:Act→World→Prop} {Q:Exit→Act→World→Prop} (s x:Operand) (t:TypeId) (v y v':Value)
 (ho:o.op=.call {callee:=.builtin .append,args:=#[s,x],argTypes:=#[t,t]}) (hs:a.eval s=v) (hx:a.eval x=y)
 (hrun:(Builtin.append_ #[t,t] o.type #[v,y]).run P w=.ok v' w')
 (h:K (a.put o.dst v') w'):Oper.wp P o a w K Q:=by
 unfold Oper.wp execOp
 simp only[ho,resolve,invoke,builtin,Sem.run_bind,Sem.run_pure,Result.andThen_ok,List.map_toArray,List.map_cons,List.map_nil,hs,hx,hrun]
 exact h
@[reducible] def zbu (v:VeV):Ow:=⟨65,5,.slice v.A v.ts.length v.c,v.ts.map tecells⟩
theorem GL.appV {k g:Nat} {v:VeV} (h:GL w ls old new W) (hk:ls[k]?=some (zbu v)) (x:TeV) (hd:Blk W g 65 (tecells x)) (hl:v.ts.length≤1000000):
 ∃A' c' w',(Builtin.append_ #[25,25] 25 #[.slice v.A v.ts.length v.c,.slice (some ⟨g,0,none⟩) 1 1]).run Tryz.prog W=.ok (.slice A' (v.ts++[x]).length c') w'∧GL w (ls.set k (zbu ⟨A',c',v.ts++[x]⟩)) old new w':=by
 have hel:El W 5 (some ⟨g,0,none⟩) [tecells x]:=by
  refine⟨Sl.some_ _ _ _,fun i hi=>?_,fun i hi j hj=>?_⟩
  ·have:i=0:=by simpa using hi
   subst this;rfl
  ·have:i=0:=by simpa using hi
   subst this
   rw[za6,Nat.zero_mul,Nat.zero_add,Nat.zero_add]
   exact hd.cell j
 obtain⟨v',w',hrun,hG,-,A',n',c',hv⟩:=GL.appAt (P:=Tryz.prog) (c:=1) zaE zbD rfl (by decide) h hk hel (zcd x) (by simp;omega) (by simp[maxLen];omega)
 obtain⟨A2,c2,hv2,-⟩:=(hG.own _ (List.mem_of_getElem? (zaQ _ _ _ _ hk))).form
 have hv':v'=.slice A2 (v.ts++[x]).length c2:=by rw[show v'=_ from hv2];simp
 subst hv'
 refine⟨A2,c2,w',hrun,?_⟩
 have e:(v.ts++[x]).map tecells=v.ts.map tecells++[tecells x]:=by simp
 show GL w (ls.set k ⟨_,5,_,(v.ts++[x]).map tecells⟩) old new w'
 rw[e];exact hG
theorem GL.newV {k:Nat} {c:Nat} (h:GL w ls old new W) (hk:ls[k]?=some (zbu ⟨none,c,[]⟩)) (x:TeV):GL w (ls.set k (zbu ⟨some ⟨W.heap.size,0,none⟩,1,[x]⟩)) old new (W.alloc (.cells (tecells x) 65)):=by
 refine(GL.goAt (ψ:=fun _=>True) (X:=W) (o':=zbu ⟨some ⟨W.heap.size,0,none⟩,1,[x]⟩) h hk (.pure trivial _ _) (Below.refl _ _) ?_ ((Below.refl _ W).alloc h.bel.size _) (fun b hb _=>Below.heap_alloc W _ b hb) (by simp) (.inr ⟨W.heap.size,rfl,Nat.le_refl _⟩)).imp (fun _ h=>h) (fun _ h=>h.2)
 exact OwnE.of_blk (cs:=[tecells x]) h.bel.size (fun y hy=>by rw[List.mem_singleton.1 hy];rfl) (by simp[maxLen]) (by rw[show(zb1 [tecells x]).toArray=tecells x from by simp[zb1]];exact Blk.new W _ _)
theorem GL.rc {k i:Nat} {e:TypeId} {n cap:Nat} {A:Option Addr} {l:List (RV×Rat)} (h:GL w ls old new W) (hk:ls[k]?=some ⟨e,4,.slice A n cap,l.map za0⟩) (hi:i<l.length):RC A i l[i] W:=by
 have hc:=fun j hj=>h.cell (i:=i) (j:=j) hk (by simpa using hi) hj
 rw[List.getElem_map]at hc
 exact⟨hc 0 (by decide),hc 1 (by decide),hc 2 (by decide),hc 3 (by decide)⟩
theorem GL.vc {k i:Nat} {e:TypeId} {n cap:Nat} {A:Option Addr} {l:List VeV} (h:GL w ls old new W) (hk:ls[k]?=some ⟨e,1,.slice A n cap,l.map za3⟩) (hi:i<l.length):W.cell? (adr A i)=some (.slice (l[i]).A (l[i]).ts.length (l[i]).c):=by
 have hc:=h.cell (i:=i) (j:=0) hk (by simpa using hi) (by decide)
 rw[List.getElem_map,Nat.mul_one,Nat.add_zero]at hc
 exact hc
theorem GL.putR {k i:Nat} {e:TypeId} {g n cap:Nat} {A:Option Addr} (hA:A=some ⟨g,0,none⟩) {l:List (RV×Rat)} (h:GL w ls old new W) (hk:ls[k]?=some ⟨e,4,.slice A n cap,l.map za0⟩) (hi:i<l.length) (r:RV) (q:Rat):
 GL w (ls.set k ⟨e,4,.slice A n cap,(l.set i (r,q)).map za0⟩) old new ((((W.setCell (adr A (i*4)) (.bool r.num.neg)).setCell (adr A (i*4+1)) (.slice r.num.A r.num.k r.num.c)).setCell (adr A (i*4+2)) (.bool r.den.neg)).setCell (adr A (i*4+3)) (.slice r.den.A r.den.k r.den.c)):=by
 have h0:=GL.set4 hA h hk (by simpa using hi) (.bool r.num.neg) (.slice r.num.A r.num.k r.num.c) (.bool r.den.neg) (.slice r.den.A r.den.k r.den.c)
 rw[show(l.set i (r,q)).map za0=(l.map za0).set i (za0 (r,q))from List.map_set ..]
 exact h0
theorem GL.putV {k i:Nat} {e:TypeId} {g n cap:Nat} {A:Option Addr} (hA:A=some ⟨g,0,none⟩) {l:List VeV} (h:GL w ls old new W) (hk:ls[k]?=some ⟨e,1,.slice A n cap,l.map za3⟩) (hi:i<l.length) (v:VeV):
 GL w (ls.set k ⟨e,1,.slice A n cap,(l.set i v).map za3⟩) old new (W.setCell (adr A i) (.slice v.A v.ts.length v.c)):=by
 have h0:=GL.set1 hA h hk (by simpa using hi) (.slice v.A v.ts.length v.c)
 rw[show(l.set i v).map za3=(l.map za3).set i (za3 v)from List.map_set ..]
 exact h0
end

theorem Rat.add_snoc (l:List Rat) (a:Rat):(l++[a]).sum=l.sum+a:=by
 induction l with
 |nil=>simp[Rat.zero_add,Rat.add_zero]
 |cons b l ih=>rw[List.cons_append,List.sum_cons,ih,List.sum_cons,Rat.add_assoc]
theorem zhp {vs:List VaV} {ts:List TeV} {i:Nat} (hi:i<ts.length):zaX vs (ts.take (i+1))=zaX vs (ts.take i)+minQ (ts[i].q*(vs[ts[i].pl.toNat]!).lo.2) (ts[i].q*(vs[ts[i].pl.toNat]!).hi.2):=by
 unfold zaX
 rw[List.take_succ_eq_append_getElem hi,List.map_append,List.map_singleton,Rat.add_snoc]
theorem zhC {vs:List VaV} {ts:List TeV} {i:Nat} (hi:i<ts.length):zaZ vs (ts.take (i+1))=zaZ vs (ts.take i)+maxQ (ts[i].q*(vs[ts[i].pl.toNat]!).lo.2) (ts[i].q*(vs[ts[i].pl.toNat]!).hi.2):=by
 unfold zaZ
 rw[List.take_succ_eq_append_getElem hi,List.map_append,List.map_singleton,Rat.add_snoc]
theorem Sz.max9 {a b:Rat} {n:Nat} (h:Sz a n) (h':Sz b n):Sz (maxQ a b) n:=by unfold maxQ;split<;>assumption
theorem Sz.min9 {a b:Rat} {n:Nat} (h:Sz a n) (h':Sz b n):Sz (minQ a b) n:=by unfold minQ;split<;>assumption
def zi5 (a b:Rat) (w:World) (e:Ending) (w':World):Prop:=∃r s:RV,e=.returned (.tuple #[.agg #[.bool r.num.neg,.slice r.num.A r.num.k r.num.c,.bool r.den.neg,.slice r.den.A r.den.k r.den.c],.agg #[.bool s.num.neg,.slice s.num.A s.num.k s.num.c,.bool s.den.neg,.slice s.den.A s.den.k s.den.c]])∧Rests w' (w.heap.size≤·) (fun V=>RatN r a V∧RatN s b V)∧Below w.heap.size w w'
set_option maxRecDepth 100000 in
theorem zeN (w:World) (N:Nat) (hN:N≤10000000) (h1N:1≤N) (p:PrV) (h:LsR 9 zap (vaD N) p.Av p.vars w) (A:Option Addr) (c:Nat) (ts:List TeV) (ht:LsR 5 tecells (teD N) A ts w) (hrg:∀t∈ts,0≤t.pl∧t.pl<(p.vars.length:Int)) (hl:ts.length≤1000) (hT:Tz w):
 Calls Tryz.prog 68 #[.agg #[.slice p.Av p.vars.length p.cv,.slice p.Ar p.rows.length p.cr,.slice p.Ak p.cost.length p.ck],.slice A ts.length c] w (zi5 (zaX p.vars ts) (zaZ p.vars ts) w):=by
 have slv:=h.sl
 have slt:=ht.sl
 have hszv:=zdG
 have hszt:=zai
 have hadd:=zaa
 have Hrg:=znd hrg
 have Hsv:=znd (show∀v∈p.vars,Sz v.lo.2 N∧Sz v.hi.2 N from fun v hv=>⟨RatD.sz (h.ok v hv).1 h1N,RatD.sz (h.ok v hv).2 h1N⟩)
 have Hst:=znd (show∀t∈ts,Sz t.q N from fun t h=>RatD.sz (ht.ok t h) h1N)
 obtain⟨W0,hW0⟩:∃W0,W0=(((((w.alloc (.cells #[.slice p.Av p.vars.length p.cv,.slice p.Ar p.rows.length p.cr,.slice p.Ak p.cost.length p.ck] 27)).alloc (.cells #[.bool false,.slice none 0 0,.bool false,.slice none 0 0] 48)).alloc (.cells #[.bool false,.slice none 0 0,.bool false,.slice none 0 0] 48)).alloc (.cells #[.bool false,.slice none 0 0,.bool false,.slice none 0 0] 48)).alloc (.cells #[.bool false,.slice none 0 0,.bool false,.slice none 0 0] 48)):=⟨_,rfl⟩
 have HE:=znd (Env.lay5 (Env.start (((h.old zct)).and (((ht.old zah)).and (hT.old)))) hW0)
 subst hW0
 have c:=Env.c5 HE.out
 have dd:=Env.d5 HE.out
 clear h ht hT hrg
 go_enter Tryz.func68,Tryz.ntmps68
 go_wp2_with fail
 have HG:=znd (show GL w [bow (w.heap.size+1+1+1+1) 48 4 #[.bool zeroR.num.neg,.slice zeroR.num.A zeroR.num.k zeroR.num.c,.bool zeroR.den.neg,.slice zeroR.den.A zeroR.den.k zeroR.den.c],bow (w.heap.size+1+1+1) 48 4 #[.bool zeroR.num.neg,.slice zeroR.num.A zeroR.num.k zeroR.num.c,.bool zeroR.den.neg,.slice zeroR.den.A zeroR.den.k zeroR.den.c],bow (w.heap.size+1+1) 48 4 #[.bool false,.slice none 0 0,.bool false,.slice none 0 0],bow (w.heap.size+1) 48 4 #[.bool false,.slice none 0 0,.bool false,.slice none 0 0]] (fun V=>Blk V (w.heap.size) 27 #[.slice p.Av p.vars.length p.cv,.slice p.Ar p.rows.length p.cr,.slice p.Ak p.cost.length p.ck]∧LsR 9 zap (vaD N) p.Av p.vars V∧LsR 5 tecells (teD N) A ts V∧Tz V) (fun V=>RatN zeroR (zaX p.vars (ts.take 0)) V∧RatN zeroR (zaZ p.vars (ts.take 0)) V) _ from(GL.ofEnv (bs1:=[_,_,_,_]) (bs2:=[_]) HE.out).imp (fun V h=>⟨h.1 _ (List.mem_singleton.2 rfl),h.2⟩) (fun V _=>⟨zbc V,zbc V⟩))
 clear HE c dd
 go_loopw [15] (fun iv wr=>∃(i:Nat) (r s:RV),iv=.int .i64 (i:Int)∧i≤ts.length∧Hid (Sz (zaX p.vars (ts.take i)) (1+i*(2*N+2))∧Sz (zaZ p.vars (ts.take i)) (1+i*(2*N+2)))∧Hid (GL w [bow (w.heap.size+1+1+1+1) 48 4 #[.bool s.num.neg,.slice s.num.A s.num.k s.num.c,.bool s.den.neg,.slice s.den.A s.den.k s.den.c],bow (w.heap.size+1+1+1) 48 4 #[.bool r.num.neg,.slice r.num.A r.num.k r.num.c,.bool r.den.neg,.slice r.den.A r.den.k r.den.c],bow (w.heap.size+1+1) 48 4 #[.bool false,.slice none 0 0,.bool false,.slice none 0 0],bow (w.heap.size+1) 48 4 #[.bool false,.slice none 0 0,.bool false,.slice none 0 0]] (fun V=>Blk V (w.heap.size) 27 #[.slice p.Av p.vars.length p.cv,.slice p.Ar p.rows.length p.cr,.slice p.Ak p.cost.length p.ck]∧LsR 9 zap (vaD N) p.Av p.vars V∧LsR 5 tecells (teD N) A ts V∧Tz V) (fun V=>RatN r (zaX p.vars (ts.take i)) V∧RatN s (zaZ p.vars (ts.take i)) V) wr)) (fun iv _=>ts.length-(intOf iv).toNat)
 case atStart=>exact⟨0,zeroR,zeroR,rfl,Nat.zero_le _,znd ⟨zaM.up (by omega),zaM.up (by omega)⟩,HG⟩
 case round=>
  clear HG
  obtain⟨i,r,s,rfl,hi,HZ,HG⟩:=hrel
  by_cases hlt:i<ts.length
  ·have HE:=znd HG.out.env
   have ct:=HE.out.o.1.2.2.1.tc i hlt
   have HLn:=znd (zhp (vs:=p.vars) hlt)
   have HGn:=znd (zhC (vs:=p.vars) hlt)
   obtain⟨h0,h1⟩:=Hrg.out _ (List.getElem_mem hlt)
   have hjl:ts[i].pl.toNat<p.vars.length:=by omega
   have HCV:=znd (fun(V:World) (h:LsR 9 zap (vaD N) p.Av p.vars V)=>h.vac ts[i].pl.toNat hjl)
   rw[zb0 hjl]at HLn HGn
   have Hmt:=znd (List.getElem_mem hlt)
   have Hmv:=znd (List.getElem_mem hjl)
   obtain⟨v,hv⟩:∃v,v=p.vars[ts[i].pl.toNat]:=⟨_,rfl⟩
   rw[←hv]at HCV HLn HGn Hmv
   clear hv
   obtain⟨t,ht⟩:∃t,t=ts[i]:=⟨_,rfl⟩
   rw[←ht]at ct HLn HGn Hmt h0 h1 HCV hjl
   clear ht
   obtain⟨pl,hpl⟩:∃pl:Nat,t.pl=(pl:Int):=⟨t.pl.toNat,by omega⟩
   dsimp only[TC]at ct
   rw[hpl]at ct HCV h1 hjl
   rw[Int.toNat_natCast]at HCV hjl
   clear h0 h1
   have c:=Blk.cb HE.out.o.1.1
   go_upto_region 5 with fail
   obtain⟨W2,gt,hW2,hgt,HE⟩:=Env.al HE.out 65 #[.int .i64 (pl:Int),.bool t.r.num.neg,.slice t.r.num.A t.r.num.k t.r.num.c,.bool t.r.den.neg,.slice t.r.den.A t.r.den.k t.r.den.c]
   rw[hW2,hgt]
   clear hW2 hgt ct
   have ct:=Env.c1 HE.out
   replace c:=Blk.cb HE.out.o.1.1
   have cv0:=HCV.out _ HE.out.o.1.2.1
   have hnlt:¬((pl:Int)<0):=by omega
   have hnge:¬((p.vars.length:Int)≤(pl:Int)):=by omega
   go_upto_region 7 with fail
   obtain⟨W3,gv,hW3,hgv,HE⟩:=Env.al HE.out 62 #[.bool v.lo.1.num.neg,.slice v.lo.1.num.A v.lo.1.num.k v.lo.1.num.c,.bool v.lo.1.den.neg,.slice v.lo.1.den.A v.lo.1.den.k v.lo.1.den.c,.bool v.hi.1.num.neg,.slice v.hi.1.num.A v.hi.1.num.k v.hi.1.num.c,.bool v.hi.1.den.neg,.slice v.hi.1.den.A v.hi.1.den.k v.hi.1.den.c,.bool v.int]
   rw[hW3,hgv]
   clear hW3 hgv cv0 ct c hnlt hnge
   have c:=Env.c2 HE.out
   go_cut [11,12] (fun p1 p2 wx=>∃g11 g12 a b,p1=.pointer (some ⟨g11,0,none⟩)∧p2=.pointer (some ⟨g12,0,none⟩)∧Hid (Env wr [⟨g12,48,#[.bool b.num.neg,.slice b.num.A b.num.k b.num.c,.bool b.den.neg,.slice b.den.A b.den.k b.den.c]⟩,⟨g11,48,#[.bool a.num.neg,.slice a.num.A a.num.k a.num.c,.bool a.den.neg,.slice a.den.A a.den.k a.den.c]⟩,⟨gv,62,#[.bool v.lo.1.num.neg,.slice v.lo.1.num.A v.lo.1.num.k v.lo.1.num.c,.bool v.lo.1.den.neg,.slice v.lo.1.den.A v.lo.1.den.k v.lo.1.den.c,.bool v.hi.1.num.neg,.slice v.hi.1.num.A v.hi.1.num.k v.hi.1.num.c,.bool v.hi.1.den.neg,.slice v.hi.1.den.A v.hi.1.den.k v.hi.1.den.c,.bool v.int]⟩,⟨gt,65,#[.int .i64 (pl:Int),.bool t.r.num.neg,.slice t.r.num.A t.r.num.k t.r.num.c,.bool t.r.den.neg,.slice t.r.den.A t.r.den.k t.r.den.c]⟩] (fun V=>(Blk V (w.heap.size) 27 #[.slice p.Av p.vars.length p.cv,.slice p.Ar p.rows.length p.cr,.slice p.Ak p.cost.length p.ck]∧LsR 9 zap (vaD N) p.Av p.vars V∧LsR 5 tecells (teD N) A ts V∧Tz V)∧RatN r (zaX p.vars (ts.take i)) V∧RatN s (zaZ p.vars (ts.take i)) V) (fun V=>RatN b (t.q*v.hi.2) V∧RatN a (t.q*v.lo.2) V∧True) wx))
   case first=>
    clear c
    refine znp [(0,some 36,[],.pu (.pointer (some ⟨gt,1,none⟩))),(1,some 37,[0],.pu (.agg #[.bool t.r.num.neg,.slice t.r.num.A t.r.num.k t.r.num.c,.bool t.r.den.neg,.slice t.r.den.A t.r.den.k t.r.den.c])),(2,some 38,[],.pu (.pointer (some ⟨gv,0,none⟩))),(3,some 39,[2],.pu (.agg #[.bool v.lo.1.num.neg,.slice v.lo.1.num.A v.lo.1.num.k v.lo.1.num.c,.bool v.lo.1.den.neg,.slice v.lo.1.den.A v.lo.1.den.k v.lo.1.den.c])),(4,some 40,[1,3],.ca (fun a:RV=>.agg #[.bool a.num.neg,.slice a.num.A a.num.k a.num.c,.bool a.den.neg,.slice a.den.A a.den.k a.den.c]) (fun a=>RatN a (t.q*v.lo.2))),(5,some 41,[],.pu (.pointer (some ⟨gt,1,none⟩))),(6,some 42,[5],.pu (.agg #[.bool t.r.num.neg,.slice t.r.num.A t.r.num.k t.r.num.c,.bool t.r.den.neg,.slice t.r.den.A t.r.den.k t.r.den.c])),(7,some 43,[],.pu (.pointer (some ⟨gv,4,none⟩))),(8,some 44,[7],.pu (.agg #[.bool v.hi.1.num.neg,.slice v.hi.1.num.A v.hi.1.num.k v.hi.1.num.c,.bool v.hi.1.den.neg,.slice v.hi.1.den.A v.hi.1.den.k v.hi.1.den.c])),(9,some 45,[6,8],.ca (fun b:RV=>.agg #[.bool b.num.neg,.slice b.num.A b.num.k b.num.c,.bool b.den.neg,.slice b.den.A b.den.k b.den.c]) (fun b=>RatN b (t.q*v.hi.2))),(10,some 11,[],.bx 48 #[.bool false,.slice none 0 0,.bool false,.slice none 0 0]),(11,some 12,[],.bx 48 #[.bool false,.slice none 0 0,.bool false,.slice none 0 0])] 2 _ HE.out (by kernel_rfl) (by kernel_rfl) rfl rfl ?_ ?_
    ·refine armD (armD (armD (armD (armC rfl ?_ (armD (armD (armD (armD (armC rfl ?_ (armD (armD trivial)))))))))))
     ·intro u ao W ea HE K hK
      simp only[Act.put,List.setIfInBounds_toArray,List.set_cons_zero,List.set_cons_succ]at ea
      subst ea
      refine⟨?_⟩
      rw[if_pos (by rfl)]
      simp only[q1,q2,q3]
      go_simp
      refine(zaN _ t.r v.lo.1 t.q v.lo.2 N (by omega) h1N (HE.out.o.1.2.2.1.ok t Hmt.out) (HE.out.o.1.2.1.ok v Hmv.out).1 HE.out.o.1.2.2.2).mono ?_
      rintro e wq ⟨a,rfl,hk,hb⟩
      (try(go_wp2_with fail))
      exact hK.out _ _ _ rfl hb ⟨a,rfl,hk.ltX⟩
     ·intro u ao W ea HE K hK
      simp only[Act.put,List.setIfInBounds_toArray,List.set_cons_zero,List.set_cons_succ]at ea
      subst ea
      refine⟨?_⟩
      rw[if_pos (by rfl)]
      simp only[q1,q2,q3]
      go_simp
      refine(zaN _ t.r v.hi.1 t.q v.hi.2 N (by omega) h1N (HE.out.o.1.2.2.1.ok t Hmt.out) (HE.out.o.1.2.1.ok v Hmv.out).2 HE.out.o.1.2.2.2).mono ?_
      rintro e wq ⟨b,rfl,hk,hb⟩
      (try(go_wp2_with fail))
      exact hK.out _ _ _ rfl hb ⟨b,rfl,hk.ltX⟩
    ·intro u a b g11 g12 ao W ea HE
     simp only[Act.put,List.setIfInBounds_toArray,List.set_cons_zero,List.set_cons_succ]at ea
     subst ea
     refine znw 12 rfl (by kernel_rfl) (fun K hK=>?_)
     rw[if_pos (by rfl)]
     try simp only[p1,p2,p3,p4]
     simp only[q1,q2,q3]
     have cc9:=Env.cs HE.out
     simp only[CBs]at cc9
     have dd:=Env.d4 HE.out
     go_simp
     (try(go_wp2_with fail))
     replace HE:=znd (Env.put4_1 HE.out (.bool a.num.neg) (.slice a.num.A a.num.k a.num.c) (.bool a.den.neg) (.slice a.den.A a.den.k a.den.c))
     refine hK.out _ _ ?_
     clear hK K cc9
     refine znw 13 rfl (by kernel_rfl) (fun K hK=>?_)
     rw[if_pos (by rfl)]
     try simp only[p1,p2,p3,p4]
     simp only[q1,q2,q3]
     have cc9:=Env.cs HE.out
     simp only[CBs]at cc9
     have dd:=Env.d4 HE.out
     go_simp
     (try(go_wp2_with fail))
     replace HE:=znd (Env.put4 HE.out (.bool b.num.neg) (.slice b.num.A b.num.k b.num.c) (.bool b.den.neg) (.slice b.den.A b.den.k b.den.c))
     refine hK.out _ _ ?_
     clear hK K cc9
     refine znE (by kernel_rfl) ?_
     try simp only[p1,p2,p3,p4]
     go_wp2_with fail
     go_meet
     exact⟨g11,g12,a,b,rfl,rfl,HE⟩
   case rest=>
    clear HE c
    obtain⟨g11,g12,a,b,rfl,rfl,HE⟩:=hcut
    have HG2:=znd (show GL w [bow (w.heap.size+1+1+1+1) 48 4 #[.bool s.num.neg,.slice s.num.A s.num.k s.num.c,.bool s.den.neg,.slice s.den.A s.den.k s.den.c],bow (w.heap.size+1+1+1) 48 4 #[.bool r.num.neg,.slice r.num.A r.num.k r.num.c,.bool r.den.neg,.slice r.den.A r.den.k r.den.c],bow (w.heap.size+1+1) 48 4 #[.bool false,.slice none 0 0,.bool false,.slice none 0 0],bow (w.heap.size+1) 48 4 #[.bool false,.slice none 0 0,.bool false,.slice none 0 0]] (fun V=>Blk V (w.heap.size) 27 #[.slice p.Av p.vars.length p.cv,.slice p.Ar p.rows.length p.cr,.slice p.Ak p.cost.length p.ck]∧LsR 9 zap (vaD N) p.Av p.vars V∧LsR 5 tecells (teD N) A ts V∧Tz V) (fun V=>Blk V g11 48 #[.bool a.num.neg,.slice a.num.A a.num.k a.num.c,.bool a.den.neg,.slice a.den.A a.den.k a.den.c]∧Blk V g12 48 #[.bool b.num.neg,.slice b.num.A b.num.k b.num.c,.bool b.den.neg,.slice b.den.A b.den.k b.den.c]∧RatN a (t.q*v.lo.2) V∧RatN b (t.q*v.hi.2) V∧RatN r (zaX p.vars (ts.take i)) V∧RatN s (zaZ p.vars (ts.take i)) V) _ from(HG.out.keep HE.out.made HE.out.bel).imp (fun V h=>h) (fun V h=>⟨h.1.1 ⟨g11,48,#[.bool a.num.neg,.slice a.num.A a.num.k a.num.c,.bool a.den.neg,.slice a.den.A a.den.k a.den.c]⟩ (by simp),h.1.1 ⟨g12,48,#[.bool b.num.neg,.slice b.num.A b.num.k b.num.c,.bool b.den.neg,.slice b.den.A b.den.k b.den.c]⟩ (by simp),h.1.2.2.1,h.1.2.1,h.2⟩))
    clear HE HG
    have HZ1:=znd (show Sz (t.q*v.lo.2) (2*N+1)from((Hst.out t Hmt.out).mul (Hsv.out v Hmv.out).1).up (by omega))
    have HZ2:=znd (show Sz (t.q*v.hi.2) (2*N+1)from((Hst.out t Hmt.out).mul (Hsv.out v Hmv.out).2).up (by omega))
    have hbd:1+i*(2*N+2)≤300000000000:=by have:=Nat.mul_le_mul (show i≤1000 by omega) (show 2*N+2≤20000002 by omega);omega
    go_upto_region 8 with fail
    refine wp_region_noPanic ?_
    refine zab 5 (fun W=>CB (w.heap.size+1+1+1) #[.bool r.num.neg,.slice r.num.A r.num.k r.num.c,.bool r.den.neg,.slice r.den.A r.den.k r.den.c] W∧CB g11 #[.bool a.num.neg,.slice a.num.A a.num.k a.num.c,.bool a.den.neg,.slice a.den.A a.den.k a.den.c] W∧CB g12 #[.bool b.num.neg,.slice b.num.A b.num.k b.num.c,.bool b.den.neg,.slice b.den.A b.den.k b.den.c] W) (by kernel_rfl) (by with_reducible first|exact⟨HG2.out.cb (k:=1) rfl,Blk.cb HG2.out.n.1,Blk.cb HG2.out.n.2.1⟩|exact⟨HG2.out.drew.cb (k:=1) rfl,Blk.cb HG2.out.drew.n.1,Blk.cb HG2.out.drew.n.2.1⟩|exact⟨HG2.out.cb (k:=1) rfl,Blk.cb HG2.out.n.2.1,Blk.cb HG2.out.n.2.2.1⟩|exact⟨HG2.out.drew.cb (k:=1) rfl,Blk.cb HG2.out.drew.n.2.1,Blk.cb HG2.out.drew.n.2.2.1⟩|exact⟨HG2.out.cb (k:=1) rfl,Blk.cb HG2.out.n.2.2.1,Blk.cb HG2.out.n.2.2.2.1⟩|exact⟨HG2.out.drew.cb (k:=1) rfl,Blk.cb HG2.out.drew.n.2.2.1,Blk.cb HG2.out.drew.n.2.2.2.1⟩) (fun hHeld=>?_)
    replace HG2:=znd HG2.out.drew
    refine gTa 0 46 hHeld ?_
    refine gTa 1 47 hHeld ?_
    refine gTa 2 48 hHeld ?_
    refine gC 3 rfl (by kernel_rfl) (by rfl) (fun K hK=>?_)
    clear hHeld
    simp only[q1,q2,q3]
    go_simp
    refine(zgS _ a b (t.q*v.lo.2) (t.q*v.hi.2) (2*N+1) (by omega) (by omega) (RatN.rat HG2.out.n.2.2.1 HZ1.out) (RatN.rat HG2.out.n.2.2.2.1 HZ2.out) HG2.out.o.2.2.2).mono ?_
    rintro e wq ⟨k,rfl,hk,hb⟩
    replace HG2:=znd (HG2.out.call hk hb)
    clear hk hb
    (try(go_wp2_with fail))
    refine hK.out _ _ (by with_reducible first|exact⟨HG2.out.cb (k:=1) rfl,Blk.cb HG2.out.n.1,Blk.cb HG2.out.n.2.1⟩|exact⟨HG2.out.drew.cb (k:=1) rfl,Blk.cb HG2.out.drew.n.1,Blk.cb HG2.out.drew.n.2.1⟩|exact⟨HG2.out.cb (k:=1) rfl,Blk.cb HG2.out.n.2.1,Blk.cb HG2.out.n.2.2.1⟩|exact⟨HG2.out.drew.cb (k:=1) rfl,Blk.cb HG2.out.drew.n.2.1,Blk.cb HG2.out.drew.n.2.2.1⟩|exact⟨HG2.out.cb (k:=1) rfl,Blk.cb HG2.out.n.2.2.1,Blk.cb HG2.out.n.2.2.2.1⟩|exact⟨HG2.out.drew.cb (k:=1) rfl,Blk.cb HG2.out.drew.n.2.2.1,Blk.cb HG2.out.drew.n.2.2.2.1⟩) (fun hHeld=>?_)
    clear hK K
    try simp only[p1,p2,p3,p4]
    refine gC 4 rfl (by kernel_rfl) (by rfl) (fun K hK=>?_)
    clear hHeld
    simp only[q1,q2,q3]
    go_simp
    refine(zbL _ r k (zaX p.vars (ts.take i)) (minQ (t.q*v.lo.2) (t.q*v.hi.2)) (2*N+1+(1+i*(2*N+2))) (by omega) (by omega) ((RatN.rat HG2.out.n.2.2.2.2.2.1 HZ.out.1).mono (by omega)) ((RatN.rat HG2.out.n.1 (HZ1.out.min9 HZ2.out)).mono (by omega)) HG2.out.o.2.2.2).mono ?_
    rintro e wq ⟨m,rfl,hk,hb⟩
    replace HG2:=znd (HG2.out.call hk hb)
    clear hk hb
    (try(go_wp2_with fail))
    refine hK.out _ _ (by with_reducible first|exact⟨HG2.out.cb (k:=1) rfl,Blk.cb HG2.out.n.1,Blk.cb HG2.out.n.2.1⟩|exact⟨HG2.out.drew.cb (k:=1) rfl,Blk.cb HG2.out.drew.n.1,Blk.cb HG2.out.drew.n.2.1⟩|exact⟨HG2.out.cb (k:=1) rfl,Blk.cb HG2.out.n.2.1,Blk.cb HG2.out.n.2.2.1⟩|exact⟨HG2.out.drew.cb (k:=1) rfl,Blk.cb HG2.out.drew.n.2.1,Blk.cb HG2.out.drew.n.2.2.1⟩|exact⟨HG2.out.cb (k:=1) rfl,Blk.cb HG2.out.n.2.2.1,Blk.cb HG2.out.n.2.2.2.1⟩|exact⟨HG2.out.drew.cb (k:=1) rfl,Blk.cb HG2.out.drew.n.2.2.1,Blk.cb HG2.out.drew.n.2.2.2.1⟩) (fun hHeld=>?_)
    clear hK K
    try simp only[p1,p2,p3,p4]
    have c0:=HG2.out.cb (k:=1) rfl
    refine gL rfl (by kernel_rfl) (by kernel_rfl) (by rfl) (fun K hK=>?_)
    clear hHeld
    simp only[q1,q2,q3]
    go_simp
    (try(go_wp2_with fail))
    refine hK.out _ _ ?_
    clear hK K
    try simp only[p1,p2,p3,p4]
    refine NoPanic.normal ?_
    clear c0
    have HZ3:=znd (show Sz (zaX p.vars (ts.take (i+1))) (1+(i+1)*(2*N+2))from by rw[HLn.out];exact(HZ.out.1.add (HZ1.out.min9 HZ2.out)).up (by rw[Nat.add_mul];omega))
    replace HG2:=znd (show GL w [bow (w.heap.size+1+1+1+1) 48 4 #[.bool s.num.neg,.slice s.num.A s.num.k s.num.c,.bool s.den.neg,.slice s.den.A s.den.k s.den.c],bow (w.heap.size+1+1+1) 48 4 #[.bool m.num.neg,.slice m.num.A m.num.k m.num.c,.bool m.den.neg,.slice m.den.A m.den.k m.den.c],bow (w.heap.size+1+1) 48 4 #[.bool false,.slice none 0 0,.bool false,.slice none 0 0],bow (w.heap.size+1) 48 4 #[.bool false,.slice none 0 0,.bool false,.slice none 0 0]] (fun V=>Blk V (w.heap.size) 27 #[.slice p.Av p.vars.length p.cv,.slice p.Ar p.rows.length p.cr,.slice p.Ak p.cost.length p.ck]∧LsR 9 zap (vaD N) p.Av p.vars V∧LsR 5 tecells (teD N) A ts V∧Tz V) (fun V=>Blk V g11 48 #[.bool a.num.neg,.slice a.num.A a.num.k a.num.c,.bool a.den.neg,.slice a.den.A a.den.k a.den.c]∧Blk V g12 48 #[.bool b.num.neg,.slice b.num.A b.num.k b.num.c,.bool b.den.neg,.slice b.den.A b.den.k b.den.c]∧RatN a (t.q*v.lo.2) V∧RatN b (t.q*v.hi.2) V∧RatN m (zaX p.vars (ts.take (i+1))) V∧RatN s (zaZ p.vars (ts.take i)) V) _ from(HG2.out.put4 (k:=1) rfl (.bool m.num.neg) (.slice m.num.A m.num.k m.num.c) (.bool m.den.neg) (.slice m.den.A m.den.k m.den.c)).imp (fun V h=>h) (fun V h=>⟨h.2.2.1,h.2.2.2.1,h.2.2.2.2.1,h.2.2.2.2.2.1,by rw[HLn.out];exact h.1,h.2.2.2.2.2.2.2⟩))
    go_upto_region 9 with fail
    refine wp_region_noPanic ?_
    refine zab 5 (fun W=>CB (w.heap.size+1+1+1+1) #[.bool s.num.neg,.slice s.num.A s.num.k s.num.c,.bool s.den.neg,.slice s.den.A s.den.k s.den.c] W∧CB g11 #[.bool a.num.neg,.slice a.num.A a.num.k a.num.c,.bool a.den.neg,.slice a.den.A a.den.k a.den.c] W∧CB g12 #[.bool b.num.neg,.slice b.num.A b.num.k b.num.c,.bool b.den.neg,.slice b.den.A b.den.k b.den.c] W) (by kernel_rfl) (by with_reducible first|exact⟨HG2.out.cb (k:=0) rfl,Blk.cb HG2.out.n.1,Blk.cb HG2.out.n.2.1⟩|exact⟨HG2.out.drew.cb (k:=0) rfl,Blk.cb HG2.out.drew.n.1,Blk.cb HG2.out.drew.n.2.1⟩|exact⟨HG2.out.cb (k:=0) rfl,Blk.cb HG2.out.n.2.1,Blk.cb HG2.out.n.2.2.1⟩|exact⟨HG2.out.drew.cb (k:=0) rfl,Blk.cb HG2.out.drew.n.2.1,Blk.cb HG2.out.drew.n.2.2.1⟩|exact⟨HG2.out.cb (k:=0) rfl,Blk.cb HG2.out.n.2.2.1,Blk.cb HG2.out.n.2.2.2.1⟩|exact⟨HG2.out.drew.cb (k:=0) rfl,Blk.cb HG2.out.drew.n.2.2.1,Blk.cb HG2.out.drew.n.2.2.2.1⟩) (fun hHeld=>?_)
    replace HG2:=znd HG2.out.drew
    refine gTa 0 51 hHeld ?_
    refine gTa 1 52 hHeld ?_
    refine gTa 2 53 hHeld ?_
    refine gC 3 rfl (by kernel_rfl) (by rfl) (fun K hK=>?_)
    clear hHeld
    simp only[q1,q2,q3]
    go_simp
    refine(zgZ _ a b (t.q*v.lo.2) (t.q*v.hi.2) (2*N+1) (by omega) (by omega) (RatN.rat HG2.out.n.2.2.1 HZ1.out) (RatN.rat HG2.out.n.2.2.2.1 HZ2.out) HG2.out.o.2.2.2).mono ?_
    rintro e wq ⟨k,rfl,hk,hb⟩
    replace HG2:=znd (HG2.out.call hk hb)
    clear hk hb
    (try(go_wp2_with fail))
    refine hK.out _ _ (by with_reducible first|exact⟨HG2.out.cb (k:=0) rfl,Blk.cb HG2.out.n.1,Blk.cb HG2.out.n.2.1⟩|exact⟨HG2.out.drew.cb (k:=0) rfl,Blk.cb HG2.out.drew.n.1,Blk.cb HG2.out.drew.n.2.1⟩|exact⟨HG2.out.cb (k:=0) rfl,Blk.cb HG2.out.n.2.1,Blk.cb HG2.out.n.2.2.1⟩|exact⟨HG2.out.drew.cb (k:=0) rfl,Blk.cb HG2.out.drew.n.2.1,Blk.cb HG2.out.drew.n.2.2.1⟩|exact⟨HG2.out.cb (k:=0) rfl,Blk.cb HG2.out.n.2.2.1,Blk.cb HG2.out.n.2.2.2.1⟩|exact⟨HG2.out.drew.cb (k:=0) rfl,Blk.cb HG2.out.drew.n.2.2.1,Blk.cb HG2.out.drew.n.2.2.2.1⟩) (fun hHeld=>?_)
    clear hK K
    try simp only[p1,p2,p3,p4]
    refine gC 4 rfl (by kernel_rfl) (by rfl) (fun K hK=>?_)
    clear hHeld
    simp only[q1,q2,q3]
    go_simp
    refine(zbL _ s k (zaZ p.vars (ts.take i)) (maxQ (t.q*v.lo.2) (t.q*v.hi.2)) (2*N+1+(1+i*(2*N+2))) (by omega) (by omega) ((RatN.rat HG2.out.n.2.2.2.2.2.2 HZ.out.2).mono (by omega)) ((RatN.rat HG2.out.n.1 (HZ1.out.max9 HZ2.out)).mono (by omega)) HG2.out.o.2.2.2).mono ?_
    rintro e wq ⟨m2,rfl,hk,hb⟩
    replace HG2:=znd (HG2.out.call hk hb)
    clear hk hb
    (try(go_wp2_with fail))
    refine hK.out _ _ (by with_reducible first|exact⟨HG2.out.cb (k:=0) rfl,Blk.cb HG2.out.n.1,Blk.cb HG2.out.n.2.1⟩|exact⟨HG2.out.drew.cb (k:=0) rfl,Blk.cb HG2.out.drew.n.1,Blk.cb HG2.out.drew.n.2.1⟩|exact⟨HG2.out.cb (k:=0) rfl,Blk.cb HG2.out.n.2.1,Blk.cb HG2.out.n.2.2.1⟩|exact⟨HG2.out.drew.cb (k:=0) rfl,Blk.cb HG2.out.drew.n.2.1,Blk.cb HG2.out.drew.n.2.2.1⟩|exact⟨HG2.out.cb (k:=0) rfl,Blk.cb HG2.out.n.2.2.1,Blk.cb HG2.out.n.2.2.2.1⟩|exact⟨HG2.out.drew.cb (k:=0) rfl,Blk.cb HG2.out.drew.n.2.2.1,Blk.cb HG2.out.drew.n.2.2.2.1⟩) (fun hHeld=>?_)
    clear hK K
    try simp only[p1,p2,p3,p4]
    have c0:=HG2.out.cb (k:=0) rfl
    refine gL rfl (by kernel_rfl) (by kernel_rfl) (by rfl) (fun K hK=>?_)
    clear hHeld
    simp only[q1,q2,q3]
    go_simp
    (try(go_wp2_with fail))
    refine hK.out _ _ ?_
    clear hK K
    try simp only[p1,p2,p3,p4]
    refine NoPanic.normal ?_
    clear c0
    have HZ4:=znd (show Sz (zaZ p.vars (ts.take (i+1))) (1+(i+1)*(2*N+2))from by rw[HGn.out];exact(HZ.out.2.add (HZ1.out.max9 HZ2.out)).up (by rw[Nat.add_mul];omega))
    replace HG2:=znd (HG2.out.put4 (k:=0) rfl (.bool m2.num.neg) (.slice m2.num.A m2.num.k m2.num.c) (.bool m2.den.neg) (.slice m2.den.A m2.den.k m2.den.c))
    go_wp2_with fail
    go_roundw
    case rel=>exact⟨i+1,m,m2,by go_num,by omega,znd ⟨HZ3.out,HZ4.out⟩,znd (HG2.out.imp (fun V h=>h) (fun V h=>⟨h.2.2.2.2.2.2.1,by rw[HGn.out];exact h.1⟩))⟩
    case measure=>(simp[intOf]<;>omega)
  ·obtain rfl:i=ts.length:=by omega
   go_upto_region 11 with fail
   refine wp_region_noPanic ?_
   refine zab 3 (fun W=>CB (w.heap.size+1+1+1) #[.bool r.num.neg,.slice r.num.A r.num.k r.num.c,.bool r.den.neg,.slice r.den.A r.den.k r.den.c] W∧CB (w.heap.size+1+1+1+1) #[.bool s.num.neg,.slice s.num.A s.num.k s.num.c,.bool s.den.neg,.slice s.den.A s.den.k s.den.c] W) (by kernel_rfl) (by with_reducible first|exact⟨HG.out.cb (k:=1) rfl,HG.out.cb (k:=0) rfl⟩|exact⟨HG.out.drew.cb (k:=1) rfl,HG.out.drew.cb (k:=0) rfl⟩) (fun hHeld=>?_)
   replace HG:=znd HG.out.drew
   obtain⟨Wd,hWd⟩:∃Wd,Wd=wr.drew:=⟨_,rfl⟩
   rw[←hWd]at HG hHeld⊢
   clear hWd
   refine gTa 0 57 hHeld ?_
   refine gTa 1 58 hHeld ?_
   have c0:=HG.out.cb (k:=3) rfl
   refine gC 2 rfl (by kernel_rfl) (by rfl) (fun K hK=>?_)
   clear hHeld
   simp only[q1,q2,q3]
   go_simp
   (try(go_wp2_with fail))
   replace HG:=znd (HG.out.put4 (k:=3) rfl (.bool r.num.neg) (.slice r.num.A r.num.k r.num.c) (.bool r.den.neg) (.slice r.den.A r.den.k r.den.c))
   refine hK.out _ _ (by with_reducible first|exact⟨HG.out.cb (k:=1) rfl,HG.out.cb (k:=0) rfl⟩|exact⟨HG.out.drew.cb (k:=1) rfl,HG.out.drew.cb (k:=0) rfl⟩) (fun hHeld=>?_)
   clear c0
   clear hK K
   try simp only[p1,p2,p3,p4]
   have c0:=HG.out.cb (k:=2) rfl
   refine gL rfl (by kernel_rfl) (by kernel_rfl) (by rfl) (fun K hK=>?_)
   clear hHeld
   simp only[q1,q2,q3]
   go_simp
   (try(go_wp2_with fail))
   refine hK.out _ _ ?_
   clear hK K
   try simp only[p1,p2,p3,p4]
   refine NoPanic.normal ?_
   clear c0
   replace HG:=znd (HG.out.put4 (k:=2) rfl (.bool s.num.neg) (.slice s.num.A s.num.k s.num.c) (.bool s.den.neg) (.slice s.den.A s.den.k s.den.c))
   have c4:=HG.out.cb (k:=3) rfl
   have c5:=HG.out.cb (k:=2) rfl
   go_wp2_with fail
   exact bodyPost_ret (v:=.tuple #[.agg #[.bool r.num.neg,.slice r.num.A r.num.k r.num.c,.bool r.den.neg,.slice r.den.A r.den.k r.den.c],.agg #[.bool s.num.neg,.slice s.num.A s.num.k s.num.c,.bool s.den.neg,.slice s.den.A s.den.k s.den.c]]) (by simp[results,Tryz.results68,go_sem,c4,c5]) rfl ⟨r,s,rfl,(HG.out.rsn.mono fun _ h=>h.1).imp (fun V h=>by have:=h;rw[List.take_length]at this;exact this),HG.out.bel⟩

theorem zlA {vs:List VaV} {ts:List TeV} {N:Nat} (h1:∀t∈ts,Sz t.q N) (h2:∀t∈ts,Sz (vs[t.pl.toNat]!).lo.2 N∧Sz (vs[t.pl.toNat]!).hi.2 N):Sz (zaX vs ts) (1+ts.length*(2*N+2))∧Sz (zaZ vs ts) (1+ts.length*(2*N+2)):=by
 induction ts with
 |nil=>exact⟨zaM.up (by omega),zaM.up (by omega)⟩
 |cons t ts ih=>
  have h3:=ih (fun x hx=>h1 x (List.mem_cons_of_mem _ hx)) (fun x hx=>h2 x (List.mem_cons_of_mem _ hx))
  have h4:=h2 t (List.mem_cons_self ..)
  have a:=((h1 t (List.mem_cons_self ..)).mul h4.1).up (show N+N+1≤2*N+1 by omega)
  have b:=((h1 t (List.mem_cons_self ..)).mul h4.2).up (show N+N+1≤2*N+1 by omega)
  unfold zaX zaZ at h3⊢
  rw[List.map_cons,List.sum_cons,List.map_cons,List.sum_cons,List.length_cons,Nat.add_mul]
  exact⟨((a.min9 b).add h3.1).up (by omega),((a.max9 b).add h3.2).up (by omega)⟩
set_option maxRecDepth 100000 in
theorem zlY (w:World) (N:Nat) (hN:N≤10000000) (h1N:1≤N) (p:PrV) (h:LsR 9 zap (vaD N) p.Av p.vars w) (r:RoV) (hr:rwD N r w) (hrg:∀t∈r.ts,0≤t.pl∧t.pl<(p.vars.length:Int)) (hl:r.ts.length≤1000) (hT:Tz w) (hk:r.kind=1):
 Calls Tryz.prog 26 #[.agg #[.slice p.Av p.vars.length p.cv,.slice p.Ar p.rows.length p.cr,.slice p.Ak p.cost.length p.ck],.agg #[.slice r.A r.ts.length r.c,.int .u8 r.kind,.bool r.b.1.num.neg,.slice r.b.1.num.A r.b.1.num.k r.b.1.num.c,.bool r.b.1.den.neg,.slice r.b.1.den.A r.b.1.den.k r.b.1.den.c]] w (zi5 (zb7 p.vars r) (zb9 p.vars r) w):=by
 have e1:(r.kind==1)=true:=by simp[hk]
 have Hk:=znd hk
 have HZ:=znd (zlA (vs:=p.vars) (ts:=r.ts) (N:=N) (fun t ht=>RatD.sz (hr.1.ok t ht) h1N) (fun t ht=>by
  obtain⟨a,b⟩:=hrg t ht
  have hj:t.pl.toNat<p.vars.length:=by omega
  rw[zb0 hj]
  have:=h.ok _ (List.getElem_mem hj)
  exact⟨RatD.sz this.1 h1N,RatD.sz this.2 h1N⟩))
 clear hk
 obtain⟨W0,hW0⟩:∃W0,W0=(((((w.alloc (.cells #[.slice p.Av p.vars.length p.cv,.slice p.Ar p.rows.length p.cr,.slice p.Ak p.cost.length p.ck] 27)).alloc (.cells #[.slice r.A r.ts.length r.c,.int .u8 r.kind,.bool r.b.1.num.neg,.slice r.b.1.num.A r.b.1.num.k r.b.1.num.c,.bool r.b.1.den.neg,.slice r.b.1.den.A r.b.1.den.k r.b.1.den.c] 68)).alloc (.cells #[.bool false,.slice none 0 0,.bool false,.slice none 0 0] 48)).alloc (.cells #[.bool false,.slice none 0 0,.bool false,.slice none 0 0] 48)).alloc (.cells #[.bool false,.slice none 0 0,.bool false,.slice none 0 0] 48)):=⟨_,rfl⟩
 have HE:=znd (Env.lay5 (Env.start (((h.old zct)).and (((zbR r w hr)).and (hT.old)))) hW0)
 subst hW0
 have c:=Env.c5 HE.out
 have dd:=Env.d5 HE.out
 clear h hr hT dd
 go_enter Tryz.func26,Tryz.ntmps26
 go_wp2_with fail
 refine(zeN _ N hN h1N p HE.out.o.1 r.A r.c r.ts HE.out.o.2.1.1 hrg hl HE.out.o.2.2).mono ?_
 rintro e w1 ⟨a,b,rfl,hk,hb⟩
 replace HE:=znd (Env.ret HE.out hk hb)
 clear hk hb c
 go_upto_region 3 with fail
 obtain⟨W2,g7,hW2,hg7,HE⟩:=Env.al HE.out 48 #[.bool a.num.neg,.slice a.num.A a.num.k a.num.c,.bool a.den.neg,.slice a.den.A a.den.k a.den.c]
 rw[hW2,hg7]
 have hs2:W2.heap.size=g7+1:=by rw[←hW2,←hg7];simp
 clear hW2 hg7
 obtain⟨W3,g8,hW3,hg8,HE⟩:=Env.al HE.out 48 #[.bool b.num.neg,.slice b.num.A b.num.k b.num.c,.bool b.den.neg,.slice b.den.A b.den.k b.den.c]
 rw[hs2]at hg8
 rw[hW3,hg8]
 clear hW3 hg8 hs2
 have hbd:r.ts.length*(2*N+2)≤30000000000:=by have:=Nat.mul_le_mul hl (show 2*N+2≤20000002 by omega);omega
 have c:=Env.c7 HE.out
 go_upto_region 5 with fail
 clear c
 refine wp_region_noPanic ?_
 refine zab 8 (fun W=>CB (g7) #[.bool a.num.neg,.slice a.num.A a.num.k a.num.c,.bool a.den.neg,.slice a.den.A a.den.k a.den.c] W∧CB (w.heap.size+1+1+1+1) #[.bool false,.slice none 0 0,.bool false,.slice none 0 0] W∧CB (w.heap.size+1) #[.slice r.A r.ts.length r.c,.int .u8 r.kind,.bool r.b.1.num.neg,.slice r.b.1.num.A r.b.1.num.k r.b.1.num.c,.bool r.b.1.den.neg,.slice r.b.1.den.A r.b.1.den.k r.b.1.den.c] W) (by kernel_rfl) (by with_reducible first|exact⟨(Env.c7 HE.out).2.1,(Env.c7 HE.out).2.2.1,(Env.c7 HE.out).2.2.2.2.2.1⟩|exact⟨(Env.c7 HE.out.drew).2.1,(Env.c7 HE.out.drew).2.2.1,(Env.c7 HE.out.drew).2.2.2.2.2.1⟩) (fun hHeld=>?_)
 replace HE:=znd HE.out.drew
 refine gTa 0 20 hHeld ?_
 refine gTa 1 21 hHeld ?_
 refine gTa 2 22 hHeld ?_
 refine gTa 3 23 hHeld ?_
 refine gTa 5 25 hHeld ?_
 refine gC 4 rfl (by kernel_rfl) (by rfl) (fun K hK=>?_)
 clear hHeld
 simp only[q1,q2,q3]
 go_simp
 refine(zd0 _ r.b.1 a r.b.2 (zaX p.vars r.ts) (N+(1+r.ts.length*(2*N+2))) (by omega) (by omega) (HE.out.o.2.1.2.mono (by omega)) ((RatN.rat HE.out.n.1.1 HZ.out.1).mono (by omega)) HE.out.o.2.2).mono ?_
 rintro e wq ⟨k,rfl,hk,hb⟩
 replace HE:=znd (Env.ret HE.out hk hb)
 clear hk hb
 (try(go_wp2_with fail))
 refine hK.out _ _ (by with_reducible first|exact⟨(Env.c7 HE.out).2.1,(Env.c7 HE.out).2.2.1,(Env.c7 HE.out).2.2.2.2.2.1⟩|exact⟨(Env.c7 HE.out.drew).2.1,(Env.c7 HE.out.drew).2.2.1,(Env.c7 HE.out.drew).2.2.2.2.2.1⟩) (fun hHeld=>?_)
 clear hK K
 try simp only[p1,p2,p3,p4]
 refine gC 6 rfl (by kernel_rfl) (by rfl) (fun K hK=>?_)
 clear hHeld
 simp only[q1,q2,q3]
 go_simp
 refine(zgZ _ k zeroR (r.b.2-zaX p.vars r.ts) 0 (N+(1+r.ts.length*(2*N+2))+1) (by omega) (by omega) (RatN.rat HE.out.n.1 (((RatD.sz HE.out.o.2.1.2 h1N).sub HZ.out.1).up (by omega))) (RatN.rat (zbc _) (zaM.up (by omega))) HE.out.o.2.2).mono ?_
 rintro e wq ⟨m,rfl,hk,hb⟩
 replace HE:=znd (Env.ret HE.out hk hb)
 clear hk hb
 (try(go_wp2_with fail))
 refine hK.out _ _ (by with_reducible first|exact⟨(Env.c7 HE.out).2.1,(Env.c7 HE.out).2.2.1,(Env.c7 HE.out).2.2.2.2.2.1⟩|exact⟨(Env.c7 HE.out.drew).2.1,(Env.c7 HE.out.drew).2.2.1,(Env.c7 HE.out.drew).2.2.2.2.2.1⟩) (fun hHeld=>?_)
 clear hK K
 try simp only[p1,p2,p3,p4]
 have c:=Env.c7 HE.out
 refine gC 7 rfl (by kernel_rfl) (by rfl) (fun K hK=>?_)
 clear hHeld
 simp only[q1,q2,q3]
 go_simp
 (try(go_wp2_with fail))
 replace HE:=znd (Env.put4_4 HE.out (.bool false) (.slice none 0 0) (.bool false) (.slice none 0 0))
 refine hK.out _ _ (by with_reducible first|exact⟨(Env.c7 HE.out).2.1,(Env.c7 HE.out).2.2.1,(Env.c7 HE.out).2.2.2.2.2.1⟩|exact⟨(Env.c7 HE.out.drew).2.1,(Env.c7 HE.out.drew).2.2.1,(Env.c7 HE.out.drew).2.2.2.2.2.1⟩) (fun hHeld=>?_)
 clear c
 clear hK K
 try simp only[p1,p2,p3,p4]
 have c:=Env.c7 HE.out
 refine gL rfl (by kernel_rfl) (by kernel_rfl) (by rfl) (fun K hK=>?_)
 clear hHeld
 simp only[q1,q2,q3]
 go_simp
 (try(go_wp2_with fail))
 refine hK.out _ _ ?_
 clear hK K
 try simp only[p1,p2,p3,p4]
 refine NoPanic.normal ?_
 clear c
 replace HE:=znd (Env.put4_3 HE.out (.bool m.num.neg) (.slice m.num.A m.num.k m.num.c) (.bool m.den.neg) (.slice m.den.A m.den.k m.den.c))
 have c:=Env.c7 HE.out
 go_wp2_with fail
 exact bodyPost_ret (v:=.tuple #[.agg #[.bool false,.slice none 0 0,.bool false,.slice none 0 0],.agg #[.bool m.num.neg,.slice m.num.A m.num.k m.num.c,.bool m.den.neg,.slice m.den.A m.den.k m.den.c]]) (by simp[results,Tryz.results26,go_sem,c]) rfl ⟨zeroR,m,rfl,(HE.out.rsn.mono fun _ h=>h.1).imp (fun V h=>⟨by unfold zb7;rw[if_neg (by have:=Hk.out;omega)];exact zbc V,by unfold zb9;rw[if_pos Hk.out];exact h.1⟩),HE.out.bel⟩
set_option maxRecDepth 100000 in
theorem zm7 (w:World) (N:Nat) (hN:N≤10000000) (h1N:1≤N) (p:PrV) (h:LsR 9 zap (vaD N) p.Av p.vars w) (r:RoV) (hr:rwD N r w) (hrg:∀t∈r.ts,0≤t.pl∧t.pl<(p.vars.length:Int)) (hl:r.ts.length≤1000) (hT:Tz w) (hk:r.kind=2):
 Calls Tryz.prog 26 #[.agg #[.slice p.Av p.vars.length p.cv,.slice p.Ar p.rows.length p.cr,.slice p.Ak p.cost.length p.ck],.agg #[.slice r.A r.ts.length r.c,.int .u8 r.kind,.bool r.b.1.num.neg,.slice r.b.1.num.A r.b.1.num.k r.b.1.num.c,.bool r.b.1.den.neg,.slice r.b.1.den.A r.b.1.den.k r.b.1.den.c]] w (zi5 (zb7 p.vars r) (zb9 p.vars r) w):=by
 have e1:(r.kind==1)=false:=by simp[hk]
 have e3:(r.kind==3)=false:=by simp[hk]
 have Hk:=znd hk
 have HZ:=znd (zlA (vs:=p.vars) (ts:=r.ts) (N:=N) (fun t ht=>RatD.sz (hr.1.ok t ht) h1N) (fun t ht=>by
  obtain⟨a,b⟩:=hrg t ht
  have hj:t.pl.toNat<p.vars.length:=by omega
  rw[zb0 hj]
  have:=h.ok _ (List.getElem_mem hj)
  exact⟨RatD.sz this.1 h1N,RatD.sz this.2 h1N⟩))
 clear hk
 obtain⟨W0,hW0⟩:∃W0,W0=(((((w.alloc (.cells #[.slice p.Av p.vars.length p.cv,.slice p.Ar p.rows.length p.cr,.slice p.Ak p.cost.length p.ck] 27)).alloc (.cells #[.slice r.A r.ts.length r.c,.int .u8 r.kind,.bool r.b.1.num.neg,.slice r.b.1.num.A r.b.1.num.k r.b.1.num.c,.bool r.b.1.den.neg,.slice r.b.1.den.A r.b.1.den.k r.b.1.den.c] 68)).alloc (.cells #[.bool false,.slice none 0 0,.bool false,.slice none 0 0] 48)).alloc (.cells #[.bool false,.slice none 0 0,.bool false,.slice none 0 0] 48)).alloc (.cells #[.bool false,.slice none 0 0,.bool false,.slice none 0 0] 48)):=⟨_,rfl⟩
 have HE:=znd (Env.lay5 (Env.start (((h.old zct)).and (((zbR r w hr)).and (hT.old)))) hW0)
 subst hW0
 have c:=Env.c5 HE.out
 have dd:=Env.d5 HE.out
 clear h hr hT dd
 go_enter Tryz.func26,Tryz.ntmps26
 go_wp2_with fail
 refine(zeN _ N hN h1N p HE.out.o.1 r.A r.c r.ts HE.out.o.2.1.1 hrg hl HE.out.o.2.2).mono ?_
 rintro e w1 ⟨a,b,rfl,hk,hb⟩
 replace HE:=znd (Env.ret HE.out hk hb)
 clear hk hb c
 go_upto_region 3 with fail
 obtain⟨W2,g7,hW2,hg7,HE⟩:=Env.al HE.out 48 #[.bool a.num.neg,.slice a.num.A a.num.k a.num.c,.bool a.den.neg,.slice a.den.A a.den.k a.den.c]
 rw[hW2,hg7]
 have hs2:W2.heap.size=g7+1:=by rw[←hW2,←hg7];simp
 clear hW2 hg7
 obtain⟨W3,g8,hW3,hg8,HE⟩:=Env.al HE.out 48 #[.bool b.num.neg,.slice b.num.A b.num.k b.num.c,.bool b.den.neg,.slice b.den.A b.den.k b.den.c]
 rw[hs2]at hg8
 rw[hW3,hg8]
 clear hW3 hg8 hs2
 have hbd:r.ts.length*(2*N+2)≤30000000000:=by have:=Nat.mul_le_mul hl (show 2*N+2≤20000002 by omega);omega
 have c:=Env.c7 HE.out
 go_upto_region 8 with fail
 clear c
 refine wp_region_noPanic ?_
 refine zab 3 (fun W=>CB (w.heap.size+1+1+1+1) #[.bool false,.slice none 0 0,.bool false,.slice none 0 0] W) (by kernel_rfl) (by with_reducible first|exact((Env.c7 HE.out).2.2.1)|exact((Env.c7 HE.out.drew).2.2.1)) (fun hHeld=>?_)
 replace HE:=znd HE.out.drew
 obtain⟨Wd,hWd⟩:∃Wd,Wd=W3.drew:=⟨_,rfl⟩
 rw[←hWd]at HE hHeld⊢
 clear hWd
 refine gTa 0 36 hHeld ?_
 refine gTa 1 37 hHeld ?_
 have c:=Env.c7 HE.out
 refine gC 2 rfl (by kernel_rfl) (by rfl) (fun K hK=>?_)
 clear hHeld
 simp only[q1,q2,q3]
 go_simp
 (try(go_wp2_with fail))
 replace HE:=znd (Env.put4_4 HE.out (.bool false) (.slice none 0 0) (.bool false) (.slice none 0 0))
 refine hK.out _ _ (by with_reducible first|exact((Env.c7 HE.out).2.2.1)|exact((Env.c7 HE.out.drew).2.2.1)) (fun hHeld=>?_)
 clear c
 clear hK K
 try simp only[p1,p2,p3,p4]
 have c:=Env.c7 HE.out
 refine gL rfl (by kernel_rfl) (by kernel_rfl) (by rfl) (fun K hK=>?_)
 clear hHeld
 simp only[q1,q2,q3]
 go_simp
 (try(go_wp2_with fail))
 refine hK.out _ _ ?_
 clear hK K
 try simp only[p1,p2,p3,p4]
 refine NoPanic.normal ?_
 clear c
 replace HE:=znd (Env.put4_3 HE.out (.bool false) (.slice none 0 0) (.bool false) (.slice none 0 0))
 have c:=Env.c7 HE.out
 go_wp2_with fail
 exact bodyPost_ret (v:=.tuple #[.agg #[.bool false,.slice none 0 0,.bool false,.slice none 0 0],.agg #[.bool false,.slice none 0 0,.bool false,.slice none 0 0]]) (by simp[results,Tryz.results26,go_sem,c]) rfl ⟨zeroR,zeroR,rfl,(HE.out.rsn.mono fun _ h=>h.1).imp (fun V h=>⟨by unfold zb7;rw[if_neg (by have:=Hk.out;omega)];exact zbc V,by unfold zb9;rw[if_neg (by have:=Hk.out;omega)];exact zbc V⟩),HE.out.bel⟩
set_option maxRecDepth 100000 in
theorem zlp (w:World) (N:Nat) (hN:N≤10000000) (h1N:1≤N) (p:PrV) (h:LsR 9 zap (vaD N) p.Av p.vars w) (r:RoV) (hr:rwD N r w) (hrg:∀t∈r.ts,0≤t.pl∧t.pl<(p.vars.length:Int)) (hl:r.ts.length≤1000) (hT:Tz w) (hk:r.kind=3):
 Calls Tryz.prog 26 #[.agg #[.slice p.Av p.vars.length p.cv,.slice p.Ar p.rows.length p.cr,.slice p.Ak p.cost.length p.ck],.agg #[.slice r.A r.ts.length r.c,.int .u8 r.kind,.bool r.b.1.num.neg,.slice r.b.1.num.A r.b.1.num.k r.b.1.num.c,.bool r.b.1.den.neg,.slice r.b.1.den.A r.b.1.den.k r.b.1.den.c]] w (zi5 (zb7 p.vars r) (zb9 p.vars r) w):=by
 have e1:(r.kind==1)=false:=by simp[hk]
 have e3:(r.kind==3)=true:=by simp[hk]
 have Hk:=znd hk
 have HZ:=znd (zlA (vs:=p.vars) (ts:=r.ts) (N:=N) (fun t ht=>RatD.sz (hr.1.ok t ht) h1N) (fun t ht=>by
  obtain⟨a,b⟩:=hrg t ht
  have hj:t.pl.toNat<p.vars.length:=by omega
  rw[zb0 hj]
  have:=h.ok _ (List.getElem_mem hj)
  exact⟨RatD.sz this.1 h1N,RatD.sz this.2 h1N⟩))
 clear hk
 obtain⟨W0,hW0⟩:∃W0,W0=(((((w.alloc (.cells #[.slice p.Av p.vars.length p.cv,.slice p.Ar p.rows.length p.cr,.slice p.Ak p.cost.length p.ck] 27)).alloc (.cells #[.slice r.A r.ts.length r.c,.int .u8 r.kind,.bool r.b.1.num.neg,.slice r.b.1.num.A r.b.1.num.k r.b.1.num.c,.bool r.b.1.den.neg,.slice r.b.1.den.A r.b.1.den.k r.b.1.den.c] 68)).alloc (.cells #[.bool false,.slice none 0 0,.bool false,.slice none 0 0] 48)).alloc (.cells #[.bool false,.slice none 0 0,.bool false,.slice none 0 0] 48)).alloc (.cells #[.bool false,.slice none 0 0,.bool false,.slice none 0 0] 48)):=⟨_,rfl⟩
 have HE:=znd (Env.lay5 (Env.start (((h.old zct)).and (((zbR r w hr)).and (hT.old)))) hW0)
 subst hW0
 have c:=Env.c5 HE.out
 have dd:=Env.d5 HE.out
 clear h hr hT dd
 go_enter Tryz.func26,Tryz.ntmps26
 go_wp2_with fail
 refine(zeN _ N hN h1N p HE.out.o.1 r.A r.c r.ts HE.out.o.2.1.1 hrg hl HE.out.o.2.2).mono ?_
 rintro e w1 ⟨a,b,rfl,hk,hb⟩
 replace HE:=znd (Env.ret HE.out hk hb)
 clear hk hb c
 go_upto_region 3 with fail
 obtain⟨W2,g7,hW2,hg7,HE⟩:=Env.al HE.out 48 #[.bool a.num.neg,.slice a.num.A a.num.k a.num.c,.bool a.den.neg,.slice a.den.A a.den.k a.den.c]
 rw[hW2,hg7]
 have hs2:W2.heap.size=g7+1:=by rw[←hW2,←hg7];simp
 clear hW2 hg7
 obtain⟨W3,g8,hW3,hg8,HE⟩:=Env.al HE.out 48 #[.bool b.num.neg,.slice b.num.A b.num.k b.num.c,.bool b.den.neg,.slice b.den.A b.den.k b.den.c]
 rw[hs2]at hg8
 rw[hW3,hg8]
 clear hW3 hg8 hs2
 have hbd:r.ts.length*(2*N+2)≤30000000000:=by have:=Nat.mul_le_mul hl (show 2*N+2≤20000002 by omega);omega
 have c:=Env.c7 HE.out
 go_upto_region 7 with fail
 clear c
 refine wp_region_noPanic ?_
 refine zab 8 (fun W=>CB (g8) #[.bool b.num.neg,.slice b.num.A b.num.k b.num.c,.bool b.den.neg,.slice b.den.A b.den.k b.den.c] W∧CB (w.heap.size+1+1+1+1) #[.bool false,.slice none 0 0,.bool false,.slice none 0 0] W∧CB (w.heap.size+1) #[.slice r.A r.ts.length r.c,.int .u8 r.kind,.bool r.b.1.num.neg,.slice r.b.1.num.A r.b.1.num.k r.b.1.num.c,.bool r.b.1.den.neg,.slice r.b.1.den.A r.b.1.den.k r.b.1.den.c] W) (by kernel_rfl) (by with_reducible first|exact⟨(Env.c7 HE.out).1,(Env.c7 HE.out).2.2.1,(Env.c7 HE.out).2.2.2.2.2.1⟩|exact⟨(Env.c7 HE.out.drew).1,(Env.c7 HE.out.drew).2.2.1,(Env.c7 HE.out.drew).2.2.2.2.2.1⟩) (fun hHeld=>?_)
 replace HE:=znd HE.out.drew
 refine gTa 0 29 hHeld ?_
 refine gTa 1 30 hHeld ?_
 refine gTa 2 31 hHeld ?_
 refine gTa 4 33 hHeld ?_
 refine gTa 6 35 hHeld ?_
 refine gC 3 rfl (by kernel_rfl) (by rfl) (fun K hK=>?_)
 clear hHeld
 simp only[q1,q2,q3]
 go_simp
 refine(zd0 _ r.b.1 b r.b.2 (zaZ p.vars r.ts) (N+(1+r.ts.length*(2*N+2))) (by omega) (by omega) (HE.out.o.2.1.2.mono (by omega)) ((RatN.rat HE.out.n.1.2 HZ.out.2).mono (by omega)) HE.out.o.2.2).mono ?_
 rintro e wq ⟨k,rfl,hk,hb⟩
 replace HE:=znd (Env.ret HE.out hk hb)
 clear hk hb
 (try(go_wp2_with fail))
 refine hK.out _ _ (by with_reducible first|exact⟨(Env.c7 HE.out).1,(Env.c7 HE.out).2.2.1,(Env.c7 HE.out).2.2.2.2.2.1⟩|exact⟨(Env.c7 HE.out.drew).1,(Env.c7 HE.out.drew).2.2.1,(Env.c7 HE.out.drew).2.2.2.2.2.1⟩) (fun hHeld=>?_)
 clear hK K
 try simp only[p1,p2,p3,p4]
 refine gC 5 rfl (by kernel_rfl) (by rfl) (fun K hK=>?_)
 clear hHeld
 simp only[q1,q2,q3]
 go_simp
 refine(zgS _ k zeroR (r.b.2-zaZ p.vars r.ts) 0 (N+(1+r.ts.length*(2*N+2))+1) (by omega) (by omega) (RatN.rat HE.out.n.1 (((RatD.sz HE.out.o.2.1.2 h1N).sub HZ.out.2).up (by omega))) (RatN.rat (zbc _) (zaM.up (by omega))) HE.out.o.2.2).mono ?_
 rintro e wq ⟨m,rfl,hk,hb⟩
 replace HE:=znd (Env.ret HE.out hk hb)
 clear hk hb
 (try(go_wp2_with fail))
 refine hK.out _ _ (by with_reducible first|exact⟨(Env.c7 HE.out).1,(Env.c7 HE.out).2.2.1,(Env.c7 HE.out).2.2.2.2.2.1⟩|exact⟨(Env.c7 HE.out.drew).1,(Env.c7 HE.out.drew).2.2.1,(Env.c7 HE.out.drew).2.2.2.2.2.1⟩) (fun hHeld=>?_)
 clear hK K
 try simp only[p1,p2,p3,p4]
 have c:=Env.c7 HE.out
 refine gC 7 rfl (by kernel_rfl) (by rfl) (fun K hK=>?_)
 clear hHeld
 simp only[q1,q2,q3]
 go_simp
 (try(go_wp2_with fail))
 replace HE:=znd (Env.put4_4 HE.out (.bool m.num.neg) (.slice m.num.A m.num.k m.num.c) (.bool m.den.neg) (.slice m.den.A m.den.k m.den.c))
 refine hK.out _ _ (by with_reducible first|exact⟨(Env.c7 HE.out).1,(Env.c7 HE.out).2.2.1,(Env.c7 HE.out).2.2.2.2.2.1⟩|exact⟨(Env.c7 HE.out.drew).1,(Env.c7 HE.out.drew).2.2.1,(Env.c7 HE.out.drew).2.2.2.2.2.1⟩) (fun hHeld=>?_)
 clear c
 clear hK K
 try simp only[p1,p2,p3,p4]
 have c:=Env.c7 HE.out
 refine gL rfl (by kernel_rfl) (by kernel_rfl) (by rfl) (fun K hK=>?_)
 clear hHeld
 simp only[q1,q2,q3]
 go_simp
 (try(go_wp2_with fail))
 refine hK.out _ _ ?_
 clear hK K
 try simp only[p1,p2,p3,p4]
 refine NoPanic.normal ?_
 clear c
 replace HE:=znd (Env.put4_3 HE.out (.bool false) (.slice none 0 0) (.bool false) (.slice none 0 0))
 have c:=Env.c7 HE.out
 go_wp2_with fail
 exact bodyPost_ret (v:=.tuple #[.agg #[.bool m.num.neg,.slice m.num.A m.num.k m.num.c,.bool m.den.neg,.slice m.den.A m.den.k m.den.c],.agg #[.bool false,.slice none 0 0,.bool false,.slice none 0 0]]) (by simp[results,Tryz.results26,go_sem,c]) rfl ⟨m,zeroR,rfl,(HE.out.rsn.mono fun _ h=>h.1).imp (fun V h=>⟨by unfold zb7;rw[if_pos Hk.out];exact h.1,by unfold zb9;rw[if_neg (by have:=Hk.out;omega)];exact zbc V⟩),HE.out.bel⟩
theorem zid (w:World) (N:Nat) (hN:N≤10000000) (h1N:1≤N) (p:PrV) (h:LsR 9 zap (vaD N) p.Av p.vars w) (r:RoV) (hr:rwD N r w) (hrg:∀t∈r.ts,0≤t.pl∧t.pl<(p.vars.length:Int)) (hl:r.ts.length≤1000) (hT:Tz w) (hk:r.kind=1∨r.kind=2∨r.kind=3):
 Calls Tryz.prog 26 #[.agg #[.slice p.Av p.vars.length p.cv,.slice p.Ar p.rows.length p.cr,.slice p.Ak p.cost.length p.ck],.agg #[.slice r.A r.ts.length r.c,.int .u8 r.kind,.bool r.b.1.num.neg,.slice r.b.1.num.A r.b.1.num.k r.b.1.num.c,.bool r.b.1.den.neg,.slice r.b.1.den.A r.b.1.den.k r.b.1.den.c]] w (zi5 (zb7 p.vars r) (zb9 p.vars r) w):=by
 rcases hk with hk|hk|hk
 ·exact zlY w N hN h1N p h r hr hrg hl hT hk
 ·exact zm7 w N hN h1N p h r hr hrg hl hT hk
 ·exact zlp w N hN h1N p h r hr hrg hl hT hk
end Go.Proofs.YtfdmajmhmligpaaGreatDoor
