/-
 The cells of a box, all at once. The state of a walk: its boxes, what is known of memory beside them, what was there before. whole: signed, Norm, Neg, Abs.
-/
import Derived.Test.YtegfiemlnnpidaaGreatDoorGcd
import Derived.Test.YtegfiemlnnpidaaGreatDoorVal
import Derived.Deep.DeepMust
namespace Go.Proofs.YtegfiemlnnpidaaGreatDoor
set_option maxHeartbeats 2000000
open Go.RowKit

theorem Blk.c2 {w:World} {g:Nat} {t:TypeId} {a b:Value} (h:Blk w g t #[a,b]):w.cell? ⟨g,0,none⟩=some a/\w.cell? ⟨g,1,none⟩=some b:=⟨h.cell 0,h.cell 1⟩
theorem Blk.c4 {w:World} {g:Nat} {t:TypeId} {a b c d:Value} (h:Blk w g t #[a,b,c,d]):w.cell? ⟨g,0,none⟩=some a/\w.cell? ⟨g,1,none⟩=some b/\w.cell? ⟨g,2,none⟩=some c/\w.cell? ⟨g,3,none⟩=some d:=⟨h.cell 0,h.cell 1,h.cell 2,h.cell 3⟩
theorem Blk.f2 {w:World} {g:Nat} {t:TypeId} {a b:Value} (h:Blk w g t #[a,b]):w.frozen? ⟨g,0,none⟩=false/\w.frozen? ⟨g,1,none⟩=false:=⟨h.frozen 0,h.frozen 1⟩
theorem Blk.f4 {w:World} {g:Nat} {t:TypeId} {a b c d:Value} (h:Blk w g t #[a,b,c,d]):w.frozen? ⟨g,0,none⟩=false/\w.frozen? ⟨g,1,none⟩=false/\w.frozen? ⟨g,2,none⟩=false/\w.frozen? ⟨g,3,none⟩=false:=⟨h.frozen 0,h.frozen 1,h.frozen 2,h.frozen 3⟩
theorem lay1 {w W:World} {t1:TypeId} {c1:Array Value} (h:W=(w.alloc (.cells c1 t1))):Blk W (w.heap.size) t1 c1/\Below w.heap.size w W:=by
 subst h;refine⟨?_,?_⟩
 ·exact(by have:=Blk.new w t1 c1;simpa using this:Blk (w.alloc (.cells c1 t1)) (w.heap.size) t1 c1)
 ·exact((Below.refl w.heap.size w).alloc (by simp<;>omega) _)
theorem Rests.al1 {w W:World} {F:Nat->Prop} {φ:World->Prop} {o1:Obj} (h:Rests w F φ) (e:W=(w.alloc o1)):Rests W F φ:=by rw[e];exact(h.alloc o1)
theorem lay2 {w W:World} {t1 t2:TypeId} {c1 c2:Array Value} (h:W=((w.alloc (.cells c1 t1)).alloc (.cells c2 t2))):Blk W (w.heap.size) t1 c1/\Blk W (w.heap.size+1) t2 c2/\Below w.heap.size w W:=by
 subst h;refine⟨?_,?_,?_⟩
 ·exact((by have:=Blk.new w t1 c1;simpa using this:Blk (w.alloc (.cells c1 t1)) (w.heap.size) t1 c1).alloc _)
 ·exact(by have:=Blk.new (w.alloc (.cells c1 t1)) t2 c2;simpa using this:Blk ((w.alloc (.cells c1 t1)).alloc (.cells c2 t2)) (w.heap.size+1) t2 c2)
 ·exact(((Below.refl w.heap.size w).alloc (by simp<;>omega) _).alloc (by simp<;>omega) _)
theorem Rests.al2 {w W:World} {F:Nat->Prop} {φ:World->Prop} {o1 o2:Obj} (h:Rests w F φ) (e:W=((w.alloc o1).alloc o2)):Rests W F φ:=by rw[e];exact((h.alloc o1).alloc o2)
theorem lay3 {w W:World} {t1 t2 t3:TypeId} {c1 c2 c3:Array Value} (h:W=(((w.alloc (.cells c1 t1)).alloc (.cells c2 t2)).alloc (.cells c3 t3))):Blk W (w.heap.size) t1 c1/\Blk W (w.heap.size+1) t2 c2/\Blk W (w.heap.size+1+1) t3 c3/\Below w.heap.size w W:=by
 subst h;refine⟨?_,?_,?_,?_⟩
 ·exact(((by have:=Blk.new w t1 c1;simpa using this:Blk (w.alloc (.cells c1 t1)) (w.heap.size) t1 c1).alloc _).alloc _)
 ·exact((by have:=Blk.new (w.alloc (.cells c1 t1)) t2 c2;simpa using this:Blk ((w.alloc (.cells c1 t1)).alloc (.cells c2 t2)) (w.heap.size+1) t2 c2).alloc _)
 ·exact(by have:=Blk.new ((w.alloc (.cells c1 t1)).alloc (.cells c2 t2)) t3 c3;simpa using this:Blk (((w.alloc (.cells c1 t1)).alloc (.cells c2 t2)).alloc (.cells c3 t3)) (w.heap.size+1+1) t3 c3)
 ·exact((((Below.refl w.heap.size w).alloc (by simp<;>omega) _).alloc (by simp<;>omega) _).alloc (by simp<;>omega) _)
theorem lay4 {w W:World} {t1 t2 t3 t4:TypeId} {c1 c2 c3 c4:Array Value} (h:W=((((w.alloc (.cells c1 t1)).alloc (.cells c2 t2)).alloc (.cells c3 t3)).alloc (.cells c4 t4))):Blk W (w.heap.size) t1 c1/\Blk W (w.heap.size+1) t2 c2/\Blk W (w.heap.size+1+1) t3 c3/\Blk W (w.heap.size+1+1+1) t4 c4/\Below w.heap.size w W:=by
 subst h;refine⟨?_,?_,?_,?_,?_⟩
 ·exact((((by have:=Blk.new w t1 c1;simpa using this:Blk (w.alloc (.cells c1 t1)) (w.heap.size) t1 c1).alloc _).alloc _).alloc _)
 ·exact(((by have:=Blk.new (w.alloc (.cells c1 t1)) t2 c2;simpa using this:Blk ((w.alloc (.cells c1 t1)).alloc (.cells c2 t2)) (w.heap.size+1) t2 c2).alloc _).alloc _)
 ·exact((by have:=Blk.new ((w.alloc (.cells c1 t1)).alloc (.cells c2 t2)) t3 c3;simpa using this:Blk (((w.alloc (.cells c1 t1)).alloc (.cells c2 t2)).alloc (.cells c3 t3)) (w.heap.size+1+1) t3 c3).alloc _)
 ·exact(by have:=Blk.new (((w.alloc (.cells c1 t1)).alloc (.cells c2 t2)).alloc (.cells c3 t3)) t4 c4;simpa using this:Blk ((((w.alloc (.cells c1 t1)).alloc (.cells c2 t2)).alloc (.cells c3 t3)).alloc (.cells c4 t4)) (w.heap.size+1+1+1) t4 c4)
 ·exact(((((Below.refl w.heap.size w).alloc (by simp<;>omega) _).alloc (by simp<;>omega) _).alloc (by simp<;>omega) _).alloc (by simp<;>omega) _)
structure Bo where
 g:Nat
 t:TypeId
 cs:Array Value
structure Env (w:World) (bs:List Bo) (old new:World->Prop) (W:World):Prop where
 bx:∀b∈bs,Blk W b.g b.t b.cs
 rso:Rests W (fun n=>∀b∈bs,b.g≠n) old
 rsn:Rests W (fun n=>w.heap.size<=n/\∀b∈bs,b.g≠n) new
 bel:Below w.heap.size w W
 own:∀b∈bs,w.heap.size<=b.g
 nd:bs.Pairwise fun a b=>a.g≠b.g
theorem Rests.fresh {w:World} {F G:Nat->Prop} {φ:World->Prop} (h:Rests w F φ) (hF:∀b,F b->b<w.heap.size->G b) (o:Obj):Rests (w.alloc o) G φ:=
 ⟨h.lift _ fun b _ hb=>Below.heap_alloc w o b hb,fun w' hw=>h.lift _ fun b hb hlt=>(hw b (hF b hb hlt) (by simp;omega)).trans (Below.heap_alloc w o b hlt)⟩
section
variable {w W W':World} {bs:List Bo} {old new φ ψ:World->Prop}
theorem Env.o (h:Env w bs old new W):old W:=h.rso.now
theorem Env.n (h:Env w bs old new W):new W:=h.rsn.now
theorem Env.start (h:Rests w (·<w.heap.size) old):Env w [] old (fun _=>True) w:=
 ⟨fun b hb=>(by simp at hb),h.mono (fun n _ b hb=>by simp at hb),.pure trivial _ _,.refl _ _,fun b hb=>(by simp at hb),.nil⟩
theorem Env.drew (h:Env w bs old new W):Env w bs old new W.drew:=⟨h.bx,h.rso.drew,h.rsn.drew,h.bel.drew,h.own,h.nd⟩
theorem Env.wd {V:World} (h:Env w bs old new W) (e:V=W\/V=W.drew:=by first|with_reducible exact .inl rfl|with_reducible exact .inr rfl):Env w bs old new V:=by
 rcases e with rfl|rfl
 ·exact h
 ·exact h.drew
theorem Env.call (h:Env w bs old new W) (hb:Below W.heap.size W W'):Env w bs old new W':=
 ⟨fun b hm=>(h.bx b hm).below hb (h.bx b hm).lt,h.rso.below hb,h.rsn.below hb,Below.after h.bel hb,h.own,h.nd⟩
theorem Env.ret (h:Env w bs old new W) (hr:Rests W' (W.heap.size<=·) ψ) (hb:Below W.heap.size W W'):Env w bs old (fun V=>ψ V/\new V) W':=
 have k:=h.call hb
 ⟨k.bx,k.rso,(hr.mono fun n hn=>⟨Nat.le_trans h.bel.size hn,fun b hm e=>by have:=(h.bx b hm).lt;have:W.heap.size<=n:=hn;omega⟩).and k.rsn,k.bel,k.own,k.nd⟩
theorem Env.imp (h:Env w bs old new W) (ho:∀V,old V->φ V) (hn:∀V,new V->ψ V):Env w bs φ ψ W:=⟨h.bx,h.rso.imp ho,h.rsn.imp hn,h.bel,h.own,h.nd⟩
theorem Env.sink (h:Env w bs old new W):Env w bs (fun V=>new V/\old V) new W:=⟨h.bx,(h.rsn.mono fun _ h=>h.2).and h.rso,h.rsn,h.bel,h.own,h.nd⟩
theorem Env.new_ (h:Env w bs old new W) {g:Nat} (hg:W.heap.size=g) (t:TypeId) (cs:Array Value):Env w (⟨g,t,cs⟩::bs) old new (W.alloc (.cells cs t)):=by
 subst hg;have hne:∀b∈bs,W.heap.size≠b.g:=fun b hm e=>by have:=(h.bx b hm).lt;omega
 have hfr:∀n,(∀b∈bs,b.g≠n)->n<W.heap.size->∀b∈(⟨W.heap.size,t,cs⟩::bs:List Bo),b.g≠n:=fun n hn hlt b hm=>by
  rcases List.mem_cons.1 hm with rfl|hm
  ·exact fun e:W.heap.size=n=>by omega
  ·exact hn b hm
 have hbx:∀b∈(⟨W.heap.size,t,cs⟩::bs:List Bo),Blk (W.alloc (.cells cs t)) b.g b.t b.cs:=fun b hm=>by
  rcases List.mem_cons.1 hm with rfl|hm
  ·exact Blk.new W t cs
  ·exact(h.bx b hm).alloc _
 have hown:∀b∈(⟨W.heap.size,t,cs⟩::bs:List Bo),w.heap.size<=b.g:=fun b hm=>by
  rcases List.mem_cons.1 hm with rfl|hm
  ·exact h.bel.size
  ·exact h.own b hm
 exact⟨hbx,h.rso.fresh hfr _,h.rsn.fresh (fun n hn hlt=>⟨hn.1,hfr n hn.2 hlt⟩) _,h.bel.alloc h.bel.size _,hown,.cons hne h.nd⟩
theorem Env.other (h:Env w bs old new W) (o:Obj):Env w bs old new (W.alloc o):=
 ⟨fun b hm=>(h.bx b hm).alloc _,h.rso.alloc _,h.rsn.alloc _,h.bel.alloc h.bel.size _,h.own,h.nd⟩
theorem Env.put {g:Nat} {t:TypeId} {cs:Array Value} (h:Env w (⟨g,t,cs⟩::bs) old new W) (i:Nat) (v:Value):Env w (⟨g,t,cs.setIfInBounds i v⟩::bs) old new (W.setCell ⟨g,i,none⟩ v):=by
 have hne:∀b∈bs,g≠b.g:=(List.pairwise_cons.1 h.nd).1;have h0:=h.bx ⟨g,t,cs⟩ (List.mem_cons_self ..);have hfr:∀n,(∀b∈(⟨g,t,cs⟩::bs:List Bo),b.g≠n)->∀b∈(⟨g,t,cs.setIfInBounds i v⟩::bs:List Bo),b.g≠n:=fun n hn b hm=>by
  rcases List.mem_cons.1 hm with rfl|hm
  ·exact hn ⟨g,t,cs⟩ (List.mem_cons_self ..)
  ·exact hn b (List.mem_cons_of_mem _ hm)
 have hbx:∀b∈(⟨g,t,cs.setIfInBounds i v⟩::bs:List Bo),Blk (W.setCell ⟨g,i,none⟩ v) b.g b.t b.cs:=fun b hm=>by
  rcases List.mem_cons.1 hm with rfl|hm
  ·exact h0.set_ i v
  ·exact(h.bx b (List.mem_cons_of_mem _ hm)).far (p:=⟨g,i,none⟩) (fun e=>hne b hm e.symm) v
 have hown:∀b∈(⟨g,t,cs.setIfInBounds i v⟩::bs:List Bo),w.heap.size<=b.g:=fun b hm=>by
  rcases List.mem_cons.1 hm with rfl|hm
  ·exact h.own ⟨g,t,cs⟩ (List.mem_cons_self ..)
  ·exact h.own b (List.mem_cons_of_mem _ hm)
 exact⟨hbx,(h.rso.set (fun k=>k _ (List.mem_cons_self ..) rfl) v).mono hfr,(h.rsn.set (fun k=>k.2 _ (List.mem_cons_self ..) rfl) v).mono fun n hn=>⟨hn.1,hfr n hn.2⟩,h.bel.setCell (h.own _ (List.mem_cons_self ..):w.heap.size<=g) v,hown,.cons hne (List.pairwise_cons.1 h.nd).2⟩
theorem Env.perm {bs':List Bo} (h:Env w bs old new W) (p:bs'.Perm bs):Env w bs' old new W:=
 ⟨fun b hm=>h.bx b (p.mem_iff.1 hm),h.rso.mono fun _ hn b hm=>hn b (p.mem_iff.1 hm),h.rsn.mono fun _ hn=>⟨hn.1,fun b hm=>hn.2 b (p.mem_iff.1 hm)⟩,h.bel,fun b hm=>h.own b (p.mem_iff.1 hm),(p.pairwise_iff fun h=>Ne.symm h).2 h.nd⟩
@[reducible] def CB (g:Nat) (cs:Array Value) (W:World):Prop:=(∀i,W.cell? ⟨g,i,none⟩=cs[i]?)/\(∀i,W.frozen? ⟨g,i,none⟩=false)
theorem Blk.cb {g:Nat} {t:TypeId} {cs:Array Value} (h:Blk W g t cs):CB g cs W:=⟨h.cell,h.frozen⟩
theorem Env.c1 {g0:Nat} {t0:TypeId} {c0:Array Value} (h:Env w [⟨g0,t0,c0⟩] old new W):CB g0 c0 W:=
 (h.bx ⟨g0,t0,c0⟩ (by simp)).cb
theorem Env.lay1 {t0:TypeId} {c0:Array Value} (h:Env w [] old new w) (e:W=(w.alloc (.cells c0 t0))):Env w [⟨w.heap.size,t0,c0⟩] old new W:=by
 subst e;exact h.new_ (g:=w.heap.size) (by simp) t0 c0
theorem Env.c2 {g0 g1:Nat} {t0 t1:TypeId} {c0 c1:Array Value} (h:Env w [⟨g0,t0,c0⟩,⟨g1,t1,c1⟩] old new W):CB g0 c0 W/\CB g1 c1 W:=
 ⟨(h.bx ⟨g0,t0,c0⟩ (by simp)).cb,(h.bx ⟨g1,t1,c1⟩ (by simp)).cb⟩
theorem Env.d2 {g0 g1:Nat} {t0 t1:TypeId} {c0 c1:Array Value} (h:Env w [⟨g0,t0,c0⟩,⟨g1,t1,c1⟩] old new W):g0≠g1/\g1≠g0:=by
 have h:=h.nd;simp only[List.pairwise_cons,List.mem_cons,List.not_mem_nil,or_false,forall_eq]at h
 simp_all [ne_comm]
theorem Env.lay2 {t0 t1:TypeId} {c0 c1:Array Value} (h:Env w [] old new w) (e:W=((w.alloc (.cells c0 t0)).alloc (.cells c1 t1))):Env w [⟨w.heap.size+1,t1,c1⟩,⟨w.heap.size,t0,c0⟩] old new W:=by
 subst e;exact h.new_ (g:=w.heap.size) (by simp) t0 c0 |>.new_ (g:=w.heap.size+1) (by simp) t1 c1
theorem Env.c3 {g0 g1 g2:Nat} {t0 t1 t2:TypeId} {c0 c1 c2:Array Value} (h:Env w [⟨g0,t0,c0⟩,⟨g1,t1,c1⟩,⟨g2,t2,c2⟩] old new W):CB g0 c0 W/\CB g1 c1 W/\CB g2 c2 W:=
 ⟨(h.bx ⟨g0,t0,c0⟩ (by simp)).cb,(h.bx ⟨g1,t1,c1⟩ (by simp)).cb,(h.bx ⟨g2,t2,c2⟩ (by simp)).cb⟩
theorem Env.d3 {g0 g1 g2:Nat} {t0 t1 t2:TypeId} {c0 c1 c2:Array Value} (h:Env w [⟨g0,t0,c0⟩,⟨g1,t1,c1⟩,⟨g2,t2,c2⟩] old new W):g0≠g1/\g0≠g2/\g1≠g0/\g1≠g2/\g2≠g0/\g2≠g1:=by
 have h:=h.nd;simp only[List.pairwise_cons,List.mem_cons,List.not_mem_nil,or_false,forall_eq_or_imp,forall_eq]at h
 simp_all [ne_comm]
theorem Env.lay3 {t0 t1 t2:TypeId} {c0 c1 c2:Array Value} (h:Env w [] old new w) (e:W=(((w.alloc (.cells c0 t0)).alloc (.cells c1 t1)).alloc (.cells c2 t2))):Env w [⟨w.heap.size+1+1,t2,c2⟩,⟨w.heap.size+1,t1,c1⟩,⟨w.heap.size,t0,c0⟩] old new W:=by
 subst e;exact h.new_ (g:=w.heap.size) (by simp) t0 c0 |>.new_ (g:=w.heap.size+1) (by simp) t1 c1 |>.new_ (g:=w.heap.size+1+1) (by simp) t2 c2
theorem Env.c4 {g0 g1 g2 g3:Nat} {t0 t1 t2 t3:TypeId} {c0 c1 c2 c3:Array Value} (h:Env w [⟨g0,t0,c0⟩,⟨g1,t1,c1⟩,⟨g2,t2,c2⟩,⟨g3,t3,c3⟩] old new W):CB g0 c0 W/\CB g1 c1 W/\CB g2 c2 W/\CB g3 c3 W:=
 ⟨(h.bx ⟨g0,t0,c0⟩ (by simp)).cb,(h.bx ⟨g1,t1,c1⟩ (by simp)).cb,(h.bx ⟨g2,t2,c2⟩ (by simp)).cb,(h.bx ⟨g3,t3,c3⟩ (by simp)).cb⟩
theorem Env.d4 {g0 g1 g2 g3:Nat} {t0 t1 t2 t3:TypeId} {c0 c1 c2 c3:Array Value} (h:Env w [⟨g0,t0,c0⟩,⟨g1,t1,c1⟩,⟨g2,t2,c2⟩,⟨g3,t3,c3⟩] old new W):g0≠g1/\g0≠g2/\g0≠g3/\g1≠g0/\g1≠g2/\g1≠g3/\g2≠g0/\g2≠g1/\g2≠g3/\g3≠g0/\g3≠g1/\g3≠g2:=by
 have h:=h.nd;simp only[List.pairwise_cons,List.mem_cons,List.not_mem_nil,or_false,forall_eq_or_imp,forall_eq]at h
 simp_all [ne_comm]
theorem Env.lay4 {t0 t1 t2 t3:TypeId} {c0 c1 c2 c3:Array Value} (h:Env w [] old new w) (e:W=((((w.alloc (.cells c0 t0)).alloc (.cells c1 t1)).alloc (.cells c2 t2)).alloc (.cells c3 t3))):Env w [⟨w.heap.size+1+1+1,t3,c3⟩,⟨w.heap.size+1+1,t2,c2⟩,⟨w.heap.size+1,t1,c1⟩,⟨w.heap.size,t0,c0⟩] old new W:=by
 subst e;exact h.new_ (g:=w.heap.size) (by simp) t0 c0 |>.new_ (g:=w.heap.size+1) (by simp) t1 c1 |>.new_ (g:=w.heap.size+1+1) (by simp) t2 c2 |>.new_ (g:=w.heap.size+1+1+1) (by simp) t3 c3
theorem Env.c5 {g0 g1 g2 g3 g4:Nat} {t0 t1 t2 t3 t4:TypeId} {c0 c1 c2 c3 c4:Array Value} (h:Env w [⟨g0,t0,c0⟩,⟨g1,t1,c1⟩,⟨g2,t2,c2⟩,⟨g3,t3,c3⟩,⟨g4,t4,c4⟩] old new W):CB g0 c0 W/\CB g1 c1 W/\CB g2 c2 W/\CB g3 c3 W/\CB g4 c4 W:=
 ⟨(h.bx ⟨g0,t0,c0⟩ (by simp)).cb,(h.bx ⟨g1,t1,c1⟩ (by simp)).cb,(h.bx ⟨g2,t2,c2⟩ (by simp)).cb,(h.bx ⟨g3,t3,c3⟩ (by simp)).cb,(h.bx ⟨g4,t4,c4⟩ (by simp)).cb⟩
theorem Env.d5 {g0 g1 g2 g3 g4:Nat} {t0 t1 t2 t3 t4:TypeId} {c0 c1 c2 c3 c4:Array Value} (h:Env w [⟨g0,t0,c0⟩,⟨g1,t1,c1⟩,⟨g2,t2,c2⟩,⟨g3,t3,c3⟩,⟨g4,t4,c4⟩] old new W):g0≠g1/\g0≠g2/\g0≠g3/\g0≠g4/\g1≠g0/\g1≠g2/\g1≠g3/\g1≠g4/\g2≠g0/\g2≠g1/\g2≠g3/\g2≠g4/\g3≠g0/\g3≠g1/\g3≠g2/\g3≠g4/\g4≠g0/\g4≠g1/\g4≠g2/\g4≠g3:=by
 have h:=h.nd;simp only[List.pairwise_cons,List.mem_cons,List.not_mem_nil,or_false,forall_eq_or_imp,forall_eq]at h
 simp_all [ne_comm]
theorem Env.c6 {g0 g1 g2 g3 g4 g5:Nat} {t0 t1 t2 t3 t4 t5:TypeId} {c0 c1 c2 c3 c4 c5:Array Value} (h:Env w [⟨g0,t0,c0⟩,⟨g1,t1,c1⟩,⟨g2,t2,c2⟩,⟨g3,t3,c3⟩,⟨g4,t4,c4⟩,⟨g5,t5,c5⟩] old new W):CB g0 c0 W/\CB g1 c1 W/\CB g2 c2 W/\CB g3 c3 W/\CB g4 c4 W/\CB g5 c5 W:=
 ⟨(h.bx ⟨g0,t0,c0⟩ (by simp)).cb,(h.bx ⟨g1,t1,c1⟩ (by simp)).cb,(h.bx ⟨g2,t2,c2⟩ (by simp)).cb,(h.bx ⟨g3,t3,c3⟩ (by simp)).cb,(h.bx ⟨g4,t4,c4⟩ (by simp)).cb,(h.bx ⟨g5,t5,c5⟩ (by simp)).cb⟩
theorem Env.d6 {g0 g1 g2 g3 g4 g5:Nat} {t0 t1 t2 t3 t4 t5:TypeId} {c0 c1 c2 c3 c4 c5:Array Value} (h:Env w [⟨g0,t0,c0⟩,⟨g1,t1,c1⟩,⟨g2,t2,c2⟩,⟨g3,t3,c3⟩,⟨g4,t4,c4⟩,⟨g5,t5,c5⟩] old new W):g0≠g1/\g0≠g2/\g0≠g3/\g0≠g4/\g0≠g5/\g1≠g0/\g1≠g2/\g1≠g3/\g1≠g4/\g1≠g5/\g2≠g0/\g2≠g1/\g2≠g3/\g2≠g4/\g2≠g5/\g3≠g0/\g3≠g1/\g3≠g2/\g3≠g4/\g3≠g5/\g4≠g0/\g4≠g1/\g4≠g2/\g4≠g3/\g4≠g5/\g5≠g0/\g5≠g1/\g5≠g2/\g5≠g3/\g5≠g4:=by
 have h:=h.nd;simp only[List.pairwise_cons,List.mem_cons,List.not_mem_nil,or_false,forall_eq_or_imp,forall_eq]at h
 simp_all [ne_comm]
theorem Env.c7 {g0 g1 g2 g3 g4 g5 g6:Nat} {t0 t1 t2 t3 t4 t5 t6:TypeId} {c0 c1 c2 c3 c4 c5 c6:Array Value} (h:Env w [⟨g0,t0,c0⟩,⟨g1,t1,c1⟩,⟨g2,t2,c2⟩,⟨g3,t3,c3⟩,⟨g4,t4,c4⟩,⟨g5,t5,c5⟩,⟨g6,t6,c6⟩] old new W):CB g0 c0 W/\CB g1 c1 W/\CB g2 c2 W/\CB g3 c3 W/\CB g4 c4 W/\CB g5 c5 W/\CB g6 c6 W:=
 ⟨(h.bx ⟨g0,t0,c0⟩ (by simp)).cb,(h.bx ⟨g1,t1,c1⟩ (by simp)).cb,(h.bx ⟨g2,t2,c2⟩ (by simp)).cb,(h.bx ⟨g3,t3,c3⟩ (by simp)).cb,(h.bx ⟨g4,t4,c4⟩ (by simp)).cb,(h.bx ⟨g5,t5,c5⟩ (by simp)).cb,(h.bx ⟨g6,t6,c6⟩ (by simp)).cb⟩
theorem Env.d7 {g0 g1 g2 g3 g4 g5 g6:Nat} {t0 t1 t2 t3 t4 t5 t6:TypeId} {c0 c1 c2 c3 c4 c5 c6:Array Value} (h:Env w [⟨g0,t0,c0⟩,⟨g1,t1,c1⟩,⟨g2,t2,c2⟩,⟨g3,t3,c3⟩,⟨g4,t4,c4⟩,⟨g5,t5,c5⟩,⟨g6,t6,c6⟩] old new W):g0≠g1/\g0≠g2/\g0≠g3/\g0≠g4/\g0≠g5/\g0≠g6/\g1≠g0/\g1≠g2/\g1≠g3/\g1≠g4/\g1≠g5/\g1≠g6/\g2≠g0/\g2≠g1/\g2≠g3/\g2≠g4/\g2≠g5/\g2≠g6/\g3≠g0/\g3≠g1/\g3≠g2/\g3≠g4/\g3≠g5/\g3≠g6/\g4≠g0/\g4≠g1/\g4≠g2/\g4≠g3/\g4≠g5/\g4≠g6/\g5≠g0/\g5≠g1/\g5≠g2/\g5≠g3/\g5≠g4/\g5≠g6/\g6≠g0/\g6≠g1/\g6≠g2/\g6≠g3/\g6≠g4/\g6≠g5:=by
 have h:=h.nd;simp only[List.pairwise_cons,List.mem_cons,List.not_mem_nil,or_false,forall_eq_or_imp,forall_eq]at h
 simp_all [ne_comm]
theorem Env.put2 {g:Nat} {t:TypeId} {u0 u1:Value} (h:Env w (⟨g,t,#[u0,u1]⟩::bs) old new W) (a b:Value):Env w (⟨g,t,#[a,b]⟩::bs) old new ((W.setCell ⟨g,0,none⟩ a).setCell ⟨g,1,none⟩ b):=(h.put 0 a).put 1 b
theorem Env.put4 {g:Nat} {t:TypeId} {u0 u1 u2 u3:Value} (h:Env w (⟨g,t,#[u0,u1,u2,u3]⟩::bs) old new W) (a b c d:Value):Env w (⟨g,t,#[a,b,c,d]⟩::bs) old new ((((W.setCell ⟨g,0,none⟩ a).setCell ⟨g,1,none⟩ b).setCell ⟨g,2,none⟩ c).setCell ⟨g,3,none⟩ d):=(((h.put 0 a).put 1 b).put 2 c).put 3 d
theorem Env.put2_at {g:Nat} {t:TypeId} {u0 u1:Value} (l:List Bo) (h:Env w (l++⟨g,t,#[u0,u1]⟩::bs) old new W) (a b:Value):Env w (l++⟨g,t,#[a,b]⟩::bs) old new ((W.setCell ⟨g,0,none⟩ a).setCell ⟨g,1,none⟩ b):=((h.perm List.perm_middle.symm).put2 a b).perm List.perm_middle
theorem Env.put2_1 {b0:Bo} {g:Nat} {t:TypeId} {u0 u1:Value} (h:Env w (b0::⟨g,t,#[u0,u1]⟩::bs) old new W) (a b:Value):Env w (b0::⟨g,t,#[a,b]⟩::bs) old new ((W.setCell ⟨g,0,none⟩ a).setCell ⟨g,1,none⟩ b):=Env.put2_at [b0] h a b
theorem Env.put2_2 {b0 b1:Bo} {g:Nat} {t:TypeId} {u0 u1:Value} (h:Env w (b0::b1::⟨g,t,#[u0,u1]⟩::bs) old new W) (a b:Value):Env w (b0::b1::⟨g,t,#[a,b]⟩::bs) old new ((W.setCell ⟨g,0,none⟩ a).setCell ⟨g,1,none⟩ b):=Env.put2_at [b0,b1] h a b
theorem Env.put2_3 {b0 b1 b2:Bo} {g:Nat} {t:TypeId} {u0 u1:Value} (h:Env w (b0::b1::b2::⟨g,t,#[u0,u1]⟩::bs) old new W) (a b:Value):Env w (b0::b1::b2::⟨g,t,#[a,b]⟩::bs) old new ((W.setCell ⟨g,0,none⟩ a).setCell ⟨g,1,none⟩ b):=Env.put2_at [b0,b1,b2] h a b
theorem Env.put4_at {g:Nat} {t:TypeId} {u0 u1 u2 u3:Value} (l:List Bo) (h:Env w (l++⟨g,t,#[u0,u1,u2,u3]⟩::bs) old new W) (a b c d:Value):Env w (l++⟨g,t,#[a,b,c,d]⟩::bs) old new ((((W.setCell ⟨g,0,none⟩ a).setCell ⟨g,1,none⟩ b).setCell ⟨g,2,none⟩ c).setCell ⟨g,3,none⟩ d):=((h.perm List.perm_middle.symm).put4 a b c d).perm List.perm_middle
theorem Env.put4_1 {b0:Bo} {g:Nat} {t:TypeId} {u0 u1 u2 u3:Value} (h:Env w (b0::⟨g,t,#[u0,u1,u2,u3]⟩::bs) old new W) (a b c d:Value):Env w (b0::⟨g,t,#[a,b,c,d]⟩::bs) old new ((((W.setCell ⟨g,0,none⟩ a).setCell ⟨g,1,none⟩ b).setCell ⟨g,2,none⟩ c).setCell ⟨g,3,none⟩ d):=Env.put4_at [b0] h a b c d
theorem Env.put4_2 {b0 b1:Bo} {g:Nat} {t:TypeId} {u0 u1 u2 u3:Value} (h:Env w (b0::b1::⟨g,t,#[u0,u1,u2,u3]⟩::bs) old new W) (a b c d:Value):Env w (b0::b1::⟨g,t,#[a,b,c,d]⟩::bs) old new ((((W.setCell ⟨g,0,none⟩ a).setCell ⟨g,1,none⟩ b).setCell ⟨g,2,none⟩ c).setCell ⟨g,3,none⟩ d):=Env.put4_at [b0,b1] h a b c d
theorem Env.put4_4 {b0 b1 b2 b3:Bo} {g:Nat} {t:TypeId} {u0 u1 u2 u3:Value} (h:Env w (b0::b1::b2::b3::⟨g,t,#[u0,u1,u2,u3]⟩::bs) old new W) (a b c d:Value):Env w (b0::b1::b2::b3::⟨g,t,#[a,b,c,d]⟩::bs) old new ((((W.setCell ⟨g,0,none⟩ a).setCell ⟨g,1,none⟩ b).setCell ⟨g,2,none⟩ c).setCell ⟨g,3,none⟩ d):=Env.put4_at [b0,b1,b2,b3] h a b c d
theorem Env.retZ {g:Nat} {t:TypeId} {i:IV} {z:Int} (h:Env w (⟨g,t,(cI i)⟩::bs) old new W) (hn:∀V,new V->IntN i z V):RetZ z w (.returned (.agg (cI i))) W:=
 ⟨i,rfl,(h.rsn.imp hn).mono fun _ h=>h.1,h.bel⟩
theorem Env.st2_0 {g:Nat} {t:TypeId} {u0 u1:Value} (h:Env w (⟨g,t,#[u0,u1]⟩::bs) old new W) (a b:Value):∃W',((W.setCell ⟨g,0,none⟩ a).setCell ⟨g,1,none⟩ b)=W'/\Hid (Env w (⟨g,t,#[a,b]⟩::bs) old new W'):=⟨_,rfl,znd (Env.put2 h a b)⟩
theorem Env.st2_1 {b0:Bo} {g:Nat} {t:TypeId} {u0 u1:Value} (h:Env w (b0::⟨g,t,#[u0,u1]⟩::bs) old new W) (a b:Value):∃W',((W.setCell ⟨g,0,none⟩ a).setCell ⟨g,1,none⟩ b)=W'/\Hid (Env w (b0::⟨g,t,#[a,b]⟩::bs) old new W'):=⟨_,rfl,znd (Env.put2_1 h a b)⟩
theorem Env.st2_2 {b0 b1:Bo} {g:Nat} {t:TypeId} {u0 u1:Value} (h:Env w (b0::b1::⟨g,t,#[u0,u1]⟩::bs) old new W) (a b:Value):∃W',((W.setCell ⟨g,0,none⟩ a).setCell ⟨g,1,none⟩ b)=W'/\Hid (Env w (b0::b1::⟨g,t,#[a,b]⟩::bs) old new W'):=⟨_,rfl,znd (Env.put2_2 h a b)⟩
theorem Env.st2_3 {b0 b1 b2:Bo} {g:Nat} {t:TypeId} {u0 u1:Value} (h:Env w (b0::b1::b2::⟨g,t,#[u0,u1]⟩::bs) old new W) (a b:Value):∃W',((W.setCell ⟨g,0,none⟩ a).setCell ⟨g,1,none⟩ b)=W'/\Hid (Env w (b0::b1::b2::⟨g,t,#[a,b]⟩::bs) old new W'):=⟨_,rfl,znd (Env.put2_3 h a b)⟩
theorem Env.st4_0 {g:Nat} {t:TypeId} {u0 u1 u2 u3:Value} (h:Env w (⟨g,t,#[u0,u1,u2,u3]⟩::bs) old new W) (a b c d:Value):∃W',((((W.setCell ⟨g,0,none⟩ a).setCell ⟨g,1,none⟩ b).setCell ⟨g,2,none⟩ c).setCell ⟨g,3,none⟩ d)=W'/\Hid (Env w (⟨g,t,#[a,b,c,d]⟩::bs) old new W'):=⟨_,rfl,znd (Env.put4 h a b c d)⟩
theorem Env.al (h:Env w bs old new W) (t:TypeId) (cs:Array Value):∃W' g,W.alloc (.cells cs t)=W'/\W.heap.size=g/\Hid (Env w (⟨g,t,cs⟩::bs) old new W'):=⟨_,_,rfl,rfl,znd (h.new_ rfl t cs)⟩
theorem Env.nn (h:Env w bs old new W) (t:TypeId) (cs:Array Value):Env w (⟨W.heap.size,t,cs⟩::bs) old new (W.alloc (.cells cs t)):=h.new_ rfl t cs
theorem Env.nd_ (h:Env w bs old new W) (t:TypeId) (cs:Array Value):Env w (⟨W.heap.size,t,cs⟩::bs) old new (W.drew.alloc (.cells cs t)):=h.drew.new_ rfl t cs
theorem Env.rx {V X:World} (h:Env w bs old new W) (hr:Rests X (V.heap.size<=·) ψ) (hb:Below V.heap.size V X) (e:V=W\/V=W.drew:=by first|with_reducible exact .inl rfl|with_reducible exact .inr rfl|exact .inl rfl|exact .inr rfl):Env w bs old (fun V=>ψ V/\new V) X:=by
 rcases e with rfl|rfl
 ·exact h.ret hr hb
 ·exact h.drew.ret hr hb
theorem Env.cx {V X:World} (h:Env w bs old new W) (hb:Below V.heap.size V X) (e:V=W\/V=W.drew:=by first|with_reducible exact .inl rfl|with_reducible exact .inr rfl|exact .inl rfl|exact .inr rfl):Env w bs old new X:=by
 rcases e with rfl|rfl
 ·exact h.call hb
 ·exact h.drew.call hb
end
theorem Env.read {w W:World} {b:Bo} {bs:List Bo} {old new:World->Prop} (h:Env w (b::bs) old new W):Env w bs old (fun V=>Blk V b.g b.t b.cs/\new V) W:=by
 have h0:=h.bx b (List.mem_cons_self ..);have hne:=(List.pairwise_cons.1 h.nd).1;refine⟨fun x hx=>h.bx x (List.mem_cons_of_mem _ hx),h.rso.mono fun n hn x hx=>hn x (List.mem_cons_of_mem _ hx),Rests.and ⟨h0,fun _ hw=>(hw b.g ⟨h.own b (List.mem_cons_self ..),fun x hx e=>hne x hx e.symm⟩ h0.lt).trans h0⟩ (h.rsn.mono fun n hn=>⟨hn.1,fun x hx=>hn.2 x (List.mem_cons_of_mem _ hx)⟩),h.bel,fun x hx=>h.own x (List.mem_cons_of_mem _ hx),(List.pairwise_cons.1 h.nd).2⟩
theorem lyIO {w:World} {o:World->Prop} (a:IV) (h:Rests w (·<w.heap.size) o):Env w [⟨w.heap.size+1,53,#[.bool false,.slice none 0 0]⟩,⟨w.heap.size,53,(cI a)⟩] o (fun _=>True) ((w.alloc (.cells (cI a) 53)).alloc (.cells #[.bool false,.slice none 0 0] 53)):=Env.lay2 (Env.start h) rfl
theorem lyR {w:World} {o:World->Prop} (a:RV) (h:Rests w (·<w.heap.size) o):Env w [⟨w.heap.size,55,(cR a)⟩] o (fun _=>True) (w.alloc (.cells (cR a) 55)):=Env.lay1 (Env.start h) rfl
theorem lyRZ {w:World} {o:World->Prop} (a:RV) (h:Rests w (·<w.heap.size) o):Env w [⟨w.heap.size+1,55,cZ⟩,⟨w.heap.size,55,(cR a)⟩] o (fun _=>True) ((w.alloc (.cells (cR a) 55)).alloc (.cells cZ 55)):=Env.lay2 (Env.start h) rfl
theorem lyRR {w:World} {o:World->Prop} (a:RV) (b:RV) (h:Rests w (·<w.heap.size) o):Env w [⟨w.heap.size+1,55,(cR b)⟩,⟨w.heap.size,55,(cR a)⟩] o (fun _=>True) ((w.alloc (.cells (cR a) 55)).alloc (.cells (cR b) 55)):=Env.lay2 (Env.start h) rfl
theorem zcU {w:World} {o:World->Prop} (a:RV) (b:RV) (h:Rests w (·<w.heap.size) o):Env w [⟨w.heap.size+1+1,55,cZ⟩,⟨w.heap.size+1,55,(cR b)⟩,⟨w.heap.size,55,(cR a)⟩] o (fun _=>True) (((w.alloc (.cells (cR a) 55)).alloc (.cells (cR b) 55)).alloc (.cells cZ 55)):=Env.lay3 (Env.start h) rfl
theorem zmD {w:World} {o:World->Prop} (a:IV) (b:IV) (h:Rests w (·<w.heap.size) o):Env w [⟨w.heap.size+1+1,55,cZ⟩,⟨w.heap.size+1,53,(cI b)⟩,⟨w.heap.size,53,(cI a)⟩] o (fun _=>True) (((w.alloc (.cells (cI a) 53)).alloc (.cells (cI b) 53)).alloc (.cells cZ 55)):=Env.lay3 (Env.start h) rfl
theorem lyII {w:World} {o:World->Prop} (a:IV) (b:IV) (h:Rests w (·<w.heap.size) o):Env w [⟨w.heap.size+1,53,(cI b)⟩,⟨w.heap.size,53,(cI a)⟩] o (fun _=>True) ((w.alloc (.cells (cI a) 53)).alloc (.cells (cI b) 53)):=Env.lay2 (Env.start h) rfl
theorem zmx {w:World} {o:World->Prop} (a:IV) (b:IV) (h:Rests w (·<w.heap.size) o):Env w [⟨w.heap.size+1+1,53,#[.bool false,.slice none 0 0]⟩,⟨w.heap.size+1,53,(cI b)⟩,⟨w.heap.size,53,(cI a)⟩] o (fun _=>True) (((w.alloc (.cells (cI a) 53)).alloc (.cells (cI b) 53)).alloc (.cells #[.bool false,.slice none 0 0] 53)):=Env.lay3 (Env.start h) rfl
theorem zi7 {w:World} {o:World->Prop} (a:IV) (b:IV) (h:Rests w (·<w.heap.size) o):Env w [⟨w.heap.size+1+1+1,53,#[.bool false,.slice none 0 0]⟩,⟨w.heap.size+1+1,53,#[.bool false,.slice none 0 0]⟩,⟨w.heap.size+1,53,(cI b)⟩,⟨w.heap.size,53,(cI a)⟩] o (fun _=>True) ((((w.alloc (.cells (cI a) 53)).alloc (.cells (cI b) 53)).alloc (.cells #[.bool false,.slice none 0 0] 53)).alloc (.cells #[.bool false,.slice none 0 0] 53)):=Env.lay4 (Env.start h) rfl
theorem zmu {w:World} {o:World->Prop} (a:RV) (h:Rests w (·<w.heap.size) o):Env w [⟨w.heap.size+1+1,53,#[.bool false,.slice none 0 0]⟩,⟨w.heap.size+1,53,#[.bool false,.slice none 0 0]⟩,⟨w.heap.size,55,(cR a)⟩] o (fun _=>True) (((w.alloc (.cells (cR a) 55)).alloc (.cells #[.bool false,.slice none 0 0] 53)).alloc (.cells #[.bool false,.slice none 0 0] 53)):=Env.lay3 (Env.start h) rfl
theorem lyZ {w:World} {o:World->Prop} (h:Rests w (·<w.heap.size) o):Env w [⟨w.heap.size,55,cZ⟩] o (fun _=>True) (w.alloc (.cells cZ 55)):=Env.lay1 (Env.start h) rfl
theorem lyO {w:World} {o:World->Prop} (h:Rests w (·<w.heap.size) o):Env w [⟨w.heap.size,53,#[.bool false,.slice none 0 0]⟩] o (fun _=>True) (w.alloc (.cells #[.bool false,.slice none 0 0] 53)):=Env.lay1 (Env.start h) rfl
theorem lyZZ {w:World} {o:World->Prop} (h:Rests w (·<w.heap.size) o):Env w [⟨w.heap.size+1,55,cZ⟩,⟨w.heap.size,55,cZ⟩] o (fun _=>True) ((w.alloc (.cells cZ 55)).alloc (.cells cZ 55)):=Env.lay2 (Env.start h) rfl
theorem lyIZ {w:World} {o:World->Prop} (a:IV) (h:Rests w (·<w.heap.size) o):Env w [⟨w.heap.size+1,55,cZ⟩,⟨w.heap.size,53,(cI a)⟩] o (fun _=>True) ((w.alloc (.cells (cI a) 53)).alloc (.cells cZ 55)):=Env.lay2 (Env.start h) rfl
theorem lyI {w:World} {o:World->Prop} (a:IV) (h:Rests w (·<w.heap.size) o):Env w [⟨w.heap.size,53,(cI a)⟩] o (fun _=>True) (w.alloc (.cells (cI a) 53)):=Env.lay1 (Env.start h) rfl

set_option maxRecDepth 100000 in
theorem zag (w:World) (neg:Bool) (A:Option Addr) (n c:Nat):
 Calls Tryz.prog 116 #[.bool neg,.slice A n c] w fun e w'=>e=.returned (.agg #[.bool (neg&&decide (0<n)),.slice A n c])/\Below w.heap.size w w':=by
 have hfin:∀r,Blk (w.alloc (.cells #[.bool r,.slice A n c] 53)) w.heap.size 53 #[.bool r,.slice A n c]/\Below w.heap.size w (w.alloc (.cells #[.bool r,.slice A n c] 53)):=fun r=>⟨Blk.new _ _ _,Below.of_alloc _ _⟩;have Hfin:=znd hfin;clear hfin
 cases neg
 ·go_enter Tryz.func116,Tryz.ntmps116;go_wp2_with fail;have q0:=(Hfin.out false).1.cell 0;have q1:=(Hfin.out false).1.cell 1;have hB:=(Hfin.out false).2;generalize w.alloc (.cells #[.bool false,.slice A n c] 53)=W at*;exact bodyPost_ret (v:=.agg #[.bool false,.slice A n c]) (by simp[results,Tryz.results116,go_sem,q0,q1]) rfl ⟨rfl,hB⟩
 ·rw[Bool.true_and];go_enter Tryz.func116,Tryz.ntmps116;go_wp2_with fail;generalize decide (0<n)=r at*;have q0:=(Hfin.out r).1.cell 0;have q1:=(Hfin.out r).1.cell 1;have hB:=(Hfin.out r).2;generalize w.alloc (.cells #[.bool r,.slice A n c] 53)=W at*;exact bodyPost_ret (v:=.agg #[.bool r,.slice A n c]) (by simp[results,Tryz.results116,go_sem,q0,q1]) rfl ⟨rfl,hB⟩

theorem zkV {W:World} {i:IV} {z:Int} {n:Nat} (h:IntD i z n W) (hn:n<=900000000000):Calls Tryz.prog 117 #[.slice i.A i.k i.c] W (RetL .u64 (digs B64 z.natAbs) W):=by
 obtain⟨l,hk,hr,hx,rfl⟩:=h.ex;have:=h.le;rw[hk,zad,<-zb5 (b:=B64) (by decide) hx];exact zgy W i.A i.c l (by omega) hr
theorem zbs (neg:Bool) (v:Nat):(neg&&decide (0<(digs B64 v).length))=decide (iv neg v<0):=by
 unfold iv;rcases Nat.eq_zero_or_pos v with rfl|h
 ·simp[zbF]
 ·have:=zas (X:=v) (by omega)
  cases neg<;>simp<;>omega
theorem zlv (neg:Bool) (v:Nat):((!neg)&&decide (0<(digs B64 v).length))=decide (-iv neg v<0):=by
 rw[zbs];unfold iv;cases neg<;>simp
theorem IntD.sgn {i:IV} {z:Int} {n:Nat} {w:World} (h:IntD i z n w):(i.neg&&decide (0<(digs B64 z.natAbs).length))=decide (z<0)/\((!i.neg)&&decide (0<(digs B64 z.natAbs).length))=decide (-z<0):=by
 obtain⟨l,-,-,-,rfl⟩:=h.ex;rw[zad];exact⟨zbs _ _,zlv _ _⟩
theorem IntD.sgnMul {i j:IV} {z y:Int} {n m:Nat} {w:World} (h:IntD i z n w) (h':IntD j y m w):((!(i.neg==j.neg))&&decide (0<(digs B64 (z.natAbs*y.natAbs)).length))=decide (z*y<0):=by
 obtain⟨l,-,-,-,rfl⟩:=h.ex;obtain⟨l',-,-,-,rfl⟩:=h'.ex;rw[zad,zad,zbs];congr 2;unfold iv
 cases i.neg<;>cases j.neg<;>simp[Int.neg_mul,Int.mul_neg]
theorem zmU {W:World} {i j:IV} {z y:Int} {n m:Nat} (h:IntD i z n W) (h':IntD j y m W) (hn:n<=900000000000) (hm:m<=900000000000):Calls Tryz.prog 149 #[.slice i.A i.k i.c,.slice j.A j.k j.c] W (RetL .u64 (digs B64 (z.natAbs*y.natAbs)) W):=by
 obtain⟨l,hk,hr,hx,rfl⟩:=h.ex;obtain⟨l',hk',hr',hx',rfl⟩:=h'.ex;have:=h.le;have:=h'.le;rw[hk,hk',zad,zad];exact zlh W i.A j.A i.c j.c l l' (by omega) (by omega) hr hr' hx hx'
theorem znb {W:World} {i j:IV} {z y:Int} {n m:Nat} (h:IntD i z n W) (h':IntD j y m W) (hn:n<=900000000000) (hm:m<=900000000000) (hT:Tz W):Calls Tryz.prog 177 #[.slice i.A i.k i.c,.slice j.A j.k j.c] W (RetL .u64 (digs B64 (Nat.gcd z.natAbs y.natAbs)) W):=by
 obtain⟨l,hk,hr,hx,rfl⟩:=h.ex;obtain⟨l',hk',hr',hx',rfl⟩:=h'.ex;have:=h.le;have:=h'.le;rw[hk,hk',zad,zad];exact zlV W i.A j.A i.c j.c 900000000000 l l' (Nat.le_refl _) (by omega) (by omega) hr hr' hx hx' hT
theorem Tz.old {w:World} (h:Tz w):Rests w (·<w.heap.size) Tz:=⟨h,fun _ hw=>h.keep (hw _ h.lt h.lt)⟩
theorem IntN.of_digs {A:Option Addr} {c m:Nat} {b:Bool} {z:Int} {V:World} (h:Rd V .u64 A (digs B64 m)) (hc:(digs B64 m).length<=c) (hb:b=decide (z<0)) (hm:z.natAbs=m):IntN ⟨b,A,(digs B64 m).length,c⟩ z V:=by
 subst hm;exact⟨rfl,hc,hb,h⟩
theorem zbv {w w2:World} {g c m:Nat} {z:Int} {nb:Bool} {A:Option Addr} {F:Nat->Prop} (hb:Below w.heap.size w w2) (hg:w.heap.size<=g) (hr:Rests w2 F (fun W=>Rd W .u64 A (digs B64 m))) (hF:∀b,F b->g+1<=b) (hc:(digs B64 m).length<=c)
 (hm:z.natAbs=m) (hn:nb=decide (z<0)):RetZ z w (.returned (.agg #[.bool nb,.slice A (digs B64 m).length c])) ((w2.setCell ⟨g,0,none⟩ (.bool nb)).setCell ⟨g,1,none⟩ (.slice A (digs B64 m).length c)):=by
 subst hm;refine⟨⟨nb,A,(digs B64 z.natAbs).length,c⟩,rfl,?_,(hb.setCell (p:=⟨g,0,none⟩) hg _).setCell (p:=⟨g,1,none⟩) hg _⟩;have h1:Rests w2 F (IntN ⟨nb,A,(digs B64 z.natAbs).length,c⟩ z):=hr.imp fun W h=>⟨rfl,hc,hn,h⟩;have h2:=(h1.set (a:=⟨g,0,none⟩) (fun h=>by have:=hF g h;omega) (.bool nb)).set (a:=⟨g,1,none⟩) (fun h=>by have:=hF g h;omega) (.slice A (digs B64 z.natAbs).length c);exact h2.mono fun b hb'=>by show w.heap.size<=b;have:=hF b hb';omega
theorem box2 {w2:World} {g:Nat} {v0 v1:Value} (h:Blk w2 g 53 #[v0,v1]) (x y:Value):((w2.setCell ⟨g,0,none⟩ x).setCell ⟨g,1,none⟩ y).cell? ⟨g,0,none⟩=some x/\((w2.setCell ⟨g,0,none⟩ x).setCell ⟨g,1,none⟩ y).cell? ⟨g,1,none⟩=some y:=
 ⟨((h.set_ 0 x).set_ 1 y).cell 0,((h.set_ 0 x).set_ 1 y).cell 1⟩


set_option maxRecDepth 100000 in
theorem zdJ (w:World) (i:IV) (z:Int) (n:Nat) (hn:n<=900000000000) (h:IntD i z n w):
 Calls Tryz.prog 78 #[iA i] w (RetZ (z) w):=by
 have Hs:=znd (h.sgn.1);have HE:=znd (lyIO i (h.old));have c:=Env.c2 HE.out;have dd:=Env.d2 HE.out;clear h;unfold iA;go_enter Tryz.func78,Tryz.ntmps78;go_wp2_with fail
 go_region_held3 (fun W=>CB (w.heap.size) (cI i) W) (first|with_reducible exact c.2|((repeat' apply And.intro)<;>go_keep)|exact c.2)
  (first
   |(go_at_call 117;go_must (refine(zkV (i:=i) (z:=z) (n:=n) (HE.out.wd.o) hn).mono ?_;rintro e w1 ⟨As,cs,rfl,hcp,hrd,hb,hf⟩;replace HE:=znd (Env.rx HE.out (zam hrd (fun k hk=>hf k hk)) hb);replace c:=Env.c2 HE.out;have Hcs:=znd hcp;clear hcp hrd hb hf))
   |(go_at_call 116;go_must (refine(zag _ _ _ _ _).mono ?_;rintro e w2 ⟨rfl,hb⟩;replace HE:=znd (Env.cx HE.out hb);replace c:=Env.c2 HE.out;clear hb)))
 all_goals
  go_wp2_with fail;replace HE:=znd (Env.put2 (HE.out.wd) (.bool (i.neg&&decide (0<(digs B64 (z.natAbs)).length))) (.slice As (digs B64 (z.natAbs)).length cs));replace c:=Env.c2 HE.out;exact bodyPost_ret (v:=.agg #[.bool (i.neg&&decide (0<(digs B64 (z.natAbs)).length)),.slice As (digs B64 (z.natAbs)).length cs]) (by simp[results,Tryz.results78,go_sem,c]) rfl (Env.retZ (i:=⟨i.neg&&decide (0<(digs B64 (z.natAbs)).length),As,(digs B64 (z.natAbs)).length,cs⟩) HE.out (fun V h=>IntN.of_digs h.1 Hcs.out Hs.out rfl))

set_option maxRecDepth 100000 in
theorem zeG (w:World) (i:IV) (z:Int) (n:Nat) (hn:n<=900000000000) (h:IntD i z n w):
 Calls Tryz.prog 180 #[iA i] w (RetZ (-z) w):=by
 have Hs:=znd (h.sgn.2);have HE:=znd (lyIO i (h.old));have c:=Env.c2 HE.out;have dd:=Env.d2 HE.out;clear h;unfold iA;go_enter Tryz.func180,Tryz.ntmps180;go_wp2_with fail
 go_region_held3 (fun W=>CB (w.heap.size) (cI i) W) (first|with_reducible exact c.2|((repeat' apply And.intro)<;>go_keep)|exact c.2)
  (first
   |(go_at_call 117;go_must (refine(zkV (i:=i) (z:=z) (n:=n) (HE.out.wd.o) hn).mono ?_;rintro e w1 ⟨As,cs,rfl,hcp,hrd,hb,hf⟩;replace HE:=znd (Env.rx HE.out (zam hrd (fun k hk=>hf k hk)) hb);replace c:=Env.c2 HE.out;have Hcs:=znd hcp;clear hcp hrd hb hf))
   |(go_at_call 116;go_must (refine(zag _ _ _ _ _).mono ?_;rintro e w2 ⟨rfl,hb⟩;replace HE:=znd (Env.cx HE.out hb);replace c:=Env.c2 HE.out;clear hb)))
 all_goals
  go_wp2_with fail;replace HE:=znd (Env.put2 (HE.out.wd) (.bool ((!i.neg)&&decide (0<(digs B64 (z.natAbs)).length))) (.slice As (digs B64 (z.natAbs)).length cs));replace c:=Env.c2 HE.out;exact bodyPost_ret (v:=.agg #[.bool ((!i.neg)&&decide (0<(digs B64 (z.natAbs)).length)),.slice As (digs B64 (z.natAbs)).length cs]) (by simp[results,Tryz.results180,go_sem,c]) rfl (Env.retZ (i:=⟨(!i.neg)&&decide (0<(digs B64 (z.natAbs)).length),As,(digs B64 (z.natAbs)).length,cs⟩) HE.out (fun V h=>IntN.of_digs h.1 Hcs.out Hs.out (Int.natAbs_neg _)))


set_option maxRecDepth 100000 in
theorem zax (w:World) (i j:IV) (z y:Int) (n m:Nat) (hn:n<=900000000000) (hm:m<=900000000000) (h:IntD i z n w) (h':IntD j y m w):
 Calls Tryz.prog 100 #[iA i,iA j] w (RetZ (z*y) w):=by
 have Hs:=znd (h.sgnMul h');have HE:=znd (zmx i j ((h.old).and (h'.old)));have c:=Env.c3 HE.out;have dd:=Env.d3 HE.out;clear h h';unfold iA;go_enter Tryz.func100,Tryz.ntmps100;go_wp2_with fail
 go_region_held3 (fun W=>CB (w.heap.size+1) (cI j) W/\CB (w.heap.size) (cI i) W) (first|with_reducible exact⟨c.2.1,c.2.2⟩|((repeat' apply And.intro)<;>go_keep)|exact⟨c.2.1,c.2.2⟩)
  (first
   |(go_at_call 149;go_must (refine(zmU (i:=i) (j:=j) (z:=z) (y:=y) (n:=n) (m:=m) (HE.out.wd.o.1) (HE.out.wd.o.2) hn hm).mono ?_;rintro e w1 ⟨As,cs,rfl,hcp,hrd,hb,hf⟩;replace HE:=znd (Env.rx HE.out (zam hrd (fun k hk=>hf k hk)) hb);replace c:=Env.c3 HE.out;have Hcs:=znd hcp;clear hcp hrd hb hf))
   |(go_at_call 116;go_must (refine(zag _ _ _ _ _).mono ?_;rintro e w2 ⟨rfl,hb⟩;replace HE:=znd (Env.cx HE.out hb);replace c:=Env.c3 HE.out;clear hb)))
 all_goals
  go_wp2_with fail;replace HE:=znd (Env.put2 (HE.out.wd) (.bool ((!(i.neg==j.neg))&&decide (0<(digs B64 (z.natAbs*y.natAbs)).length))) (.slice As (digs B64 (z.natAbs*y.natAbs)).length cs));replace c:=Env.c3 HE.out;exact bodyPost_ret (v:=.agg #[.bool ((!(i.neg==j.neg))&&decide (0<(digs B64 (z.natAbs*y.natAbs)).length)),.slice As (digs B64 (z.natAbs*y.natAbs)).length cs]) (by simp[results,Tryz.results100,go_sem,c]) rfl (Env.retZ (i:=⟨(!(i.neg==j.neg))&&decide (0<(digs B64 (z.natAbs*y.natAbs)).length),As,(digs B64 (z.natAbs*y.natAbs)).length,cs⟩) HE.out (fun V h=>IntN.of_digs h.1 Hcs.out Hs.out (Int.natAbs_mul _ _)))

set_option maxRecDepth 100000 in
theorem zkd (w:World) (i j:IV) (z y:Int) (n m:Nat) (hn:n<=900000000000) (hm:m<=900000000000) (h:IntD i z n w) (h':IntD j y m w) (hT:Tz w):
 Calls Tryz.prog 136 #[iA i,iA j] w (RetZ ((Nat.gcd z.natAbs y.natAbs:Int)) w):=by
 have HE:=znd (zmx i j ((h.old).and ((h'.old).and (hT.old))));have c:=Env.c3 HE.out;have dd:=Env.d3 HE.out;clear h h' hT;unfold iA;go_enter Tryz.func136,Tryz.ntmps136;go_wp2_with fail;refine(znb (i:=i) (j:=j) (z:=z) (y:=y) (n:=n) (m:=m) (HE.out.wd.o.1) (HE.out.wd.o.2.1) hn hm (HE.out.wd.o.2.2)).mono ?_;rintro e w1 ⟨As,cs,rfl,hcp,hrd,hb,hf⟩;replace HE:=znd (Env.rx HE.out (zam hrd (fun k hk=>hf k hk)) hb);replace c:=Env.c3 HE.out;have Hcs:=znd hcp;clear hcp hrd hb hf;go_wp2_with fail;refine(zag _ _ _ _ _).mono ?_;rintro e w2 ⟨rfl,hb⟩;replace HE:=znd (Env.cx HE.out hb);replace c:=Env.c3 HE.out;clear hb;go_wp2_with fail;replace HE:=znd (Env.put2 (HE.out.wd) (.bool (false)) (.slice As (digs B64 (Nat.gcd z.natAbs y.natAbs)).length cs));replace c:=Env.c3 HE.out;exact bodyPost_ret (v:=.agg #[.bool (false),.slice As (digs B64 (Nat.gcd z.natAbs y.natAbs)).length cs]) (by simp[results,Tryz.results136,go_sem,c]) rfl (Env.retZ (i:=⟨false,As,(digs B64 (Nat.gcd z.natAbs y.natAbs)).length,cs⟩) HE.out (fun V h=>IntN.of_digs h.1 Hcs.out (by simp) (by simp)))

end Go.Proofs.YtegfiemlnnpidaaGreatDoor
