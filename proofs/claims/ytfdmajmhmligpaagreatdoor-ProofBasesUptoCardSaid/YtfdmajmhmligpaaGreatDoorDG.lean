/-
 A drawn region, whatever its order: what each of its operations leaves is told once an operation.
-/
import Derived.Test.YtfdmajmhmligpaaGreatDoorEM
namespace Go.Proofs.YtfdmajmhmligpaaGreatDoor
open Go.RowKit

inductive It:Type 1 where
 |pu (v:Value)
 |fn (js:List Nat) (F:List Value→Value)
 |ca {α:Type} (f:α→Value) (φ:α→World→Prop)
 |bx (t:TypeId) (cs:Array Value)
 |any
def It.R (ev:Nat→Value) (s t:Nat) (v:Value) (W:World):It→Prop
 |.pu x=>v=x
 |.fn js F=>v=F (js.map ev)
 |.ca f φ=>∃x,v=f x∧Rests W (fun n=>s≤n∧n<t) (φ x)
 |.bx ty cs=>v=.pointer (some ⟨s,0,none⟩)∧s<t∧Blk W s ty cs
 |.any=>True
theorem It.R.below {it:It} {ev:Nat→Value} {s t:Nat} {v:Value} {W W':World} (h:it.R ev s t v W) (ht:t≤W.heap.size) (hb:Below W.heap.size W W'):it.R ev s t v W':=by
 cases it with
 |pu x=>exact h
 |fn js F=>exact h
 |ca f φ=>obtain⟨x,e,h⟩:=h;exact⟨x,e,h.below hb⟩
 |bx ty cs=>exact⟨h.1,h.2.1,h.2.2.below hb (Nat.lt_of_lt_of_le h.2.1 ht)⟩
 |any=>trivial
theorem It.R.ev {it:It} {ev ev':Nat→Value} {s t:Nat} {v:Value} {W:World} (h:it.R ev s t v W) (he:∀js F,it=.fn js F→∀j∈js,ev' j=ev j):it.R ev' s t v W:=by
 cases it with
 |fn js F=>exact h.trans (congrArg F (List.map_congr_left (he js F rfl)).symm)
 |_=>exact h

structure EnvX (w:World) (bs:List Bo) (old new:World→Prop) (X:Nat→Prop) (W:World):Prop where
 bx:∀b∈bs,Blk W b.g b.t b.cs∧¬X b.g
 rso:Rests W (fun n=>(∀b∈bs,b.g≠n)∧¬X n) old
 rsn:Rests W (fun n=>w.heap.size≤n∧(∀b∈bs,b.g≠n)∧¬X n) new
 bel:Below w.heap.size w W
 own:∀b∈bs,w.heap.size≤b.g
 nd:bs.Pairwise fun a b=>a.g≠b.g
section
variable {w W W0:World} {bs:List Bo} {old new φ:World→Prop} {X X':Nat→Prop} {F:Nat→Prop}
theorem Rests.ltX (h:Rests W F φ):Rests W (fun n=>F n∧n<W.heap.size) φ:=⟨h.now,fun _ hw=>h.lift _ fun b hF hb=>hw b ⟨hF,hb⟩ hb⟩
theorem EnvX.of (h:Env w bs old new W0) (hb:Below W0.heap.size W0 W):EnvX w bs old new (W0.heap.size≤·) W:=
 ⟨fun b hm=>⟨(h.bx b hm).below hb (h.bx b hm).lt,Nat.not_le.2 (h.bx b hm).lt⟩,(h.rso.ltX.mono fun _ hn=>⟨hn.1,Nat.not_le.2 hn.2⟩).below hb,(h.rsn.ltX.mono fun _ hn=>⟨hn.1.1,hn.1.2,Nat.not_le.2 hn.2⟩).below hb,Below.after h.bel hb,h.own,h.nd⟩
theorem EnvX.env (h:EnvX w bs old new X W):Env w bs old new W:=
 ⟨fun b hm=>(h.bx b hm).1,h.rso.mono fun _ hn=>hn.1,h.rsn.mono fun _ hn=>⟨hn.1,hn.2.1⟩,h.bel,h.own,h.nd⟩
theorem EnvX.sub (h:EnvX w bs old new X W) (hX:∀n,X' n→X n):EnvX w bs old new X' W:=
 ⟨fun b hm=>⟨(h.bx b hm).1,fun k=>(h.bx b hm).2 (hX _ k)⟩,h.rso.mono fun _ hn=>⟨hn.1,fun k=>hn.2 (hX _ k)⟩,h.rsn.mono fun _ hn=>⟨hn.1,hn.2.1,fun k=>hn.2.2 (hX _ k)⟩,h.bel,h.own,h.nd⟩
theorem EnvX.box {s:Nat} {t:TypeId} {cs:Array Value} (h:EnvX w bs old new X W) (hs:X s) (hw:w.heap.size≤s) (hb:Blk W s t cs) (hX:∀n,X' n→X n∧n≠s):EnvX w (⟨s,t,cs⟩::bs) old new X' W:=by
 have hne:∀n,¬X n→s≠n:=fun n hn e=>hn (e▸hs)
 refine⟨?_,h.rso.mono fun n hn=>⟨?_,fun k=>hn.2 (hX n k).1⟩,h.rsn.mono fun n hn=>⟨hn.1,?_,fun k=>hn.2.2 (hX n k).1⟩,h.bel,?_,List.Pairwise.cons (fun b hm=>hne _ (h.bx b hm).2) h.nd⟩
 ·intro b hm
  rcases List.mem_cons.1 hm with rfl|hm
  ·exact⟨hb,fun k=>(hX _ k).2 rfl⟩
  ·exact⟨(h.bx b hm).1,fun k=>(h.bx b hm).2 (hX _ k).1⟩
 ·intro b hm
  rcases List.mem_cons.1 hm with rfl|hm
  ·exact hne n hn.2
  ·exact hn.1 b hm
 ·intro b hm
  rcases List.mem_cons.1 hm with rfl|hm
  ·exact hne n hn.2.2
  ·exact hn.2.1 b hm
 ·intro b hm
  rcases List.mem_cons.1 hm with rfl|hm
  ·exact hw
  ·exact h.own b hm
theorem EnvX.fact {s t:Nat} (h:EnvX w bs old new X W) (hr:Rests W (fun n=>s≤n∧n<t) φ) (hs:∀n,s≤n→n<t→X n∧w.heap.size≤n) (hX:∀n,X' n→X n∧¬(s≤n∧n<t)):EnvX w bs old (fun V=>φ V∧new V) X' W:=by
 have h':=h.sub (X':=X') (fun n k=>(hX n k).1)
 exact⟨h'.bx,h'.rso,(hr.mono fun n hn=>⟨(hs n hn.1 hn.2).2,fun b hm e=>(h.bx b hm).2 (e▸(hs n hn.1 hn.2).1),fun k=>(hX n k).2 hn⟩).and h'.rsn,h'.bel,h'.own,h'.nd⟩
end

abbrev Tm:=List (Nat×Option Nat×List Nat×It)
def evU (ev:Nat→Value) (i:Nat) (v:Value):Nat→Value:=fun n=>if n=i then v else ev n
def Tel (u:Nat→Value) (w:World) (old:World→Prop) (K:(Nat→Value)→Act→World→Prop):Tm→(Nat→Value)→List Bo→(World→Prop)→Act→Prop
 |[],ev,bs,new,a=>∀a' W,a'=a→Hid (Env w bs old new W)→K ev a' W
 |(i,d,_,.pu v)::l,ev,bs,new,a=>Tel u w old K l (evU ev i v) bs new (a.put d v)
 |(i,d,_,.fn js F)::l,ev,bs,new,a=>Tel u w old K l (evU ev i (F (js.map ev))) bs new (a.put d (F (js.map ev)))
 |(i,d,_,.ca f φ)::l,ev,bs,new,a=>∀x,Tel u w old K l (evU ev i (f x)) bs (fun V=>φ x V∧new V) (a.put d (f x))
 |(i,d,_,.bx t cs)::l,ev,bs,new,a=>∀g,Tel u w old K l (evU ev i (.pointer (some ⟨g,0,none⟩))) (⟨g,t,cs⟩::bs) new (a.put d (.pointer (some ⟨g,0,none⟩)))
 |(i,d,_,.any)::l,ev,bs,new,a=>Tel u w old K l (evU ev i (u i)) bs new (a.put d (u i))
def putT:Tm→(Nat→Value)→Act→Act
 |[],_,a=>a
 |x::l,f,a=>putT l f (a.put x.2.1 (f x.1))
def srcs:Tm→List Nat→Bool
 |[],_=>true
 |x::l,S=>(match x.2.2.2 with|.fn js _=>js.all S.contains|_=>true)&&srcs l (x.1::S)

theorem znN {w:World} {old:World→Prop} {K:(Nat→Value)→Act→World→Prop} {f:Nat→Value} {s t:Nat→Nat} {W:World}:
 ∀(l:Tm) (S:List Nat) (ev:Nat→Value) (bs:List Bo) (new:World→Prop) (a:Act) (X:Nat→Prop),
  (∀x∈l,x.2.2.2.R f (s x.1) (t x.1) (f x.1) W∧w.heap.size≤s x.1∧∀n,s x.1≤n→n<t x.1→X n)→
  l.Pairwise (fun x y=>x.1≠y.1∧∀n,s x.1≤n→n<t x.1→¬(s y.1≤n∧n<t y.1))→srcs l S=true→(∀j∈S,ev j=f j∧∀y∈l,y.1≠j)→
  EnvX w bs old new X W→Tel f w old K l ev bs new a→∃ev',(∀j,(j∈S∨∃x∈l,x.1=j)→ev' j=f j)∧K ev' (putT l f a) W:=by
 intro l
 induction l with
 |nil=>
  intro S ev bs new a X _ _ _ hS hE hT
  exact⟨ev,fun j hj=>(hS j (hj.resolve_right fun⟨_,h,_⟩=>by cases h)).1,hT _ W rfl (znd hE.env)⟩
 |cons x l ih=>
  intro S ev bs new a X hR hP hs hS hE hT
  obtain⟨i,d,D,it⟩:=x
  have hx:=hR _ (List.mem_cons_self ..)
  obtain⟨hP1,hP2⟩:=List.pairwise_cons.1 hP
  unfold srcs at hs
  obtain⟨hs1,hs2⟩:=Bool.and_eq_true_iff.1 hs
  have fin:∀(ev':Nat→Value),(∀j,(j∈i::S∨∃x∈l,x.1=j)→ev' j=f j)→∀j,(j∈S∨∃x∈(i,d,D,it)::l,x.1=j)→ev' j=f j:=fun ev' h j hj=>by
   refine h j ?_
   rcases hj with hj|⟨y,hy,rfl⟩
   ·exact .inl (List.mem_cons_of_mem _ hj)
   ·rcases List.mem_cons.1 hy with rfl|hy
    ·exact .inl (List.mem_cons_self ..)
    ·exact .inr ⟨y,hy,rfl⟩
  have hS':∀v,v=f i→∀j∈i::S,evU ev i v j=f j∧∀y∈l,y.1≠j:=fun v hv j hj=>by
   rcases List.mem_cons.1 hj with rfl|hj
   ·exact⟨by simp[evU,hv],fun y hy e=>(hP1 y hy).1 e.symm⟩
   ·have h:=hS j hj
    have hne:j≠i:=fun e=>h.2 _ (List.mem_cons_self ..) e.symm
    exact⟨by simp[evU,hne,h.1],fun y hy=>h.2 y (List.mem_cons_of_mem _ hy)⟩
  have hR':∀X':Nat→Prop,(∀n,X n→¬(s i≤n∧n<t i)→X' n)→∀y∈l,y.2.2.2.R f (s y.1) (t y.1) (f y.1) W∧w.heap.size≤s y.1∧∀n,s y.1≤n→n<t y.1→X' n:=fun X' hX y hy=>by
   have h:=hR y (List.mem_cons_of_mem _ hy)
   exact⟨h.1,h.2.1,fun n h1 h2=>hX n (h.2.2 n h1 h2) fun k=>(hP1 y hy).2 n k.1 k.2 ⟨h1,h2⟩⟩
  have plain:∀v,v=f i→Tel f w old K l (evU ev i v) bs new (a.put d v)→∃ev',(∀j,(j∈S∨∃x∈(i,d,D,it)::l,x.1=j)→ev' j=f j)∧K ev' (putT ((i,d,D,it)::l) f a) W:=fun v hv h=>by
   obtain⟨ev',h1,h2⟩:=ih (i::S) _ bs new _ X (fun y hy=>hR y (List.mem_cons_of_mem _ hy)) hP2 hs2 (hS' v hv) hE h
   refine⟨ev',fin ev' h1,?_⟩
   rw[hv]at h2
   exact h2
  cases it with
  |pu v=>exact plain v hx.1.symm hT
  |fn js F=>
   have e:F (js.map ev)=f i:=by rw[List.map_congr_left fun j hj=>(hS j (by simpa using List.all_eq_true.1 hs1 j hj)).1];exact hx.1.symm
   exact plain _ e hT
  |any=>exact plain (f i) rfl hT
  |ca g φ=>
   obtain⟨⟨y,e,hr⟩,hw,hX⟩:=hx
   obtain⟨ev',h1,h2⟩:=ih (i::S) _ bs _ _ (fun n=>X n∧¬(s i≤n∧n<t i)) (hR' _ fun n h k=>⟨h,k⟩) hP2 hs2 (hS' (g y) e.symm)
    (hE.fact hr (fun n h1 h2=>⟨hX n h1 h2,Nat.le_trans hw h1⟩) fun n h=>h) (hT y)
   refine⟨ev',fin ev' h1,?_⟩
   rw[←e]at h2
   exact h2
  |bx ty cs=>
   obtain⟨⟨e,hst,hb⟩,hw,hX⟩:=hx
   obtain⟨ev',h1,h2⟩:=ih (i::S) _ _ _ _ (fun n=>X n∧¬(s i≤n∧n<t i)) (hR' _ fun n h k=>⟨h,k⟩) hP2 hs2 (hS' (.pointer (some ⟨s i,0,none⟩)) e.symm)
    (hE.box (hX _ (Nat.le_refl _) hst) hw hb fun n h=>⟨h.1,fun e=>h.2 ⟨by rw[e];exact Nat.le_refl _,by rw[e];exact hst⟩⟩) (hT (s i))
   refine⟨ev',fin ev' h1,?_⟩
   rw[←e]at h2
   exact h2

/-! the list's operations,whatever order they come up in -/
def znn (md:Region.Mode) (ops:Array Oper) (i:Nat):List Nat:=
 match ops[i]?with
 |none=>[]
 |some o=>(o.after.toList.filter (Region.binds md)).map (·.on)
def cov (md:Region.Mode) (ops:Array Oper):List Nat→List Nat→List Nat
 |[],N=>N
 |i::r,N=>cov md ops r (if N.contains i then znn md ops i++N else N)
def znX (md:Region.Mode) (ops:Array Oper) (l0:Array Bool) (T:Tm):Bool:=
 (T.all fun x=>match ops[x.1]?with
  |none=>false
  |some o=>decide (o.dst=x.2.1)&&!l0.getD x.1 true&&((znn md ops x.1).all fun e=>decide (e<x.1)&&((T.map (·.1)).contains e||l0.getD e false))&&(match x.2.2.2 with|.fn js _=>js.all fun j=>(znn md ops x.1).contains j&&(T.map (·.1)).contains j|_=>true)&&x.2.2.1.all (znn md ops x.1).contains)&&
 (decide (T.map (·.1)).Nodup&&decide (T.filterMap (·.2.1)).Nodup&&srcs T []&&
 (List.range ops.size).all fun s=>(T.map (·.1)).contains s||l0.getD s true||(T.map (·.1)).all fun i=>(cov md ops (T.map (·.1)).reverse (znn md ops s)).contains i)
def zno (D:List Nat) (x:Nat×Option Nat×List Nat×It):Nat×Option Nat×List Nat×It:=if D.contains x.1 then x else(x.1,x.2.1,[],.any)
theorem znr (D:List Nat) (x:Nat×Option Nat×List Nat×It):(zno D x).1=x.1:=by unfold zno;split<;>rfl
theorem zoi (D:List Nat) (x:Nat×Option Nat×List Nat×It):(zno D x).2.1=x.2.1:=by unfold zno;split<;>rfl
theorem znA (D:List Nat) (f:Nat→Value):∀(l:Tm) (a:Act),putT (l.map (zno D)) f a=putT l f a
 |[],_=>rfl
 |x::l,a=>by
  show putT (l.map (zno D)) f (a.put (zno D x).2.1 (f (zno D x).1))=_
  rw[znr,zoi]
  exact znA D f l _
theorem znB (D:List Nat):∀(l:Tm) (S:List Nat),srcs l S=true→srcs (l.map (zno D)) S=true
 |[],_,_=>rfl
 |x::l,S,h=>by
  unfold srcs at h
  obtain⟨h1,h2⟩:=Bool.and_eq_true_iff.1 h
  show((match (zno D x).2.2.2 with|.fn js _=>js.all S.contains|_=>true)&&srcs (l.map (zno D)) ((zno D x).1::S))=true
  rw[znr]
  refine Bool.and_eq_true_iff.2 ⟨?_,znB D l _ h2⟩
  unfold zno
  by_cases hc:D.contains x.1=true
  ·rw[if_pos hc];exact h1
  ·rw[if_neg hc]
theorem zo1 (a:Act) (d:Option Nat) (u v:Value):(a.put d u).put d v=a.put d v:=by
 cases d with
 |none=>rfl
 |some d=>simp[Act.put]
def znV (a:Act):Option Nat→Value
 |some d=>a.tmps.getD d undef
 |none=>undef
theorem znY (a:Act) (d:Option Nat):a.put d (znV a d)=a:=by
 cases d with
 |none=>rfl
 |some d=>
  show({a with tmps:=a.tmps.setIfInBounds d (a.tmps.getD d undef)}:Act)=a
  have h:a.tmps.setIfInBounds d (a.tmps.getD d undef)=a.tmps:=by
   apply Array.ext (by simp)
   intro j h1 h2
   by_cases e:d=j
   ·subst e;simp[h2]
   ·rw[Array.getElem_setIfInBounds_ne (by simpa using h1) e]
  rw[h]
theorem znu {f g:Nat→Value}:∀(l:Tm) (a:Act),(∀x∈l,f x.1=g x.1)→putT l f a=putT l g a
 |[],_,_=>rfl
 |x::l,a,h=>by
  show putT l f (a.put x.2.1 (f x.1))=putT l g (a.put x.2.1 (g x.1))
  rw[h x (List.mem_cons_self ..)]
  exact znu l _ fun y hy=>h y (List.mem_cons_of_mem _ hy)
theorem znI {f:Nat→Value} {d:Option Nat} {v:Value}:∀(l:Tm) (a:Act),(∀x∈l,∀e,d=some e→x.2.1≠some e)→putT l f (a.put d v)=(putT l f a).put d v
 |[],_,_=>rfl
 |x::l,a,h=>by
  show putT l f ((a.put d v).put x.2.1 (f x.1))=(putT l f (a.put x.2.1 (f x.1))).put d v
  rw[Act.put_comm a v (f x.1) (h x (List.mem_cons_self ..))]
  exact znI l _ fun y hy=>h y (List.mem_cons_of_mem _ hy)
theorem znJ {f:Nat→Value} {v:Value} {x:Nat×Option Nat×List Nat×It}:∀(l:Tm) (a:Act),(l.map (·.1)).Nodup→(l.filterMap (·.2.1)).Nodup→x∈l→putT l (evU f x.1 v) a=(putT l f a).put x.2.1 v
 |[],_,_,_,h=>by cases h
 |y::l,a,h1,h2,h=>by
  rw[List.map_cons,List.nodup_cons]at h1
  have hl2:(l.filterMap (·.2.1)).Nodup:=by
   rw[List.filterMap_cons]at h2
   split at h2
   ·exact h2
   ·exact(List.nodup_cons.1 h2).2
  show putT l (evU f x.1 v) (a.put y.2.1 (evU f x.1 v y.1))=(putT l f (a.put y.2.1 (f y.1))).put x.2.1 v
  rcases List.mem_cons.1 h with rfl|hm
  ·have e1:evU f x.1 v x.1=v:=by simp[evU]
   have hne:∀z∈l,evU f x.1 v z.1=f z.1:=fun z hz=>by
    have:z.1≠x.1:=fun e=>h1.1 (e▸List.mem_map_of_mem hz)
    simp[evU,this]
   rw[e1,znu l _ hne,←znI l,zo1]
   intro z hz e he k
   rw[List.filterMap_cons,he]at h2
   exact(List.nodup_cons.1 h2).1 (List.mem_filterMap.2 ⟨z,hz,k⟩)
  ·have hne:y.1≠x.1:=fun e=>h1.1 (e▸List.mem_map_of_mem hm)
   have e1:evU f x.1 v y.1=f y.1:=by simp[evU,hne]
   rw[e1]
   exact znJ l _ h1.2 hl2 hm

theorem znt {α β:Type _} {f:α→β}:∀{l:List α},(l.map f).Nodup→∀x∈l,∀y∈l,f x=f y→x=y
 |[],_,_,h,_,_,_=>by cases h
 |z::l,h,x,hx,y,hy,e=>by
  rw[List.map_cons,List.nodup_cons]at h
  rcases List.mem_cons.1 hx with e1|hx2<;>rcases List.mem_cons.1 hy with e2|hy2
  ·rw[e1,e2]
  ·exact absurd (by rw[←e1,e];exact List.mem_map_of_mem hy2) h.1
  ·exact absurd (by rw[←e2,←e];exact List.mem_map_of_mem hx2) h.1
  ·exact znt h.2 x hx2 y hy2 e
theorem znz:∀(T:Tm) (l:Array Bool) (j:Nat),(T.foldl (fun l x=>l.setIfInBounds x.1 true) l)[j]?=if(∃x∈T,x.1=j)∧j<l.size then some true else l[j]?
 |[],l,j=>by simp
 |x::T,l,j=>by
  rw[List.foldl_cons,znz T _ j,Array.size_setIfInBounds]
  by_cases hj:j<l.size
  ·by_cases h:∃y∈T,y.1=j
   ·obtain⟨y,hy,e⟩:=h
    rw[if_pos ⟨⟨y,hy,e⟩,hj⟩,if_pos ⟨⟨y,List.mem_cons_of_mem _ hy,e⟩,hj⟩]
   ·rw[if_neg fun k=>h k.1]
    by_cases e:x.1=j
    ·rw[if_pos ⟨⟨x,List.mem_cons_self ..,e⟩,hj⟩,e]
     simp[hj]
    ·rw[Array.getElem?_setIfInBounds_ne e,if_neg]
     rintro⟨⟨y,hy,e2⟩,_⟩
     rcases List.mem_cons.1 hy with rfl|hy
     ·exact e e2
     ·exact h ⟨y,hy,e2⟩
  ·rw[if_neg fun k=>hj k.2,if_neg fun k=>hj k.2]
   simp[hj]
theorem zoa {α:Type _} {R S:α→α→Prop}:∀(l:List α),l.Pairwise R→(∀x∈l,∀y∈l,R x y→S x y)→l.Pairwise S
 |[],_,_=>.nil
 |x::l,h,k=>by
  obtain⟨h1,h2⟩:=List.pairwise_cons.1 h
  exact .cons (fun y hy=>k x (List.mem_cons_self ..) y (List.mem_cons_of_mem _ hy) (h1 y hy)) (zoa l h2 fun y hy z hz=>k y (List.mem_cons_of_mem _ hy) z (List.mem_cons_of_mem _ hz))
theorem zom {α:Type _} (l:List α) (p:α→Prop) (f:α→Nat) (h:∃x∈l,p x):∃x∈l,p x∧∀y∈l,p y→f x≤f y:=by
 induction l with
 |nil=>obtain⟨x,h,_⟩:=h;cases h
 |cons z l ih=>
  by_cases hl:∃x∈l,p x
  ·obtain⟨x,hx,hp,hm⟩:=ih hl
   by_cases hz:p z∧f z≤f x
   ·refine⟨z,List.mem_cons_self ..,hz.1,fun y hy hpy=>?_⟩
    rcases List.mem_cons.1 hy with rfl|hy
    ·exact Nat.le_refl _
    ·exact Nat.le_trans hz.2 (hm y hy hpy)
   ·refine⟨x,List.mem_cons_of_mem _ hx,hp,fun y hy hpy=>?_⟩
    rcases List.mem_cons.1 hy with rfl|hy
    ·exact Nat.le_of_lt (Nat.lt_of_not_le fun k=>hz ⟨hpy,k⟩)
    ·exact hm y hy hpy
  ·obtain⟨x,hx,hp⟩:=h
   rcases List.mem_cons.1 hx with rfl|hx
   ·refine⟨x,List.mem_cons_self ..,hp,fun y hy hpy=>?_⟩
    rcases List.mem_cons.1 hy with rfl|hy
    ·exact Nat.le_refl _
    ·exact absurd ⟨y,hy,hpy⟩ hl
   ·exact absurd ⟨x,hx,hp⟩ hl
theorem zo5 (l:Array Bool):∀(T:Tm) (x:Nat×Option Nat×List Nat×It),x∈T→(T.Pairwise fun x y=>x.1≠y.1)→l.getD x.1 true=false→T.countP (fun y=>!l.getD y.1 true)=T.countP (fun y=>!(l.setIfInBounds x.1 true).getD y.1 true)+1
 |[],_,h,_,_=>by cases h
 |z::T,x,hx,hp,hu=>by
  obtain⟨h1,h2⟩:=List.pairwise_cons.1 hp
  have hlt:x.1<l.size:=by
   rcases Nat.lt_or_ge x.1 l.size with h'|h'
   ·exact h'
   ·simp[Array.getElem?_eq_none h']at hu
  rcases List.mem_cons.1 hx with rfl|hx
  ·have he:T.countP (fun y=>!l.getD y.1 true)=T.countP (fun y=>!(l.setIfInBounds x.1 true).getD y.1 true):=by
    apply List.countP_congr
    intro y hy
    rw[_root_.Go.getD_set_ne true (h1 y hy)]
   have e1:(l.setIfInBounds x.1 true).getD x.1 true=true:=by simp[hlt]
   rw[List.countP_cons,List.countP_cons,he,hu,e1]
   simp
  ·have hne:x.1≠z.1:=fun e=>h1 x hx e.symm
   have ih:=zo5 l T x hx h2 hu
   rw[List.countP_cons,List.countP_cons,ih,_root_.Go.getD_set_ne true hne]
   omega

section
variable {P:Program} {md:Region.Mode} {ops:Array Oper} {Q:Exit→Act→World→Prop}
theorem znT {l:Array Bool}:∀(is N:List Nat),(∀i∈is,l.getD i false=true→∀e∈znn md ops i,l.getD e false=true)→(∀e∈N,l.getD e false=true)→∀e∈cov md ops is N,l.getD e false=true
 |[],_,_,hN=>hN
 |i::r,N,hc,hN=>by
  unfold cov
  refine znT r _ (fun j hj=>hc j (List.mem_cons_of_mem _ hj)) ?_
  split
  ·rename_i h
   intro e he
   rcases List.mem_append.1 he with he|he
   ·exact hc i (List.mem_cons_self ..) (hN i (by simpa using h)) e he
   ·exact hN e he
  ·exact hN
structure DagI (T:Tm) (l0:Array Bool) (W0:World) (md:Region.Mode) (ops:Array Oper) (l:Array Bool) (f:Nat→Value) (s t:Nat→Nat) (W:World):Prop where
 sz:l.size=l0.size
 out:∀j,(∀x∈T,x.1≠j)→l[j]?=l0[j]?
 cl:∀x∈T,l.getD x.1 true=true→∀e∈znn md ops x.1,l.getD e false=true
 dn:∀x∈T,l.getD x.1 true=true→x.2.2.2.R f (s x.1) (t x.1) (f x.1) W
 un:∀x∈T,l.getD x.1 true=false→∀n,s x.1≤n→¬n<t x.1
 iv:∀x∈T,W0.heap.size≤s x.1∧t x.1≤W.heap.size
 dj:∀x∈T,∀y∈T,x.1≠y.1→∀n,s x.1≤n→n<t x.1→¬(s y.1≤n∧n<t y.1)
 be:Below W0.heap.size W0 W

variable {T:Tm} {l0 l1:Array Bool} {w W0:World} {bs:List Bo} {old new:World→Prop} {a0:Act} {n:Nat}
structure Seal (p:Prop):Prop where
 out:p
def ArmT (P:Program) (ops:Array Oper) (Q:Exit→Act→World→Prop) (T:Tm) (w:World) (old new:World→Prop) (bs:List Bo) (a0:Act) (x:Nat×Option Nat×List Nat×It) (o:Oper):Prop:=
 ∀u,Tel u w old (fun ev a W=>∀K':Act→World→Prop,Shut (∀a' v W',a'=a.put x.2.1 v→Below W.heap.size W W'→x.2.2.2.R ev W.heap.size W'.heap.size v W'→K' a' W')→Seal (if Region.wanted o (yielded ops a.tmps)=true then Oper.wp P o a W K' Q else K' (a.put o.dst undef) W)) (T.map (zno x.2.2.1)) (fun _=>undef) bs new a0
theorem zob (HE:Env w bs old new W0) (hck:znX md ops l0 T=true) (hl1:T.foldl (fun l x=>l.setIfInBounds x.1 true) l0=l1)
 (harm:∀x∈T,∀o,ops[x.1]?=some o→ArmT P ops Q T w old new bs a0 x o)
 (hend:∀u,Tel u w old (fun _ a W=>wpAny P md ops Q n l1 a W) T (fun _=>undef) bs new a0):
 ∀(c:Nat) (l:Array Bool) (f:Nat→Value) (s t:Nat→Nat) (W:World),T.countP (fun x=>!l.getD x.1 true)=c→DagI T l0 W0 md ops l f s t W→wpAny P md ops Q (c+n) l (putT T f a0) W:=by
 unfold znX at hck
 obtain⟨hck,hk2⟩:=Bool.and_eq_true_iff.1 hck
 obtain⟨hk2,hkC⟩:=Bool.and_eq_true_iff.1 hk2
 obtain⟨hk2,hkS⟩:=Bool.and_eq_true_iff.1 hk2
 obtain⟨hkN,hkD⟩:=Bool.and_eq_true_iff.1 hk2
 replace hkN:=of_decide_eq_true hkN
 replace hkD:=of_decide_eq_true hkD
 rw[List.all_eq_true]at hck hkC
 have hT:∀x∈T,∃o,ops[x.1]?=some o∧o.dst=x.2.1∧l0.getD x.1 true=false∧(∀e∈znn md ops x.1,e<x.1∧((∃y∈T,y.1=e)∨l0.getD e false=true))∧(∀js F,x.2.2.2=.fn js F→∀j∈js,j∈znn md ops x.1∧∃y∈T,y.1=j)∧∀e∈x.2.2.1,e∈znn md ops x.1:=fun x hx=>by
  have h:=hck x hx
  cases ho:ops[x.1]?with
  |none=>simp[ho]at h
  |some o=>
   simp only[ho,Bool.and_eq_true,decide_eq_true_eq,Bool.not_eq_true',List.all_eq_true,Bool.or_eq_true,List.contains_iff_mem,List.mem_map]at h
   refine⟨o,rfl,h.1.1.1.1,h.1.1.1.2,h.1.1.2,fun js F e=>?_,h.2⟩
   have h4:=h.1.2
   rw[e]at h4
   simpa[List.contains_iff_mem,List.mem_map] using h4
 have hpw:T.Pairwise (fun x y=>x.1≠y.1):=List.pairwise_map.1 hkN
 have uniq:=znt hkN
 intro c
 induction c with
 |zero=>
  intro l f s t W hc hI
  have hall:∀x∈T,l.getD x.1 true=true:=fun x hx=>by
   have h:=List.countP_eq_zero.1 hc x hx
   simpa using h
  have hlt:∀x∈T,x.1<l0.size:=fun x hx=>by
   obtain⟨o,_,_,h,_⟩:=hT x hx
   rcases Nat.lt_or_ge x.1 l0.size with h'|h'
   ·exact h'
   ·simp[Array.getElem?_eq_none h']at h
  have hl:l=l1:=by
   rw[←hl1]
   apply Array.ext_getElem?
   intro j
   rw[znz T l0 j]
   by_cases h:∃x∈T,x.1=j
   ·obtain⟨x,hx,rfl⟩:=h
    rw[if_pos ⟨⟨x,hx,rfl⟩,hlt x hx⟩]
    have h1:=hall x hx
    have h2:x.1<l.size:=by rw[hI.sz];exact hlt x hx
    simp[h2]at h1⊢
    exact h1
   ·rw[if_neg (fun k=>h k.1)]
    exact hI.out j fun x hx e=>h ⟨x,hx,e⟩
  obtain⟨ev,_,h⟩:=znN (f:=f) (s:=s) (t:=t) (W:=W) T [] _ bs new a0 (W0.heap.size≤·) (fun x hx=>⟨hI.dn x hx (hall x hx),Nat.le_trans HE.bel.size (hI.iv x hx).1,fun n h1 _=>Nat.le_trans (hI.iv x hx).1 h1⟩)
   (zoa T hpw fun x hx y hy hne=>⟨hne,hI.dj x hx y hy hne⟩) hkS (fun j hj=>by cases hj) (EnvX.of HE hI.be) (hend f)
  rw[hl,Nat.zero_add]
  exact h
 |succ c ih=>
  intro l f s t W hc hI
  have hget:∀x∈T,l.getD x.1 true=true→l.getD x.1 false=true:=fun x hx h=>by
   obtain⟨o,_,_,h0,_⟩:=hT x hx
   have hlt:x.1<l.size:=by
    rw[hI.sz]
    rcases Nat.lt_or_ge x.1 l0.size with h'|h'
    ·exact h'
    ·simp[Array.getElem?_eq_none h']at h0
   simp[hlt]at h⊢
   exact h
  have hl0:∀e,l0.getD e false=true→l.getD e false=true:=fun e he=>by
   by_cases h:∃x∈T,x.1=e
   ·obtain⟨x,hx,rfl⟩:=h
    obtain⟨o,_,_,h0,_⟩:=hT x hx
    rcases Nat.lt_or_ge x.1 l0.size with h'|h'
    ·simp[h']at h0 he;rw[h0]at he;cases he
    ·simp[Array.getElem?_eq_none h']at he
   ·simp only[Array.getD_eq_getD_getElem?]at he⊢
    rw[hI.out e fun x hx k=>h ⟨x,hx,k⟩]
    exact he
  -- one of them may come up
  have hsome:∃x∈T,l.getD x.1 true=false:=by
   have h:0<T.countP (fun x=>!l.getD x.1 true):=by omega
   obtain⟨x,hx,h⟩:=List.countP_pos_iff.1 h
   exact⟨x,hx,by simpa using h⟩
  obtain⟨x0,hx0,hu0,hmin⟩:=zom T (fun x=>l.getD x.1 true=false) (·.1) hsome
  have hr0:x0.1∈Region.ready md ops l:=by
   obtain⟨o,ho,_,_,hd,_⟩:=hT x0 hx0
   refine mem_ready.2 ⟨hu0,o,ho,fun e he hb=>?_⟩
   have hm:e.on∈znn md ops x0.1:=by
    unfold znn
    rw[ho]
    exact List.mem_map.2 ⟨e,List.mem_filter.2 ⟨by simpa using he,hb⟩,rfl⟩
   obtain⟨hlt,⟨y,hy,e1⟩|h⟩:=hd _ hm
   ·cases hv:l.getD y.1 true with
    |true=>rw[←e1];exact hget y hy hv
    |false=>have:=hmin y hy hv;omega
   ·exact hl0 _ h
  rw[Nat.succ_add]
  refine⟨fun h0=>(by rw[h0]at hr0;cases hr0),fun i hi=>?_⟩
  obtain⟨hiu,o,ho,hia⟩:=mem_ready.1 hi
  have hdeps:∀e∈znn md ops i,l.getD e false=true:=fun e he=>by
   unfold znn at he
   rw[ho]at he
   obtain⟨e',h1,rfl⟩:=List.mem_map.1 he
   obtain⟨h1,h2⟩:=List.mem_filter.1 h1
   exact hia e' (by simpa using h1) h2
  have hiT:∃x∈T,x.1=i:=by
   have hlt:i<ops.size:=(Array.getElem?_eq_some_iff.1 ho).1
   have h:=hkC i (List.mem_range.2 hlt)
   simp only[Bool.or_eq_true,List.contains_iff_mem,List.mem_map,List.all_eq_true]at h
   rcases h with(h|h)|h
   ·obtain⟨y,hy,e⟩:=h;exact⟨y,hy,e⟩
   ·by_cases h2:∃x∈T,x.1=i
    ·exact h2
    ·have h3:=hI.out i fun x hx e=>h2 ⟨x,hx,e⟩
     simp only[Array.getD_eq_getD_getElem?]at h hiu
     rw[h3,h]at hiu
     cases hiu
   ·exfalso
    have h3:=h x0.1 ⟨x0,hx0,rfl⟩
    have h4:=znT (l:=l) _ _ (fun j hj hv=>by
     obtain⟨y,hy,e⟩:=List.mem_map.1 (List.mem_reverse.1 hj)
     subst e
     refine hI.cl y hy ?_
     cases h5:l.getD y.1 true with
     |true=>rfl
     |false=>
      simp only[Array.getD_eq_getD_getElem?]at h5 hv
      cases h6:l[y.1]?<;>simp[h6]at h5 hv
      rw[h5]at hv;cases hv) hdeps _ h3
    simp only[Array.getD_eq_getD_getElem?]at h4 hu0
    cases h6:l[x0.1]?<;>simp[h6]at h4 hu0
    rw[h4]at hu0;cases hu0
  obtain⟨x,hx,rfl⟩:=hiT
  obtain⟨o2,ho2,hdst,h0,hd,hfn,hD⟩:=hT x hx
  obtain rfl:o=o2:=by rw[ho]at ho2;exact Option.some.inj ho2
  have hmask:∀y∈T.map (zno x.2.2.1),∃z∈T,y=zno x.2.2.1 z:=fun y hy=>by
   obtain⟨z,hz,e⟩:=List.mem_map.1 hy
   exact⟨z,hz,e.symm⟩
  obtain⟨ev,hev,hA⟩:=znN (f:=f) (s:=s) (t:=t) (W:=W) (T.map (zno x.2.2.1)) [] _ bs new a0 (W0.heap.size≤·) (fun y hy=>by
   obtain⟨z,hz,rfl⟩:=hmask y hy
   rw[znr]
   refine⟨?_,Nat.le_trans HE.bel.size (hI.iv z hz).1,fun n h1 _=>Nat.le_trans (hI.iv z hz).1 h1⟩
   unfold zno
   by_cases hc:x.2.2.1.contains z.1=true
   ·rw[if_pos hc]
    have h1:=hdeps z.1 (hD _ (by simpa using hc))
    refine hI.dn z hz ?_
    cases h5:l.getD z.1 true with
    |true=>rfl
    |false=>
     simp only[Array.getD_eq_getD_getElem?]at h5 h1
     cases h6:l[z.1]?<;>simp[h6]at h5 h1
     rw[h5]at h1;cases h1
   ·rw[if_neg hc]
    trivial)
   (List.pairwise_map.2 (zoa T hpw fun y hy z hz hne=>by rw[znr,znr];exact⟨hne,hI.dj y hy z hz hne⟩)) (znB _ T [] hkS) (fun j hj=>by cases hj) (EnvX.of HE hI.be) (harm x hx o ho f)
  rw[znA]at hA
  refine wpOp_step ho fun K' hK=>(hA K' fun a' v W' ha hb hR=>hK a' W' ?_).out
  rw[ha]
  have hput:=znJ (f:=f) (v:=v) T a0 hkN hkD hx
  rw[←hput]
  have hcnt:T.countP (fun y=>!(l.setIfInBounds x.1 true).getD y.1 true)=c:=by
   have h:=zo5 l T x hx hpw hiu
   omega
  have hgs:∀y∈T,y.1≠x.1→(l.setIfInBounds x.1 true).getD y.1 true=l.getD y.1 true:=fun y _ hne=>_root_.Go.getD_set_ne true (Ne.symm hne)
  have hev':∀j,(∃y∈T,y.1=j)→ev j=f j:=fun j ⟨y,hy,e⟩=>hev j (.inr ⟨zno _ y,List.mem_map_of_mem hy,by rw[znr];exact e⟩)
  refine ih (l.setIfInBounds x.1 true) (evU f x.1 v) (fun j=>if j=x.1 then W.heap.size else s j) (fun j=>if j=x.1 then W'.heap.size else t j) W' hcnt ⟨by rw[Array.size_setIfInBounds];exact hI.sz,?_,?_,?_,?_,?_,?_,Below.after hI.be hb⟩
  ·intro j hj
   rw[Array.getElem?_setIfInBounds_ne (hj x hx)]
   exact hI.out j hj
  ·intro y hy hv e he
   by_cases hyx:y.1=x.1
   ·rw[hyx]at he
    exact getD_set_true (hdeps e he)
   ·rw[hgs y hy hyx]at hv
    exact getD_set_true (hI.cl y hy hv e he)
  ·intro y hy hv
   by_cases hyx:y.1=x.1
   ·obtain rfl:=uniq y hy x hx hyx
    have e1:evU f y.1 v y.1=v:=by simp[evU]
    show y.2.2.2.R _ (if y.1=y.1 then _ else _) (if y.1=y.1 then _ else _) _ _
    rw[if_pos rfl,if_pos rfl,e1]
    refine hR.ev fun js F e j hj=>?_
    obtain⟨h1,h2⟩:=hfn js F e j hj
    have h3:=(hd j h1).1
    have:j≠y.1:=by omega
    simp[evU,this,hev' j h2]
   ·rw[hgs y hy hyx]at hv
    have e1:evU f x.1 v y.1=f y.1:=by simp[evU,hyx]
    show y.2.2.2.R _ (if y.1=x.1 then _ else _) (if y.1=x.1 then _ else _) _ _
    rw[if_neg hyx,if_neg hyx,e1]
    refine((hI.dn y hy hv).below (hI.iv y hy).2 hb).ev fun js F e j hj=>?_
    obtain⟨o3,ho3,_,_,_,h5,_⟩:=hT y hy
    obtain⟨h1,h2⟩:=h5 js F e j hj
    have h6:=hI.cl y hy hv j h1
    have:j≠x.1:=fun k=>by
     rw[k]at h6
     simp only[Array.getD_eq_getD_getElem?]at h6 hiu
     cases h7:l[x.1]?<;>simp[h7]at h6 hiu
     rw[h6]at hiu;cases hiu
    simp[evU,this]
  ·intro y hy hv n
   by_cases hyx:y.1=x.1
   ·exfalso
    rw[hyx]at hv
    have hlt:x.1<l.size:=by
     rcases Nat.lt_or_ge x.1 l.size with h'|h'
     ·exact h'
     ·simp[Array.getElem?_eq_none h']at hiu
    simp[hlt]at hv
   ·rw[hgs y hy hyx]at hv
    show(if y.1=x.1 then _ else _)≤n→¬n<(if y.1=x.1 then _ else _)
    rw[if_neg hyx,if_neg hyx]
    exact hI.un y hy hv n
  ·intro y hy
   show _≤(if y.1=x.1 then _ else _)∧(if y.1=x.1 then _ else _)≤_
   split
   ·exact⟨hI.be.size,Nat.le_refl _⟩
   ·exact⟨(hI.iv y hy).1,Nat.le_trans (hI.iv y hy).2 hb.size⟩
  ·intro y hy z hz hne n
   have hy2:=(hI.iv y hy).2
   have hz2:=(hI.iv z hz).2
   have h:=hI.dj y hy z hz hne n
   show(if y.1=x.1 then _ else _)≤n→n<(if y.1=x.1 then _ else _)→¬((if z.1=x.1 then _ else _)≤n∧n<(if z.1=x.1 then _ else _))
   split<;>split<;>first|exact h|omega
theorem Tel.mono {u:Nat→Value} {K K':(Nat→Value)→Act→World→Prop} (hK:∀ev a W,K ev a W→K' ev a W):∀(l:Tm) (ev:Nat→Value) (bs:List Bo) (new:World→Prop) (a:Act),Tel u w old K l ev bs new a→Tel u w old K' l ev bs new a
 |[],_,_,_,_,h=>fun a W e hE=>hK _ _ _ (h a W e hE)
 |(_,_,_,.pu _)::l,_,_,_,_,h=>Tel.mono hK l _ _ _ _ h
 |(_,_,_,.fn _ _)::l,_,_,_,_,h=>Tel.mono hK l _ _ _ _ h
 |(_,_,_,.ca _ _)::l,_,_,_,_,h=>fun x=>Tel.mono hK l _ _ _ _ (h x)
 |(_,_,_,.bx _ _)::l,_,_,_,_,h=>fun x=>Tel.mono hK l _ _ _ _ (h x)
 |(_,_,_,.any)::l,_,_,_,_,h=>Tel.mono hK l _ _ _ _ h
def Arms (P:Program) (ops:Array Oper) (Q:Exit→Act→World→Prop) (T:Tm) (w:World) (old new:World→Prop) (bs:List Bo) (a0:Act):Tm→Prop
 |[]=>True
 |x::l=>(∀o,ops[x.1]?=some o→ArmT P ops Q T w old new bs a0 x o)∧Arms P ops Q T w old new bs a0 l
theorem Arms.all:∀(l:Tm),Arms P ops Q T w old new bs a0 l→∀x∈l,∀o,ops[x.1]?=some o→ArmT P ops Q T w old new bs a0 x o
 |[],_,_,h=>by cases h
 |y::l,h,x,hx=>by
  rcases List.mem_cons.1 hx with rfl|hx
  ·exact h.1
  ·exact Arms.all l h.2 x hx
theorem armC {x:Nat×Option Nat×List Nat×It} {l:Tm} {o:Oper} (ho:ops[x.1]?=some o) (h:ArmT P ops Q T w old new bs a0 x o) (hl:Arms P ops Q T w old new bs a0 l):Arms P ops Q T w old new bs a0 (x::l):=
 ⟨fun o' h'=>by rw[ho]at h';cases h';exact h,hl⟩
theorem znp {id:Nat} (T:Tm) (n:Nat) (l1:Array Bool) (HE:Env w bs old new W0) (hm:P.follows .mixedOrders=true) (hck:znX .any ops (.replicate ops.size false) T=true)
 (hl1:T.foldl (fun l x=>l.setIfInBounds x.1 true) (.replicate ops.size false)=l1) (hn:T.length+n=ops.size)
 (harm:Arms P ops Q T w old new bs a0 T) (hend:∀u,Tel u w old (fun _ a W=>wpAny P .any ops Q n l1 a W) T (fun _=>undef) bs new a0):(Code.region id ops true).wp P Q a0 W0:=by
 refine wp_region_any hm ?_
 have hT:∀x∈T,∃o,ops[x.1]?=some o∧o.dst=x.2.1:=fun x hx=>by
  unfold znX at hck
  have h:=List.all_eq_true.1 (Bool.and_eq_true_iff.1 hck).1 x hx
  cases ho:ops[x.1]?with
  |none=>simp[ho]at h
  |some o=>exact⟨o,rfl,by simp only[ho,Bool.and_eq_true,decide_eq_true_eq]at h;exact h.1.1.1.1⟩
 have hu:∀x∈T,(Array.replicate ops.size false).getD x.1 true=false:=fun x hx=>by
  obtain⟨o,ho,_⟩:=hT x hx
  have hlt:x.1<ops.size:=(Array.getElem?_eq_some_iff.1 ho).1
  simp[hlt]
 have h:=zob HE.drew hck hl1 (Arms.all T harm) hend T.length (.replicate ops.size false) (fun i=>znV a0 ((ops[i]?).bind (·.dst))) (fun _=>W0.drew.heap.size) (fun _=>W0.drew.heap.size) W0.drew
  (by rw[List.countP_eq_length];intro x hx;rw[hu x hx];rfl)
  ⟨rfl,fun _ _=>rfl,fun x hx hv=>(by rw[hu x hx]at hv;cases hv),fun x hx hv=>(by rw[hu x hx]at hv;cases hv),fun _ _ _ n h1 h2=>(by omega),fun _ _=>⟨Nat.le_refl _,Nat.le_refl _⟩,fun _ _ _ _ _ n h1 h2 _=>(by omega),.refl _ _⟩
 have e:∀l:Tm,(∀x∈l,∃o,ops[x.1]?=some o∧o.dst=x.2.1)→putT l (fun i=>znV a0 ((ops[i]?).bind (·.dst))) a0=a0:=fun l=>by
  induction l with
  |nil=>exact fun _=>rfl
  |cons x l ih=>
   intro hl
   obtain⟨o,ho,hd⟩:=hl x (List.mem_cons_self ..)
   show putT l _ (a0.put x.2.1 (znV a0 ((ops[x.1]?).bind (·.dst))))=a0
   rw[ho]
   show putT l _ (a0.put x.2.1 (znV a0 o.dst))=a0
   rw[hd,znY]
   exact ih fun y hy=>hl y (List.mem_cons_of_mem _ hy)
 rw[e T hT,hn]at h
 exact h
theorem zou {id:Nat} (T:Tm) (HE:Env w bs old new W0) (harm:Arms P ops Q T w old new bs a0 T) (hend:∀u,Tel u w old (fun _ a W=>Q .normal a W) T (fun _=>undef) bs new a0)
 (hm:P.follows .mixedOrders=true) (hck:znX .any ops (.replicate ops.size false) T=true) (hn:T.length=ops.size) (hr:Region.ready .any ops (T.foldl (fun l x=>l.setIfInBounds x.1 true) (.replicate ops.size false))=[]):(Code.region id ops true).wp P Q a0 W0:=
 znp T 0 _ HE hm hck rfl (by rw[hn];rfl) harm (fun u=>(hend u).mono fun _ _ _ h=>⟨hr,h⟩)
theorem znw {n:Nat} {l:Array Bool} {a:Act} {W:World} (i:Nat) {o:Oper} (ho:ops[i]?=some o) (hr:Region.ready .any ops l=[i])
 (h:∀K':Act→World→Prop,Shut (∀a' W',wpAny P .any ops Q n (l.setIfInBounds i true) a' W'→K' a' W')→if Region.wanted o (yielded ops a.tmps)=true then Oper.wp P o a W K' Q else K' (a.put o.dst undef) W):wpAny P .any ops Q (n+1) l a W:=
 ⟨fun h0=>(by rw[hr]at h0;cases h0),fun j hj=>by
  rw[hr]at hj
  obtain rfl:=List.mem_singleton.1 hj
  exact wpOp_step ho fun K' hK=>h K' hK⟩
theorem znE {l:Array Bool} {a:Act} {W:World} (hr:Region.ready .any ops l=[]) (h:Q .normal a W):wpAny P .any ops Q 0 l a W:=⟨hr,h⟩
end
def CBs:List Bo→World→Prop
 |[],_=>True
 |b::l,W=>CB b.g b.cs W∧CBs l W
theorem Env.cs {w W:World} {bs:List Bo} {old new:World→Prop} (h:Env w bs old new W):CBs bs W:=by
 have:∀l:List Bo,(∀b∈l,b∈bs)→CBs l W:=fun l=>by
  induction l with
  |nil=>exact fun _=>trivial
  |cons b l ih=>exact fun k=>⟨(h.bx b (k b (List.mem_cons_self ..))).cb,ih fun c hc=>k c (List.mem_cons_of_mem _ hc)⟩
 exact this bs fun _ h=>h
theorem alR {W:World} {ev:Nat→Value} {ty:TypeId} {cs:Array Value}:(It.bx ty cs).R ev W.heap.size (W.alloc (.cells cs ty)).heap.size (.pointer (some ⟨W.heap.size,0,none⟩)) (W.alloc (.cells cs ty)):=⟨rfl,by simp,Blk.new W ty cs⟩
def bldV (l rest:List Value):Value:=.agg (l.flatMap (fun v=>match v with|.agg a=>a.toList|v=>[v])++rest).toArray
theorem armD {P:Program} {ops:Array Oper} {Q:Exit→Act→World→Prop} {T:Tm} {w:World} {old new:World→Prop} {bs:List Bo} {a0:Act} {x:Nat×Option Nat×List Nat×It} {l:Tm} {o:Oper} (hl:Arms P ops Q T w old new bs a0 l) (ho:ops[x.1]?=some o:=by rfl)
 (h:ArmT P ops Q T w old new bs a0 x o:=by
  (unfold ArmT
   intro u
   (try simp only[List.map,zno,List.contains,List.elem])
   repeat intro _
   rename_i a W ea HE K hK
   simp only[Act.put,List.setIfInBounds_toArray,List.set_cons_zero,List.set_cons_succ]at ea
   subst ea
   refine⟨?_⟩
   have c:=Env.cs HE.out
   simp only[CBs]at c
   (try have c2:=HO9.out _ HE.out.o)
   rw[if_pos (by rfl)]
   (try simp only[q1,q2,q3])
   go_simp
   first
    |exact hK.out _ _ _ rfl (.refl _ _) rfl
    |exact hK.out _ _ _ rfl ((Below.refl _ _).alloc (Nat.le_refl _) _) alR)):Arms P ops Q T w old new bs a0 (x::l):=armC ho h hl
end Go.Proofs.YtfdmajmhmligpaaGreatDoor
