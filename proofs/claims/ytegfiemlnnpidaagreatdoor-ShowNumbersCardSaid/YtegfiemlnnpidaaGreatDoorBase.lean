/-
 Words for memory: slices of integers that read as lists, nil let in; a block that is known whole; what a call leaves alone.
-/
import Derived.Test.YtegfiemlnnpidaaGreatDoorProg
import Derived.Test.YtegfiemlnnpidaaGreatDoorMath
import Derived.WalkKit
import Derived.WalkLawsBesides
import Derived.WalkSpells
import Derived.Lib.Hide
import Derived.Deep.Draws
import Derived.Deep.OwnRows
import Derived.Deep.QuietTactic
import Derived.BigQuiet
import Derived.Deep.RegionHeld3
import Derived.Deep.RegionWith
import Derived.Deep.RegionLaw
import Derived.Outline
import Derived.Deep.DeepFit
import Derived.IntWalk
namespace Go.Proofs.YtegfiemlnnpidaaGreatDoor
open Go.RowKit

def adr (A:Option Addr) (i:Nat):Addr:=⟨(A.getD ⟨0,0,none⟩).block,(A.getD ⟨0,0,none⟩).off+i,none⟩
def Sl (A:Option Addr) (n:Nat):Prop:=0<n->∃b o,A=some ⟨b,o,none⟩

theorem za6 (b o i:Nat):adr (some ⟨b,o,none⟩) i=⟨b,o+i,none⟩:=rfl
theorem zaf (b o i:Nat):(⟨b,o,none⟩:Addr).add i=⟨b,o+i,none⟩:=by
 unfold Addr.add;split<;>simp_all
theorem Sl.mono {A:Option Addr} {n m:Nat} (h:Sl A n) (hm:m<=n):Sl A m:=fun h0=>h (by omega)
theorem Sl.none_:Sl none 0:=fun h=>absurd h (by omega)
theorem Sl.some_ (b o n:Nat):Sl (some ⟨b,o,none⟩) n:=fun _=>⟨b,o,rfl⟩
@[go_sem] theorem run_indexAt_sl {P:Program} (w:World) (t:TypeId) (A:Option Addr) (len cap:Nat) (k:IntKind) (i:Int) (hs:Sl A len)
 (h:P.underlying t=some (.slice (P.elem t))) (h1:(sizeOf (P.elem t)).run P w=.ok 1 w):
 (Instr.indexAt t (.slice A len cap) (.int k i)).run P w=
  if 0<=i/\i<len then .ok (.pointer (some (adr A i.toNat))) w else(boundsPanic k i len .index).run P w:=by
 rcases A with _|a
 ·have h0:len=0:=by
   rcases Nat.eq_zero_or_pos len with h|h
   ·exact h
   ·obtain⟨_,_,h⟩:=hs h;cases h
  subst h0;rw[if_neg (by omega)];simp[Instr.indexAt,run_underlying h,asIntOf]
 ·rw[run_indexAt_slice w t a len cap k i h]
  split
  ·rename_i hi
   obtain⟨b,o,e⟩:=hs (by omega)
   cases e
   rw[h1];simp only[Result.andThen_ok,Nat.mul_one,zaf,za6]
  ·rfl

structure Rd (w:World) (k:IntKind) (A:Option Addr) (l:List Nat):Prop where
 sl:Sl A l.length
 cell:∀i,i<l.length->w.cell? (adr A i)=some (.int k (nth l i:Nat))

theorem Rd.nil_ (w:World) (k:IntKind):Rd w k none []:=⟨Sl.none_,fun i h=>absurd h (by simp)⟩
theorem Rd.empty (w:World) (k:IntKind) (A:Option Addr):Rd w k A []:=⟨fun h=>absurd h (by simp),fun i h=>absurd h (by simp)⟩
theorem Rd.lt {w:World} {k:IntKind} {A:Option Addr} {l:List Nat} (h:Rd w k A l) (i:Nat) (hi:i<l.length):(adr A i).block<w.heap.size:=
 World.block_lt_of_cell? w _ (h.cell i hi)
theorem Rd.keep {w w':World} {k:IntKind} {A:Option Addr} {l:List Nat} (h:Rd w k A l) (hk:∀p:Addr,p.block<w.heap.size->w'.cell? p=w.cell? p):Rd w' k A l:=
 ⟨h.sl,fun i hi=>(hk _ (h.lt i hi)).trans (h.cell i hi)⟩
theorem Rd.below {w w':World} {B:Nat} {k:IntKind} {A:Option Addr} {l:List Nat} (h:Rd w k A l) (hb:Below B w w') (hB:w.heap.size<=B):Rd w' k A l:=
 h.keep fun p hp=>hb.cell (by omega)
theorem Rd.alloc {w:World} {k:IntKind} {A:Option Addr} {l:List Nat} (h:Rd w k A l) (o:Obj):Rd (w.alloc o) k A l:=
 h.keep fun p hp=>World.cell?_alloc_lt w o p hp
theorem Rd.drew {w:World} {k:IntKind} {A:Option Addr} {l:List Nat} (h:Rd w k A l):Rd w.drew k A l:=⟨h.sl,h.cell⟩
theorem Rd.drewN {w:World} {k:IntKind} {A:Option Addr} {l:List Nat} (h:Rd w k A l) (n:Nat):Rd (w.drewN n) k A l:=⟨h.sl,h.cell⟩
theorem Rd.take {w:World} {k:IntKind} {A:Option Addr} {l:List Nat} (h:Rd w k A l) (n:Nat):Rd w k A (l.take n):=by
 have hl:(l.take n).length<=l.length:=by simp;omega
 refine⟨h.sl.mono hl,fun i hi=>?_⟩;have hi':i<n/\i<l.length:=by simp at hi;omega
 rw[h.cell i hi'.2];simp[nth,List.getD,hi'.1]

def Blk (w:World) (g:Nat) (t:TypeId) (cs:Array Value):Prop:=w.heap[g]?=some (.cells cs t (0,0))
section
variable {w w':World} {g:Nat} {t:TypeId} {cs:Array Value}
theorem Blk.lt (h:Blk w g t cs):g<w.heap.size:=by
 unfold Blk at h;exact(Array.getElem?_eq_some_iff.1 h).1
theorem Blk.cell (h:Blk w g t cs) (i:Nat):w.cell? ⟨g,i,none⟩=cs[i]?:=by
 unfold Blk at h;simp[World.cell?,h]
theorem Blk.frozen (h:Blk w g t cs) (i:Nat):w.frozen? ⟨g,i,none⟩=false:=by
 unfold Blk at h;simp[World.frozen?,h]
theorem Blk.new (w:World) (t:TypeId) (cs:Array Value):Blk (w.alloc (.cells cs t)) w.heap.size t cs:=heap_alloc_new w _
theorem Blk.alloc (h:Blk w g t cs) (o:Obj):Blk (w.alloc o) g t cs:=(Below.heap_alloc w o g h.lt).trans h
theorem Blk.drew (h:Blk w g t cs):Blk w.drew g t cs:=h
theorem Blk.drewN (h:Blk w g t cs) (n:Nat):Blk (w.drewN n) g t cs:=h
theorem Blk.set_ (h:Blk w g t cs) (i:Nat) (u:Value):Blk (w.setCell ⟨g,i,none⟩ u) g t (cs.setIfInBounds i u):=by
 unfold Blk at h⊢;simp[World.setCell,Array.getElem?_modify,h]
theorem Blk.far (h:Blk w g t cs) {p:Addr} (hp:g≠p.block) (u:Value):Blk (w.setCell p u) g t cs:=(Below.heap_setCell w p u g hp).trans h
theorem Blk.below {B:Nat} (h:Blk w g t cs) (hb:Below B w w') (hg:g<B):Blk w' g t cs:=(hb.block g hg).trans h
end

def ints (k:IntKind) (l:List Nat):Array Value:=(l.map fun x:Nat=>Value.int k (x:Int)).toArray
theorem zfm (k:IntKind) (l:List Nat):(ints k l).size=l.length:=by simp[ints]
theorem zaC (k:IntKind) (l:List Nat) (i:Nat) (h:i<l.length):(ints k l)[i]?=some (.int k (nth l i:Nat)):=by
 simp[ints,nth,List.getD,h]
theorem zbj (k:IntKind) (l:List Nat) (i x:Nat):(ints k l).setIfInBounds i (.int k (x:Int))=ints k (l.set i x):=by
 apply Array.ext';simp[ints,List.map_set]
theorem zbE (k:IntKind) (n:Nat):madeCells #[.int k 0] n=ints k (List.replicate n 0):=by
 apply Array.ext
 ·simp[size_madeCells,zfm]
 ·intro i h1 h2;simp[madeCells,ints,Nat.mod_one]
theorem Rd.of_blk {w:World} {g:Nat} {t:TypeId} {k:IntKind} {l:List Nat} (h:Blk w g t (ints k l)):Rd w k (some ⟨g,0,none⟩) l:=
 ⟨Sl.some_ _ _ _,fun i hi=>by rw[za6,Nat.zero_add,h.cell,zaC k l i hi]⟩

theorem zfn (k:IntKind) (l:List Nat):∀v∈l.map (fun x:Nat=>Value.int k (x:Int)),v.oneCell'=true:=by
 intro v hv;obtain⟨x,_,rfl⟩:=List.mem_map.1 hv;rfl

theorem zd3 {P:Program} (W:World) (dT sT ty e t:TypeId) (g n cd c m:Nat) (A:Option Addr) (k:IntKind) (d l:List Nat) (hu:P.underlying dT=some (.slice e))
 (hs:(P.info? e).map (·.size)=some 1) (hb:Blk W g t (ints k d)) (hn:n<=d.length) (hr:Rd W k A l) (hm:m=min l.length n):
 ∃W',(Builtin.copy_ #[dT,sT] ty #[.slice (some ⟨g,0,none⟩) n cd,.slice A l.length c]).run P W=.ok (goInt (m:Nat)) W'/\
  Blk W' g t (ints k (l.take m++d.drop m))/\W.grownBy W' (some g):=by
 by_cases h0:m=0
 ·refine⟨W,?_,?_,World.grownBy.refl W _⟩
  ·rw[run_copy_none W dT sT ty e _ _ _ _ _ _ hu hs (hm.symm.trans h0),h0];rfl
  ·rw[h0];simpa using hb
 ·obtain⟨b,o,rfl⟩:=hr.sl (by omega);have hcs:((l.take m).map fun x:Nat=>Value.int k (x:Int)).length=m:=by
   simp;omega
  have hrun:=run_copy_row (P:=P) W dT sT ty e g 0 n cd ⟨b,o,none⟩ l.length c (ints k d) t ((l.take m).map fun x:Nat=>Value.int k (x:Int)) hu hs hb (hcs.trans hm)
   (by
    intro j v hv;have hj:j<m:=by
     have:=(List.getElem?_eq_some_iff.1 hv).1;rw[hcs]at this;exact this
    have hjl:j<l.length:=by omega
    have h:=hr.cell j hjl;rw[za6]at h;rw[zaf,h,<-hv];simp[nth,List.getD,hj,hjl])
   (by rw[hcs,zfm];omega)
   (zfn k _)
  rw[hcs]at hrun;refine⟨_,hrun,?_,⟨rfl,rfl,rfl,by simp,fun i _ hi=>setRow_other W g i _ (fun e=>hi (by rw[e]))⟩⟩;unfold Blk;rw[setRow_heap W g (ints k d) _ t _ hb];congr 2;apply Array.ext';simp[ints,List.map_take,List.map_drop]

theorem zac {P:Program} {w w':World} {ops:Array Oper} {rest:List Oper} {o:Oper} {a:Act} {Q:Exit->Act->World->Prop} (hgd:o.guard=none) (s x:Operand) (t:TypeId) (v y v':Value)
 (ho:o.op=.call {callee:=.builtin .append,args:=#[s,x],argTypes:=#[t,t]}) (hs:a.eval s=v) (hx:a.eval x=y)
 (hrun:(Builtin.append_ #[t,t] o.type #[v,y]).run P w=.ok v' w')
 (h:wpList P ops Q rest (a.put o.dst v') w'):wpList P ops Q (o::rest) a w:=by
 refine wpList_plain hgd fun K hK=>?_;unfold Oper.wp execOp;simp only[ho,resolve,invoke,builtin,Sem.run_bind,Sem.run_pure,Result.andThen_ok,List.map_toArray,List.map_cons,List.map_nil,hs,hx,hrun];exact hK _ _ h

theorem zdX {a b c:World} (h:∃n,b=a.drewN n) (h':∃n,c=b.drewN n):∃n,c=a.drewN n:=by
 obtain⟨n,rfl⟩:=h;obtain⟨m,rfl⟩:=h';exact⟨n+m,World.drewN_drewN _ _ _⟩

theorem zc6 {k:IntKind} {a b:Int} (h:a=b):Ending.returned (.int k a)=.returned (.int k b):=by rw[h]

theorem q1 {α:Type _} {xs:List α} {i:Nat} (h:i<xs.toArray.size):xs.toArray[i]=xs[i]'h:=List.getElem_toArray h
theorem q2 {α:Type _} {a:α} {l:List α} {i:Nat} {h:i+1<(a::l).length}:(a::l)[i+1]=l[i]'(Nat.lt_of_succ_lt_succ h):=rfl
theorem q3 {α:Type _} {a:α} {l:List α} {h:0<(a::l).length}:(a::l)[0]=a:=rfl
theorem znd {p:Prop} (h:p):Hid p:=Lib.hid h
end Go.Proofs.YtegfiemlnnpidaaGreatDoor
