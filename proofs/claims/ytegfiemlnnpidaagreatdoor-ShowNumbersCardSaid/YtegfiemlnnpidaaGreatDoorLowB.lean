/-
 A list of integers that the call itself makes by append. tripwirelow: ShortInt, SameWords and SameInt of what is the same, CopyWords. tripwirelow: SameWords of what is not the same.
-/
import Derived.Test.YtegfiemlnnpidaaGreatDoorLimC
namespace Go.Proofs.YtegfiemlnnpidaaGreatDoor
open Go.RowKit

def vals (k:IntKind) (l:List Nat):List Value:=l.map fun x:Nat=>Value.int k (x:Int)
def Own (w:World) (B:Nat) (e:TypeId) (k:IntKind) (pv:Value) (l:List Nat):Prop:=w.ownsRow B e 1 pv l.length (vals k l)

theorem Own.nil_ (w:World) (B:Nat) (e:TypeId) (k:IntKind):Own w B e k (.slice none 0 0) []:=World.ownsRow_nil _ _ _ _
theorem Own.form {w:World} {B:Nat} {e:TypeId} {k:IntKind} {pv:Value} {l:List Nat} (h:Own w B e k pv l):∃A c,pv=.slice A l.length c/\l.length<=c/\c<=maxLen/\Rd w k A l/\Fr B A l:=by
 rcases h.2 with⟨h1,h2⟩|⟨g,cap,cur,hv,hg,hh,hn,hm,hs,ht⟩
 ·have:l=[]:=List.eq_nil_of_length_eq_zero h2;subst this;exact⟨none,0,h1,Nat.le_refl _,by simp[maxLen],Rd.nil_ _ _,Fr.none_ _ _⟩
 ·refine⟨some ⟨g,0,none⟩,cap,hv,hn,hm,⟨Sl.some_ _ _ _,fun i hi=>?_⟩,fun i _=>hg⟩;have hc:w.cell? (adr (some ⟨g,0,none⟩) i)=cur[i]?:=by simp[World.cell?,adr,hh]
  have h2:(cur.toList.take (l.length*1))[i]?=cur[i]?:=by rw[List.getElem?_take,if_pos (by omega)];simp
  rw[hc,<-h2,ht];simp[vals,nth,List.getD,hi]
theorem Own.keep {w w':World} {B:Nat} {e:TypeId} {k:IntKind} {pv:Value} {l:List Nat} (h:Own w B e k pv l) (hk:∀b,b<w.heap.size->pv.ownBlock=some b->w'.heap[b]?=w.heap[b]?):Own w' B e k pv l:=by
 refine⟨h.1,?_⟩;rcases h.2 with h2|⟨g,cap,cur,hv,hg,hh,r⟩
 ·exact .inl h2
 ·exact .inr ⟨g,cap,cur,hv,hg,by rw[hk g (Array.getElem?_eq_some_iff.1 hh).1 (by rw[hv];rfl)];exact hh,r⟩
theorem Own.below {w w':World} {B:Nat} {e:TypeId} {k:IntKind} {pv:Value} {l:List Nat} (h:Own w B e k pv l) (hb:Below w.heap.size w w'):Own w' B e k pv l:=h.keep fun b hlt _=>hb.block b hlt
theorem Own.drewN {w:World} {B:Nat} {e:TypeId} {k:IntKind} {pv:Value} {l:List Nat} (h:Own w B e k pv l) (n:Nat):Own (w.drewN n) B e k pv l:=h
theorem Own.lt {w:World} {B:Nat} {e:TypeId} {k:IntKind} {pv:Value} {l:List Nat} (h:Own w B e k pv l):∀b,pv.ownBlock=some b->B<=b/\b<w.heap.size:=fun b hb=>World.ownsRow.lt h b hb

theorem Own.app {P:Program} {W:World} {B:Nat} {t e:TypeId} {k:IntKind} {bytes:Nat} {pv z:Value} {l:List Nat} (ht:P.underlying t=some (.slice e)) (hinfo:(P.info? e).map (fun i=>(i.zero,i.size,i.bytes))=some (some z,1,bytes)) (hz:z.cells.size=1)
 (hown:Own W B e k pv l) (x:Nat) (hlen:(l.length+1)*bytes<=140737488355328) (hl:l.length+1<=maxLen) (hB:B<=W.heap.size):
 ∃v' w',(Builtin.append_ #[t,t] t #[pv,.slice (some ⟨W.heap.size,0,none⟩) 1 1]).run P (W.alloc (.cells #[.int k (x:Int)] e))=.ok v' w'/\Own w' B e k v' (l++[x])/\Below B W w'/\
  (∀b,b<W.heap.size->pv.ownBlock≠some b->w'.heap[b]?=W.heap[b]?)/\W.heap.size<=w'.heap.size:=by
 obtain⟨i0,hi0,hz0,hz1,hz2⟩:=info_parts hinfo;have ho:=World.ownsRow.alloc hown (.cells #[.int k (x:Int)] e)
 obtain⟨v',w',hrun,h2,h3,-⟩:=run_append_own (P:=P) (W.alloc (.cells #[.int k (x:Int)] e)) B t t e i0 z 1 bytes ht hi0 hz0 hz1 hz2 hz (by decide) pv l.length (vals k l) ho
  ⟨W.heap.size,0,none⟩ 1 1 [.int k (x:Int)] rfl (cell_one_new _ _ _) (by simp[Value.oneCell']) hl hlen (by simp;omega)
 have hlt:=hown.lt;refine⟨v',w',hrun,?_,?_,?_,?_⟩
 ·simpa[Own,vals] using h2
 ·exact((Below.refl _ _).alloc hB _).grown h3 (by simp;omega) (fun b hb=>(hlt b hb).1)
 ·intro b hb hne;rw[h3.block b (by simp;omega) (fun e=>hne e.symm),Below.heap_alloc _ _ _ hb]
 ·have:=h3.size;simp at this;omega



theorem zdT:∀(l m:List Nat),l.length=m.length->(∀k<l.length,nth l k=nth m k)->l=m
 |[],[],_,_=>rfl
 |[],_::_,h,_=>by simp at h
 |_::_,[],h,_=>by simp at h
 |a::l,b::m,h,hn=>by
  have h0:a=b:=hn 0 (by simp);have h1:=zdT l m (by simpa using h) (fun k hk=>hn (k+1) (by simpa using hk));rw[h0,h1]

end Go.Proofs.YtegfiemlnnpidaaGreatDoor
