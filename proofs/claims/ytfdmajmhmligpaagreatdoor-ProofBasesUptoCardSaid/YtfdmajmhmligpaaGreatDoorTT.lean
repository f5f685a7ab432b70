/-
 Fractions: how long what is told of them can be; SameRat; what a law's walk keeps. What a law over three fractions keeps at each of its steps. Tokens of a text, in plain Lean: over any reader of numbers; two texts one behind the other; tokens that are written. tokens.letter, digit, end by each of its closures, skip. tokens.token. Lists of elements of more than one cell: read, made by append. Lists of tokens in memory. tokens.Tokens.
-/
import Derived.Test.YtfdmajmhmligpaaGreatDoorQC
import Derived.Test.YtfdmajmhmligpaaGreatDoorLowB
import Derived.Test.YtfdmajmhmligpaaGreatDoorMath
import Derived.Test.YtfdmajmhmligpaaGreatDoorLimF
import Derived.Test.YtfdmajmhmligpaaGreatDoorProg
import Derived.Test.YtfdmajmhmligpaaGreatDoorVal
import Derived.Test.YtfdmajmhmligpaaGreatDoorShelf
import Derived.Deep.DeepMust
import Derived.Deep.DeepCutAuto
import Derived.Maps.AppendAt
namespace Go.Proofs.YtfdmajmhmligpaaGreatDoor
open Go.RowKit

theorem zeh {x n m:Nat} (h:x<B64^n) (hm:n≤m):x<B64^m:=Nat.lt_of_lt_of_le h (Nat.pow_le_pow_right za4 hm)
theorem Sz.up {q:Rat} {n m:Nat} (h:Sz q n) (hm:n≤m):Sz q m:=⟨zeh h.1 hm,zeh h.2 hm⟩
theorem zkW {x d:Int} {n:Nat} (hd:0<d) (hx:x.natAbs<B64^n) (h:d.natAbs<B64^n):Sz (Rat.divInt x d) n:=by
 obtain⟨a,b⟩:=zfY (x:=x) hd
 refine⟨?_,?_⟩
 ·rw[a];exact Nat.lt_of_le_of_lt (Int.natAbs_ediv_le_natAbs _ _) hx
 ·have h1:(d/(Nat.gcd x.natAbs d.natAbs:Int)).natAbs≤d.natAbs:=Int.natAbs_ediv_le_natAbs _ _
  omega
theorem zen {n:Nat} (h:1≤n):1<B64^n:=zeh (n:=1) (by decide) h
theorem zgE {x d:Int} {n:Nat} (h1:1≤n) (hx:x.natAbs<B64^n) (h:d.natAbs<B64^n):Sz (Rat.divInt x d) n:=by
 rcases Int.lt_trichotomy d 0 with hd|hd|hd
 ·have:=zkW (x:=-x) (d:=-d) (n:=n) (by omega) (by omega) (by omega)
  rw[Rat.neg_divInt_neg]at this
  exact this
 ·subst hd
  rw[Rat.divInt_zero]
  exact⟨Nat.pow_pos za4,zen h1⟩
 ·exact zkW hd hx h
theorem RatD.sz {r:RV} {q:Rat} {n:Nat} {w:World} (h:RatD r q n w) (h1:1≤n):Sz q n:=by
 obtain⟨x,d,hx,hd,hq⟩:=h.ex
 rw[hq]
 split
 ·exact zgE h1 hx.lt (zen h1)
 ·exact zgE h1 hx.lt hd.lt
theorem RatD.mono {r:RV} {q:Rat} {n m:Nat} {w:World} (h:RatD r q n w) (hm:n≤m):RatD r q m w:=by
 obtain⟨x,d,hx,hd,hq⟩:=h.ex
 exact⟨x,d,hx.mono hm,hd.mono hm,hq⟩
theorem ze1 {a b n m:Nat} (h:a<B64^n) (h':b<B64^m):a*b<B64^(n+m):=by
 rw[Nat.pow_add];exact Nat.mul_lt_mul_of_lt_of_lt h h'
theorem Sz.add {a b:Rat} {n m:Nat} (h:Sz a n) (h':Sz b m):Sz (a+b) (n+m+1):=by
 have e:a+b=Rat.divInt (a.num*b.den+b.num*a.den) (a.den*b.den):=by
  have:=Rat.divInt_add_divInt a.num b.num (d₁:=a.den) (d₂:=b.den) (by have:=a.den_pos;omega) (by have:=b.den_pos;omega)
  rw[Rat.num_divInt_den,Rat.num_divInt_den]at this
  exact this
 rw[e]
 have p1:=ze1 h.1 h'.2
 have p2:=ze1 h'.1 h.2
 have p3:=ze1 h.2 h'.2
 rw[Nat.add_comm m n]at p2
 have q1:(a.num*b.den).natAbs=a.num.natAbs*b.den:=by rw[Int.natAbs_mul];rfl
 have q2:(b.num*a.den).natAbs=b.num.natAbs*a.den:=by rw[Int.natAbs_mul];rfl
 have q3:((a.den:Int)*b.den).natAbs=a.den*b.den:=by rw[Int.natAbs_mul];rfl
 have k:B64^(n+m)*2≤B64^(n+m+1):=by rw[Nat.pow_succ];exact Nat.mul_le_mul_left _ (by decide)
 refine zgE (by omega) ?_ ?_
 ·have:=Int.natAbs_add_le (a.num*b.den) (b.num*a.den)
  omega
 ·rw[q3];exact zeh p3 (by omega)
theorem Sz.neg {a:Rat} {n:Nat} (h:Sz a n):Sz (-a) n:=⟨by rw[Rat.neg_num,Int.natAbs_neg];exact h.1,by rw[Rat.neg_den];exact h.2⟩
theorem Sz.sub {a b:Rat} {n m:Nat} (h:Sz a n) (h':Sz b m):Sz (a-b) (n+m+1):=by rw[Rat.sub_eq_add_neg];exact h.add h'.neg
theorem Sz.mul {a b:Rat} {n m:Nat} (h:Sz a n) (h':Sz b m):Sz (a*b) (n+m+1):=by
 have e:a*b=Rat.divInt (a.num*b.num) (a.den*b.den):=by
  have:=Rat.divInt_mul_divInt a.num b.num (d₁:=a.den) (d₂:=b.den)
  rw[Rat.num_divInt_den,Rat.num_divInt_den]at this
  exact this
 rw[e]
 refine zgE (by omega) ?_ ?_
 ·rw[Int.natAbs_mul];exact zeh (ze1 h.1 h'.1) (by omega)
 ·rw[Int.natAbs_mul];exact zeh (ze1 h.2 h'.2) (by omega)
theorem Sz.inv {a:Rat} {n:Nat} (h:Sz a n):Sz a⁻¹ n:=by
 refine⟨?_,?_⟩
 ·rw[Rat.num_inv,Int.natAbs_mul]
  refine Nat.lt_of_le_of_lt ?_ h.2
  have h1:a.num.sign.natAbs≤1:=by rw[Int.natAbs_sign];split<;>omega
  calc a.num.sign.natAbs*(a.den:Int).natAbs≤1*a.den:=Nat.mul_le_mul_right _ h1
   _=a.den:=Nat.one_mul _
 ·rw[Rat.den_inv]
  split
  ·exact Nat.lt_of_le_of_lt a.den_pos h.2
  ·exact h.1
theorem Sz.quo {a b:Rat} {n m:Nat} (h:Sz a n) (h':Sz b m):Sz (a/b) (n+m+1):=by rw[Rat.div_def];exact h.mul h'.inv
theorem zaM:Sz 0 1:=⟨by decide,by decide⟩
theorem RatN.below {r:RV} {q:Rat} {w w':World} (h:RatN r q w) (hb:Below w.heap.size w w'):RatN r q w':=(h.old.below hb).now
theorem RatN.drew {r:RV} {q:Rat} {w:World} (h:RatN r q w):RatN r q w.drew:=h.old.drew.now
theorem RatD.below {r:RV} {q:Rat} {n:Nat} {w w':World} (h:RatD r q n w) (hb:Below w.heap.size w w'):RatD r q n w':=(h.old.below hb).now
theorem RatD.drew {r:RV} {q:Rat} {n:Nat} {w:World} (h:RatD r q n w):RatD r q n w.drew:=h.old.drew.now
theorem zbX (w:World):RatN zeroR 0 w:=⟨(zmO w (fun _=>True)).now,(zmO w (fun _=>True)).now⟩

section
variable {w W W':World} {ra rb rc:RV} {a b c:Rat} {n:Nat}
end

structure Tk where
 kind:Nat
 s:List UInt8
 x:Rat
 line:Nat
def zm0 (b:UInt8):Bool:=decide (97≤b)&&decide (b≤122)
def zfd (b:UInt8):Bool:=decide (48≤b)&&decide (b≤57)||b==45||b==47
def zmi (b:UInt8):Bool:=b==123||b==125||b==91||b==93||b==58||b==44
def zl3 (b:UInt8):Bool:=b==32||b==9||b==13
def zlK:Bool→List UInt8→Nat→List UInt8×Nat
 |_,[],n=>([],n)
 |r,b::t,n=>if b=10 then zlK false t (n+1) else if r||zl3 b||b==35 then zlK (r||b==35) t n else(b::t,n)
def tok1 (P:List UInt8→Nat×Rat) (b:UInt8) (t:List UInt8) (n:Nat):Nat×Tk×List UInt8:=
 if zm0 b then(0,⟨2,b::t.takeWhile zm0,0,n⟩,t.dropWhile zm0)
 else if zfd b&&b != 47 then
  ((if(P (b::t.takeWhile zfd)).1=11 then 20 else(P (b::t.takeWhile zfd)).1),⟨3,[],(P (b::t.takeWhile zfd)).2,n⟩,t.dropWhile zfd)
 else if zmi b then(0,⟨4,[b],0,n⟩,t)
 else(20,⟨0,[],0,n⟩,t)
def zn1 (k:Tk) (r:Nat×Nat×List Tk):Nat×Nat×List Tk:=if r.1=0 then(0,0,k::r.2.2) else r
def toks (P:List UInt8→Nat×Rat):Nat→List UInt8→Nat→Nat×Nat×List Tk
 |0,_,_=>(0,0,[])
 |f+1,l,n=>
  match zlK false l n with
  |([],m)=>(0,0,[⟨1,[],0,m⟩])
  |(b::t,m)=>if(tok1 P b t m).1=0 then zn1 (tok1 P b t m).2.1 (toks P f (tok1 P b t m).2.2 m) else((tok1 P b t m).1,m,[])
def zdR (P:List UInt8→Nat×Rat) (l:List UInt8):Nat×Nat×List Tk:=if 262144<l.length then(3,0,[]) else toks P (l.length+1) l 1

variable {P:List UInt8→Nat×Rat}
theorem Blk.c7 {w:World} {g:Nat} {t:TypeId} {a b c d e f h:Value} (H:Blk w g t #[a,b,c,d,e,f,h]):w.cell? ⟨g,0,none⟩=some a∧w.cell? ⟨g,1,none⟩=some b∧w.cell? ⟨g,2,none⟩=some c∧w.cell? ⟨g,3,none⟩=some d∧w.cell? ⟨g,4,none⟩=some e∧w.cell? ⟨g,5,none⟩=some f∧w.cell? ⟨g,6,none⟩=some h:=⟨H.cell 0,H.cell 1,H.cell 2,H.cell 3,H.cell 4,H.cell 5,H.cell 6⟩
section
variable {w:World} {g:Nat} {a b c d e f h u0 u1 u2 u3 u4 u5 u6:Value} {t:TypeId}
end
structure El (w:World) (sz:Nat) (A:Option Addr) (cs:List (Array Value)):Prop where
 sl:Sl A cs.length
 size:∀i,(h:i<cs.length)→(cs[i]).size=sz
 cell:∀i,(h:i<cs.length)→∀j,j<sz→w.cell? (adr A (i*sz+j))=(cs[i])[j]?
theorem El.nil_ (w:World) (sz:Nat) (A:Option Addr):El w sz A []:=⟨fun h=>absurd h (by simp),fun i h=>absurd h (by simp),fun i h=>absurd h (by simp)⟩
theorem El.lt {w:World} {sz:Nat} {A:Option Addr} {cs:List (Array Value)} (h:El w sz A cs) (i:Nat) (hi:i<cs.length) (j:Nat) (hj:j<sz):(adr A (i*sz+j)).block<w.heap.size:=by
 have h1:=h.cell i hi j hj
 have h2:j<(cs[i]).size:=by rw[h.size i hi];exact hj
 rw[Array.getElem?_eq_getElem h2]at h1
 exact World.block_lt_of_cell? w _ h1
theorem El.keep {w w':World} {sz:Nat} {A:Option Addr} {cs:List (Array Value)} (h:El w sz A cs) (hk:∀p:Addr,p.block<w.heap.size→p.block=(adr A 0).block→w'.cell? p=w.cell? p):El w' sz A cs:=
 ⟨h.sl,h.size,fun i hi j hj=>(hk _ (h.lt i hi j hj) rfl).trans (h.cell i hi j hj)⟩
theorem El.below {w w':World} {sz:Nat} {A:Option Addr} {cs:List (Array Value)} (h:El w sz A cs) (hb:Below w.heap.size w w'):El w' sz A cs:=h.keep fun _ hp _=>hb.cell hp
theorem El.alloc {w:World} {sz:Nat} {A:Option Addr} {cs:List (Array Value)} (h:El w sz A cs) (o:Obj):El (w.alloc o) sz A cs:=h.keep fun p hp _=>World.cell?_alloc_lt w o p hp
theorem El.drew {w:World} {sz:Nat} {A:Option Addr} {cs:List (Array Value)} (h:El w sz A cs):El w.drew sz A cs:=⟨h.sl,h.size,h.cell⟩
theorem El.take {w:World} {sz:Nat} {A:Option Addr} {cs:List (Array Value)} (h:El w sz A cs) (n:Nat):El w sz A (cs.take n):=by
 have hl:(cs.take n).length≤cs.length:=by simp;omega
 refine⟨h.sl.mono hl,fun i hi=>?_,fun i hi j hj=>?_⟩
 ·rw[List.getElem_take];exact h.size i (by omega)
 ·rw[List.getElem_take];exact h.cell i (by omega) j hj
def zb1 (cs:List (Array Value)):List Value:=cs.flatMap Array.toList
theorem zbg {sz:Nat} {cs:List (Array Value)} (h:∀c∈cs,c.size=sz):(zb1 cs).length=cs.length*sz:=by
 induction cs with
 |nil=>simp[zb1]
 |cons c cs ih=>
  have:=ih (fun x hx=>h x (by simp[hx]))
  unfold zb1 at this⊢
  simp only[List.flatMap_cons,List.length_append,this,Array.length_toList,h c (by simp),List.length_cons,Nat.add_mul,Nat.one_mul]
  omega
theorem zbJ {sz:Nat} {cs:List (Array Value)} (h:∀c∈cs,c.size=sz) (i j:Nat) (hi:i<cs.length) (hj:j<sz):(zb1 cs)[i*sz+j]?=(cs[i])[j]?:=by
 induction cs generalizing i with
 |nil=>simp at hi
 |cons c cs ih=>
  have hc:c.size=sz:=h c (by simp)
  unfold zb1
  rw[List.flatMap_cons]
  match i with
  |0=>
   rw[List.getElem?_append_left (by rw[Array.length_toList,hc];omega)]
   simp
  |i+1=>
   rw[List.getElem?_append_right (by rw[Array.length_toList,hc,Nat.add_mul];omega),Array.length_toList,hc,show(i+1)*sz+j-sz=i*sz+j from by rw[Nat.add_mul];omega]
   exact ih (fun x hx=>h x (by simp[hx])) i (by simpa using hi)
theorem El.flat {w:World} {sz:Nat} {A:Option Addr} {cs:List (Array Value)} (hsz:0<sz) (h:El w sz A cs):∀j u,(zb1 cs)[j]?=some u→w.cell? (adr A j)=some u:=by
 intro j u hu
 have hc:∀c∈cs,c.size=sz:=fun c hc=>by obtain⟨i,hi,rfl⟩:=List.mem_iff_getElem.1 hc;exact h.size i hi
 have hl:=zbg hc
 have hj:j<cs.length*sz:=by rw[←hl];exact(List.getElem?_eq_some_iff.1 hu).1
 have h1:j/sz<cs.length:=(Nat.div_lt_iff_lt_mul hsz).2 hj
 have h2:j%sz<sz:=Nat.mod_lt _ hsz
 have e:j/sz*sz+j%sz=j:=by rw[Nat.mul_comm];exact Nat.div_add_mod _ _
 have:=h.cell _ h1 _ h2
 rw[←zbJ hc _ _ h1 h2,e]at this
 rw[this,hu]

def OwnE (w:World) (B:Nat) (e:TypeId) (sz:Nat) (pv:Value) (cs:List (Array Value)):Prop:=(∀c∈cs,c.size=sz)∧w.ownsRow B e sz pv cs.length (zb1 cs)
theorem OwnE.nil_ (w:World) (B:Nat) (e:TypeId) (sz:Nat):OwnE w B e sz (.slice none 0 0) []:=⟨by simp,World.ownsRow_nil _ _ _ _⟩
theorem OwnE.form {w:World} {B:Nat} {e:TypeId} {sz:Nat} {pv:Value} {cs:List (Array Value)} (h:OwnE w B e sz pv cs):∃A c,pv=.slice A cs.length c∧cs.length≤c∧c≤maxLen∧El w sz A cs∧(∀b,pv.ownBlock=some b→B≤b):=by
 obtain⟨hs,h⟩:=h
 have hs':∀i,(h:i<cs.length)→(cs[i]).size=sz:=fun i hi=>hs _ (List.getElem_mem hi)
 rcases h.2 with⟨h1,h2⟩|⟨g,cap,cur,hv,hg,hh,hn,hm,hsz,ht⟩
 ·have:cs=[]:=List.eq_nil_of_length_eq_zero h2
  subst this
  exact⟨none,0,h1,Nat.le_refl _,by simp[maxLen],El.nil_ _ _ _,by rw[h1];intro b hb;cases hb⟩
 ·refine⟨some ⟨g,0,none⟩,cap,hv,hn,hm,⟨Sl.some_ _ _ _,hs',fun i hi j hj=>?_⟩,?_⟩
  ·have hlt:i*sz+j<cs.length*sz:=by
    have:(i+1)*sz≤cs.length*sz:=Nat.mul_le_mul_right _ hi
    rw[Nat.add_mul]at this;omega
   have hc:w.cell? (adr (some ⟨g,0,none⟩) (i*sz+j))=cur[i*sz+j]?:=by simp[World.cell?,adr,hh]
   have h2:(cur.toList.take (cs.length*sz))[i*sz+j]?=cur[i*sz+j]?:=by rw[List.getElem?_take,if_pos hlt];simp
   rw[hc,←h2,ht]
   exact zbJ hs i j hi hj
  ·rw[hv];intro b hb;cases hb;exact hg
theorem OwnE.keep {w w':World} {B:Nat} {e:TypeId} {sz:Nat} {pv:Value} {cs:List (Array Value)} (h:OwnE w B e sz pv cs) (hk:∀b,b<w.heap.size→pv.ownBlock=some b→w'.heap[b]?=w.heap[b]?):OwnE w' B e sz pv cs:=by
 refine⟨h.1,h.2.1,?_⟩
 rcases h.2.2 with h2|⟨g,cap,cur,hv,hg,hh,r⟩
 ·exact .inl h2
 ·exact .inr ⟨g,cap,cur,hv,hg,by rw[hk g (Array.getElem?_eq_some_iff.1 hh).1 (by rw[hv];rfl)];exact hh,r⟩
theorem OwnE.below {w w':World} {B:Nat} {e:TypeId} {sz:Nat} {pv:Value} {cs:List (Array Value)} (h:OwnE w B e sz pv cs) (hb:Below w.heap.size w w'):OwnE w' B e sz pv cs:=h.keep fun b hlt _=>hb.block b hlt
theorem OwnE.alloc {w:World} {B:Nat} {e:TypeId} {sz:Nat} {pv:Value} {cs:List (Array Value)} (h:OwnE w B e sz pv cs) (o:Obj):OwnE (w.alloc o) B e sz pv cs:=h.keep fun b hlt _=>Below.heap_alloc w o b hlt
theorem OwnE.drew {w:World} {B:Nat} {e:TypeId} {sz:Nat} {pv:Value} {cs:List (Array Value)} (h:OwnE w B e sz pv cs):OwnE w.drew B e sz pv cs:=h
theorem OwnE.lt {w:World} {B:Nat} {e:TypeId} {sz:Nat} {pv:Value} {cs:List (Array Value)} (h:OwnE w B e sz pv cs):∀b,pv.ownBlock=some b→B≤b∧b<w.heap.size:=fun b hb=>World.ownsRow.lt h.2 b hb
theorem zff (cs ds:List (Array Value)):zb1 (cs++ds)=zb1 cs++zb1 ds:=by simp[zb1]
theorem OwnE.apps {P:Program} {W:World} {B:Nat} {t e:TypeId} {sz bytes:Nat} {pv z:Value} {cs ds:List (Array Value)} (ht:P.underlying t=some (.slice e)) (hinfo:(P.info? e).map (fun i=>(i.zero,i.size,i.bytes))=some (some z,sz,bytes)) (hz:z.cells.size=sz) (hsz:0<sz)
 (hown:OwnE W B e sz pv cs) {b o c:Nat} (hd:El W sz (some ⟨b,o,none⟩) ds) (h1:∀d∈ds,∀u∈d.toList,u.oneCell'=true) (hlen:(cs.length+ds.length)*bytes≤140737488355328) (hl:cs.length+ds.length≤maxLen) (hB:B≤W.heap.size):
 ∃v' w',(Builtin.append_ #[t,t] t #[pv,.slice (some ⟨b,o,none⟩) ds.length c]).run P W=.ok v' w'∧OwnE w' B e sz v' (cs++ds)∧Below B W w'∧
  (∀k,k<W.heap.size→pv.ownBlock≠some k→w'.heap[k]?=W.heap[k]?)∧W.heap.size≤w'.heap.size∧(v'.ownBlock=pv.ownBlock∨v'.ownBlock=some W.heap.size):=by
 obtain⟨i0,hi0,hz0,hz1,hz2⟩:=info_parts hinfo
 have hds:∀d∈ds,d.size=sz:=fun c hc=>by obtain⟨i,hi,rfl⟩:=List.mem_iff_getElem.1 hc;exact hd.size i hi
 obtain⟨v',w',hrun,h2,h3,-,h5⟩:=run_append_own_at (P:=P) W B t t e i0 z sz bytes ht hi0 hz0 hz1 hz2 hz hsz pv cs.length (zb1 cs) hown.2
  ⟨b,o,none⟩ ds.length c (zb1 ds) (zbg hds) (fun j u hu=>by have:=hd.flat hsz j u hu;rwa [za6,←zaf]at this) (fun u hu=>by
   obtain⟨d,hd,hu⟩:=List.mem_flatMap.1 hu
   exact h1 d hd u hu) hl hlen hB
 have hlt:=hown.lt
 refine⟨v',w',hrun,⟨fun c hc=>?_,?_⟩,?_,?_,h3.size,h5⟩
 ·rcases List.mem_append.1 hc with h|h
  ·exact hown.1 c h
  ·exact hds c h
 ·rw[List.length_append,zff];exact h2
 ·exact(Below.refl _ _).grown h3 hB (fun b hb=>(hlt b hb).1)
 ·intro k hk hne
  exact h3.block k hk (fun e=>hne e.symm)

@[go_sem] theorem run_indexAt_el {P:Program} (w:World) (t:TypeId) (A:Option Addr) (len cap:Nat) (k:IntKind) (i:Int) (hs:Sl A len)
 (h:P.underlying t=some (.slice (P.elem t))) (h1:(sizeOf (P.elem t)).run P w=.ok 7 w):
 (Instr.indexAt t (.slice A len cap) (.int k i)).run P w=
  if 0≤i∧i<len then .ok (.pointer (some (adr A (i.toNat*7)))) w else(boundsPanic k i len .index).run P w:=by
 rcases A with _|a
 ·have h0:len=0:=by
   rcases Nat.eq_zero_or_pos len with h|h
   ·exact h
   ·obtain⟨_,_,h⟩:=hs h;cases h
  subst h0
  rw[if_neg (by omega)]
  simp[Instr.indexAt,run_underlying h,asIntOf]
 ·rw[run_indexAt_slice w t a len cap k i h]
  split
  ·rename_i hi
   obtain⟨b,o,e⟩:=hs (by omega)
   cases e
   rw[h1]
   simp only[Result.andThen_ok,zaf,za6]
  ·rfl
theorem zaa (A:Option Addr) (n j:Nat):(adr A n).add j=adr A (n+j):=by
 unfold adr;rw[zaf,Nat.add_assoc]

theorem Rests.lt {w:World} {F:Nat→Prop} {φ:World→Prop} (h:Rests w F φ):Rests w (fun b=>F b∧b<w.heap.size) φ:=⟨h.now,fun w' hw=>h.lift w' fun b hF hb=>hw b ⟨hF,hb⟩ hb⟩

section
variable {w:World} {g:Nat} {a b u0 u1:Value} {t:TypeId}
end
end Go.Proofs.YtfdmajmhmligpaaGreatDoor
