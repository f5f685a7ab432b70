/-
 What the row of ProofBases wants (as those of ProofHolds): the one table out of the row's list, the world of the witness, the last step; programs, points and prices as arguments. ProofBases returns true, whatever the input; no conditions: the row and its card.
-/
import Derived.Test.YtfdmajmhmligpaaGreatDoorCards
import Derived.Test.YtfdmajmhmligpaaGreatDoorTie
import Derived.Test.YtfdmajmhmligpaaGreatDoorBB
import Derived.Deep.Slices
import Derived.Lib.SmallJoins
import Derived.WalkKit
import Derived.ProofKit
import Derived.OpenShut
import Derived.Deep.DeepHandedRow
import Derived.Lib.LaidTab
import Derived.Stop.LaidErr
import Derived.Carry
import Derived.ChangeMaps5
namespace Go.Proofs.YtfdmajmhmligpaaGreatDoor
set_option maxHeartbeats 4000000
open Go.ChangeShapes Go.WideShapes Go.ChangeAt Go.RowKit Go.Deep

theorem own:ownKnob Tryz.prog.godebug=none:=by kernel_rfl
def zif:List (String×DataW Unit):=[("math/bits.deBruijn64tab",Rows.laid_math_bits_deBruijn64tab)]

def zmQ (cs:Array Value):Obj→Obj
 |.cells _ t frozen=>.cells cs t frozen
 |o=>o
noncomputable def zdC (os:Os):World:=
 {World.holding Tryz.prog os ⟨#[],#[],[]⟩with heap:=(World.holding Tryz.prog os ⟨#[],#[],[]⟩).heap.modify 2 (zmQ #[.int .u8 0,.int .u8 1,.int .u8 56,.int .u8 2,.int .u8 57,.int .u8 49,.int .u8 28,.int .u8 3,.int .u8 61,.int .u8 58,.int .u8 42,.int .u8 50,.int .u8 38,.int .u8 29,.int .u8 17,.int .u8 4,.int .u8 62,.int .u8 47,.int .u8 59,.int .u8 36,.int .u8 45,.int .u8 43,.int .u8 51,.int .u8 22,.int .u8 53,.int .u8 39,.int .u8 33,.int .u8 30,.int .u8 24,.int .u8 18,.int .u8 12,.int .u8 5,.int .u8 63,.int .u8 55,.int .u8 48,.int .u8 27,.int .u8 60,.int .u8 41,.int .u8 37,.int .u8 16,.int .u8 46,.int .u8 35,.int .u8 44,.int .u8 21,.int .u8 52,.int .u8 32,.int .u8 23,.int .u8 11,.int .u8 54,.int .u8 26,.int .u8 40,.int .u8 15,.int .u8 34,.int .u8 20,.int .u8 31,.int .u8 10,.int .u8 25,.int .u8 14,.int .u8 19,.int .u8 9,.int .u8 13,.int .u8 8,.int .u8 7,.int .u8 6])}

theorem zix {H:Type} {enc:TypeId×Value→H} {f:Func} {s:ChangeSpec} {W W':World} {args:Array Value} {ds:List (DataW H)} {before:List MemPlace}
 (hW:DataW.Whole enc Tryz.prog f.params.toList s.vars false W args.toList ds [] before) (hv:s.vars=[]) (hr:f.resultTypes=#[4])
 (hfn:s.fn H (ds++[])={results:=[.lit (.bool true)],args:=ds}) (hb:Below W.heap.size W W')
 (hargs:DataW.TrodAll enc Tryz.prog W' 0 (fun b=>decide (b<W.heap.size)) true f.params.toList args.toList ds before):
 s.post enc Tryz.prog f false true false false W args (.bool true) W':=by
 refine⟨ds,[],before,[],before,[],hW,?_,?_,?_,?_,fun h=>by cases h⟩
 ·rw[hfn,hr]
  exact trodAll_cons_mk (shut_bool Tryz.underlying4 _) trodAll_mk0
 ·rw[hfn];exact hargs
 ·rw[hfn,hv];exact rfl
 ·exact World.keptBut_mono (fun p hp=>⟨hp,.inr (.inl hp)⟩) (hb.frame (·∈before))

theorem gTz:Tryz.prog.globalNamed "math/bits.deBruijn64tab" =some 2:=by kernel_rfl
theorem zlD:(Tryz.prog.globals[(2:Nat)]?).map (·.type)=some 184:=by kernel_rfl
theorem zm6:Tryz.prog.cellsOf 184=64:=by kernel_rfl
theorem zlb:Tryz.prog.cellsOf 5=1:=by kernel_rfl
theorem zn9 {W:World} (h:laidMetH Tryz.prog zif W):Tz W:=by
 have h1:=Lib.tabIs_of_head (rest:=[]) (zs:=Lib.deBruijn64tab.map fun n:Nat=>(n:Int)) gTz zlD Tryz.underlying184 Tryz.underlying5 zlb zm6 (show laidMet Tryz.prog zif W from h)
 unfold Lib.TabIs World.var? at h1
 simp only[gTz,Option.bind_some]at h1
 intro j hj
 cases hh:W.heap[(2:Nat)]?with
 |none=>rw[hh]at h1;simp at h1
 |some o=>
  rw[hh]at h1
  cases o with
  |cells cs t fr=>
   have e:cs=((Lib.deBruijn64tab.map fun n:Nat=>(n:Int)).map fun z=>Value.int .u8 z).toArray:=by simpa using h1
   rw[Joins.cell_of_block hh,e]
   simp[List.getD,hj]
  |_=>simp at h1
theorem ziF:laidOutB Tryz.prog=true:=by kernel_rfl
theorem zgt:Tryz.prog.cellsOf 138=1:=by kernel_rfl
theorem zgA:Tryz.prog.cellsOf 46=2:=by kernel_rfl
def zlk:Value→Nat
 |.int _ z=>z.toNat
 |_=>0
theorem zeV {w:World} {a:Addr} {v:Value} (h:w.cell? a=some v):a.spot=none:=by
 unfold World.cell? at h
 split at h
 ·split at h
  ·cases h
  ·rename_i h2;simpa using h2
 ·cases h
theorem zip {H:Type} {enc:TypeId×Value→H} {W:World} {b:Nat} {sp:Nat→Bool} {hd:Bool} {n:Nat} {v:Value} {y:DataW H×List MemPlace} (h:DataW.trod enc Tryz.prog W b sp hd n 44 [v]=some y):
 ∃A c l,v=.slice A (List.length l) c∧l.length≤c∧c≤maxLen∧Rd W .u64 A l∧∀x∈l,x<B64:=by
 rcases open_slice1 Tryz.underlying44 zgt h with⟨h1,-⟩|⟨a,len,cap,m,k,V,D,Pl,h1,-,hl,hm,hmm,-,hx⟩
 ·exact⟨none,0,[],by simpa using h1,by simp,by simp,Rd.nil_ _ _,by simp⟩
 ·have hlm:len≤m:=by rw[hmm];split<;>omega
  have hV:∀i,i<len→∃z:Nat,V i=.int .u64 (z:Int)∧z<B64:=fun i hi=>by
   obtain⟨z,h2,-,hw⟩:=DataW.trod_int Tryz.underlying138 (hx i (by omega)).2
   have hz:=bounds_u64 hw
   refine⟨z.toNat,?_,by simp only[B64];omega⟩
   have:V i=.int .u64 z:=by simpa using h2
   rw[this,Int.toNat_of_nonneg hz.1]
  refine⟨some a,cap,(List.range len).map fun i=>zlk (V i),by simpa using h1,by simpa using hl,hm,⟨?_,?_⟩,?_⟩
  ·intro h0
   have h0':0<len:=by simpa using h0
   have:=zeV (hx 0 (by omega)).1
   obtain⟨ab,ao,asp⟩:=a
   have e:asp=none:=by simpa[Addr.add] using this
   exact⟨ab,ao,by rw[e]⟩
  ·intro i hi
   have hi':i<len:=by simpa using hi
   obtain⟨z,hz,-⟩:=hV i hi'
   have hc:=(hx i (by omega)).1
   have hs:=zeV (hx 0 (by omega)).1
   obtain⟨ab,ao,asp⟩:=a
   have e:asp=none:=by simpa[Addr.add] using hs
   subst e
   rw[zaf]at hc
   rw[za6,hc,hz]
   simp[nth,List.getD,hi',hz,zlk]
  ·intro x hx'
   obtain⟨i,hi,rfl⟩:=List.mem_map.1 hx'
   obtain⟨z,hz,hlt⟩:=hV i (by simpa using hi)
   rw[hz]
   simpa[zlk] using hlt
theorem zcT:Tryz.prog.cellsOf 48=4:=by kernel_rfl
theorem zfe:Tryz.prog.cellsOf 4=1:=by kernel_rfl
theorem zet:Tryz.prog.cellsOf 44=1:=by kernel_rfl
theorem zi2 {H:Type} {enc:TypeId×Value→H} {W:World} {b:Nat} {sp:Nat→Bool} {hd:Bool} {n:Nat} {v0 v1:Value} {y:DataW H×List MemPlace} (h:DataW.trod enc Tryz.prog W b sp hd n 46 [v0,v1]=some y):
 ∃i:IV,v0=.bool i.neg∧v1=.slice i.A i.k i.c∧∃z,IntD i z i.k W:=by
 obtain⟨y0,y1,m,-,-,h0,h1⟩:=trod_struct2 Tryz.underlying46 h
 have k0:DataW.trod enc Tryz.prog W b sp hd m 4 [v0]=some y0:=by simpa[zfe] using h0
 have k1:DataW.trod enc Tryz.prog W b sp hd m 44 [v1]=some y1:=by simpa[zet] using h1
 obtain⟨neg,h2,-⟩:=DataW.trod_bool Tryz.underlying4 k0
 obtain⟨A,c,l,rfl,h3,h4,h5,h6⟩:=zip k1
 obtain rfl:v0=.bool neg:=by simpa using h2
 exact⟨⟨neg,A,l.length,c⟩,rfl,rfl,_,⟨⟨l,rfl,h5,h6,rfl⟩,h3,Nat.le_refl _⟩⟩
theorem zn4 {α:Type} {l:List α} (h:l.length=4):∃a b c d,l=[a,b,c,d]:=by
 match l,h with
 |[a,b,c,d],_=>exact⟨a,b,c,d,rfl⟩
theorem zmW {α:Type} {l:List α} (h:l.length=5):∃a b c d e,l=[a,b,c,d,e]:=by
 match l,h with
 |[a,b,c,d,e],_=>exact⟨a,b,c,d,e,rfl⟩
theorem list1 {α:Type} {l:List α} (h:l.length=1):∃a,l=[a]:=by
 match l,h with
 |[a],_=>exact⟨a,rfl⟩
theorem zgF {H:Type} (d:DataW H):1≤Rows.uptoBulk d:=by
 cases d with
 |lit l=>cases l<;>simp[Rows.uptoBulk]
 |nil=>simp[Rows.uptoBulk]
 |ptr d=>simp[Rows.uptoBulk]
 |slice elems spare=>simp[Rows.uptoBulk]
 |agg parts=>simp[Rows.uptoBulk]
 |iface t d=>simp[Rows.uptoBulk]
 |map entries=>simp[Rows.uptoBulk]
 |held h=>simp[Rows.uptoBulk]
theorem zdQ {H:Type} {d:DataW H} {l:List (DataW H)} (h:d∈l):Rows.uptoBulk d≤Rows.uptoBulkAll l:=by
 induction l with
 |nil=>cases h
 |cons x r ih=>
  simp only[Rows.uptoBulkAll]
  rcases List.mem_cons.1 h with rfl|e
  ·omega
  ·have:=ih e;omega
theorem zjV {H:Type} (l:List (DataW H)):l.length≤Rows.uptoBulkAll l:=by
 induction l with
 |nil=>simp[Rows.uptoBulkAll]
 |cons x r ih=>have:=zgF x;simp only[Rows.uptoBulkAll,List.length_cons];omega
theorem zbh {H:Type} {d:DataW H} {l:List (DataW H)} (h:d∈l):Rows.uptoBulk d≤Rows.uptoBulk (.agg l):=by
 have:=zdQ h
 simp only[Rows.uptoBulk];omega
theorem ziP {H:Type} {d:DataW H} {l r:List (DataW H)} (h:d∈l):Rows.uptoBulk d≤Rows.uptoBulk (.slice l r):=by
 have:=zdQ h
 simp only[Rows.uptoBulk];omega
theorem zk9 {H:Type} {l:List (DataW H)} (hk:Rows.uptoSmall H l=true):Rows.uptoBulkAll l≤1048576:=of_decide_eq_true hk

theorem zjW {H:Type} {m:Nat} {l:List (DataW H)} (h:∀d∈l,m≤Rows.uptoBulk d):l.length*m≤Rows.uptoBulkAll l:=by
 induction l with
 |nil=>simp
 |cons x r ih=>
  have h1:=ih fun d hd=>h d (List.mem_cons_of_mem _ hd)
  have h2:=h x (List.mem_cons_self ..)
  simp only[Rows.uptoBulkAll,List.length_cons,Nat.add_mul]
  omega
theorem zmK {α:Type} {x:Array α} (h:x.size=3):∃a b c,x=#[a,b,c]:=by
 obtain⟨l⟩:=x
 match l,h with
 |[a,b,c],_=>exact⟨a,b,c,rfl⟩
theorem array2 {α:Type} {x:Array α} (h:x.size=2):∃a b,x=#[a,b]:=by
 obtain⟨l⟩:=x
 match l,h with
 |[a,b],_=>exact⟨a,b,rfl⟩
theorem zn6 {α:Type} {l:List α} (h:l.length=9):∃a b c d e f g i j,l=[a,b,c,d,e,f,g,i,j]:=by
 match l,h with
 |[a,b,c,d,e,f,g,i,j],_=>exact⟨a,b,c,d,e,f,g,i,j,rfl⟩
theorem zn0 {α:Type} {l:List α} (h:l.length=6):∃a b c d e f,l=[a,b,c,d,e,f]:=by
 match l,h with
 |[a,b,c,d,e,f],_=>exact⟨a,b,c,d,e,f,rfl⟩
theorem okWide_array {P:Program} {w:World} {r:Reach} {base n:Nat} {t e:TypeId} {v:Value} (ht:P.underlying t=some (.array n e)) (h:Value.okWide P w r base t v):∃cs,v=.agg cs∧cs.size=P.cellsOf t:=by
 simp only[Value.okWide,ht]at h
 obtain⟨cs,h1,h2,_⟩:=h
 exact⟨cs,h1,h2⟩
instance:Inhabited TeV:=⟨⟨0,zeroR,0⟩⟩
section
variable {H:Type} {enc:TypeId×Value→H} {w:World} {b:Nat} {sp:Nat→Bool} {hd:Bool}
theorem ziO {α:Type} [Inhabited α] {t e:TypeId} {k:Nat} {cells:α→Array Value} {φ:α→Prop} (ht:Tryz.prog.underlying t=some (.slice e)) (hc:Tryz.prog.cellsOf e=k) (hk:0<k)
 (hq:∀n cs y,cs.length=k→DataW.trod enc Tryz.prog w b sp hd n e cs=some y→∃x,cs=(cells x).toList∧φ x) {v:Value} {n:Nat} {y:DataW H×List MemPlace} (h:DataW.trod enc Tryz.prog w b sp hd n t [v]=some y):
 ∃A c l,v=.slice A (List.length l) c∧l.length≤c∧El w k A (l.map cells)∧∀x∈l,φ x:=by
 subst hc
 rcases open_slice ht h with⟨h1,-⟩|⟨a,len,cap,m,n,D,Pl,h1,-,hl,hm,hmm,hy,hx⟩
 ·exact⟨none,0,[],by simpa using h1,by simp,El.nil_ _ _ _,by simp⟩
 ·have hlm:len≤m:=by rw[hmm];split<;>omega
  obtain⟨f,hf⟩:=choose_lt (n:=len) (p:=fun i x=>w.cells? b (a.add (i*Tryz.prog.cellsOf e)) (Tryz.prog.cellsOf e)=some (cells x).toList∧φ x) fun i hi=>by
   obtain⟨cs,h2,h3⟩:=hx i (by omega)
   obtain⟨x,rfl,h4⟩:=hq _ _ _ (World.cells?_some h2).2.1 h3
   exact⟨x,h2,h4⟩
  have hce:∀i,i<len→(cells (f i)).size=Tryz.prog.cellsOf e∧∀j,j<Tryz.prog.cellsOf e→w.cell? ((a.add (i*Tryz.prog.cellsOf e)).add j)=(cells (f i))[j]?:=fun i hi=>by
   obtain⟨-,h2,h3⟩:=World.cells?_some (hf i hi).1
   exact⟨by simpa using h2,fun j hj=>by simpa using h3 j hj⟩
  have hsp:0<len→a.spot=none:=fun h0=>by
   obtain⟨h2,h3⟩:=hce 0 h0
   have h4:=h3 0 hk
   have h5:0<(cells (f 0)).size:=by omega
   rw[Array.getElem?_eq_getElem h5]at h4
   have:=zeV h4
   simpa[Addr.add] using this
  refine⟨some a,cap,(List.range len).map f,by simpa using h1,by simpa using hl,⟨?_,?_,?_⟩,?_⟩
  ·intro h0
   have h0':0<len:=by simpa using h0
   obtain⟨ab,ao,asp⟩:=a
   have:asp=none:=hsp h0'
   exact⟨ab,ao,by rw[this]⟩
  ·intro i hi
   have hi':i<len:=by simpa using hi
   simpa using(hce i hi').1
  ·intro i hi j hj
   have hi':i<len:=by simpa using hi
   have hc:=(hce i hi').2 j hj
   have hs:=hsp (by omega)
   obtain⟨ab,ao,asp⟩:=a
   have e:asp=none:=hs
   subst e
   rw[zaf,zaf,Nat.add_assoc]at hc
   rw[za6,hc]
   simp
  ·intro x hx'
   obtain⟨i,hi,rfl⟩:=List.mem_map.1 hx'
   have hi':i<len:=by simpa using hi
   exact(hf i hi').2
theorem zde {α:Type} [Inhabited α] {t e:TypeId} {k:Nat} {cells:α→Array Value} {φ:α→Prop} (ht:Tryz.prog.underlying t=some (.slice e)) (hc:Tryz.prog.cellsOf e=k) (hk:0<k)
 {m0:Nat} (hq:∀n cs y,cs.length=k→DataW.trod enc Tryz.prog w b sp hd n e cs=some y→Rows.uptoBulk y.1≤1048576→m0≤Rows.uptoBulk y.1∧∃x,cs=(cells x).toList∧φ x) {v:Value} {n:Nat} {y:DataW H×List MemPlace} (h:DataW.trod enc Tryz.prog w b sp hd n t [v]=some y) (hB:Rows.uptoBulk y.1≤1048576):
 ∃A c l,v=.slice A (List.length l) c∧l.length≤c∧El w k A (l.map cells)∧(∀x∈l,φ x)∧l.length*m0≤1048576:=by
 subst hc
 rcases open_slice ht h with⟨h1,-⟩|⟨a,len,cap,m,n,D,Pl,h1,-,hl,hm,hmm,hy,hx⟩
 ·exact⟨none,0,[],by simpa using h1,by simp,El.nil_ _ _ _,by simp,by simp⟩
 ·have hlm:len≤m:=by rw[hmm];split<;>omega
  have hbk:∀i,i<len→Rows.uptoBulk (D i)≤Rows.uptoBulk y.1:=fun i hi=>by
   rw[hy]
   exact ziP (List.mem_map.2 ⟨i,by simpa using hi,rfl⟩)
  have hm0:∀i,i<len→m0≤Rows.uptoBulk (D i):=fun i hi=>by
   obtain⟨cs,h2,h3⟩:=hx i (by omega)
   exact(hq _ _ _ (World.cells?_some h2).2.1 h3 (Nat.le_trans (hbk i hi) hB)).1
  obtain⟨f,hf⟩:=choose_lt (n:=len) (p:=fun i x=>w.cells? b (a.add (i*Tryz.prog.cellsOf e)) (Tryz.prog.cellsOf e)=some (cells x).toList∧φ x) fun i hi=>by
   obtain⟨cs,h2,h3⟩:=hx i (by omega)
   obtain⟨-,x,rfl,h4⟩:=hq _ _ _ (World.cells?_some h2).2.1 h3 (Nat.le_trans (hbk i hi) hB)
   exact⟨x,h2,h4⟩
  have hce:∀i,i<len→(cells (f i)).size=Tryz.prog.cellsOf e∧∀j,j<Tryz.prog.cellsOf e→w.cell? ((a.add (i*Tryz.prog.cellsOf e)).add j)=(cells (f i))[j]?:=fun i hi=>by
   obtain⟨-,h2,h3⟩:=World.cells?_some (hf i hi).1
   exact⟨by simpa using h2,fun j hj=>by simpa using h3 j hj⟩
  have hsp:0<len→a.spot=none:=fun h0=>by
   obtain⟨h2,h3⟩:=hce 0 h0
   have h4:=h3 0 hk
   have h5:0<(cells (f 0)).size:=by omega
   rw[Array.getElem?_eq_getElem h5]at h4
   have:=zeV h4
   simpa[Addr.add] using this
  refine⟨some a,cap,(List.range len).map f,by simpa using h1,by simpa using hl,⟨?_,?_,?_⟩,?_,?_⟩
  ·intro h0
   have h0':0<len:=by simpa using h0
   obtain⟨ab,ao,asp⟩:=a
   have:asp=none:=hsp h0'
   exact⟨ab,ao,by rw[this]⟩
  ·intro i hi
   have hi':i<len:=by simpa using hi
   simpa using(hce i hi').1
  ·intro i hi j hj
   have hi':i<len:=by simpa using hi
   have hc:=(hce i hi').2 j hj
   have hs:=hsp (by omega)
   obtain⟨ab,ao,asp⟩:=a
   have e:asp=none:=hs
   subst e
   rw[zaf,zaf,Nat.add_assoc]at hc
   rw[za6,hc]
   simp
  ·intro x hx'
   obtain⟨i,hi,rfl⟩:=List.mem_map.1 hx'
   have hi':i<len:=by simpa using hi
   exact(hf i hi').2
  ·have h9:=zjW (m:=m0) (l:=(List.range len).map D) (fun d hd=>by
    obtain⟨i,hi,rfl⟩:=List.mem_map.1 hd
    exact hm0 i (by simpa using hi))
   rw[hy]at hB
   simp only[Rows.uptoBulk]at hB
   simp at h9⊢
   omega
theorem zfl:Tryz.prog.cellsOf 65=5:=by kernel_rfl
theorem zjQ:Tryz.prog.cellsOf 3=1:=by kernel_rfl
theorem zgD:Tryz.prog.cellsOf 25=1:=by kernel_rfl
theorem zgR:Tryz.prog.cellsOf 62=9:=by kernel_rfl
theorem zgp:Tryz.prog.cellsOf 68=6:=by kernel_rfl
theorem zhY:Tryz.prog.cellsOf 66=1:=by kernel_rfl
theorem ziI:Tryz.prog.cellsOf 22=1:=by kernel_rfl
theorem ziL:Tryz.prog.cellsOf 23=1:=by kernel_rfl
theorem zir:Tryz.prog.cellsOf 27=3:=by kernel_rfl
theorem znl {n:Nat} {cs:List Value} {y:DataW H×List MemPlace} (h:DataW.trod enc Tryz.prog w b sp hd n 48 cs=some y):∃p:RV×Rat,cs=(za0 p).toList∧okR p w:=by
 obtain⟨y0,y1,m,-,hl,h0,h1⟩:=trod_struct2 Tryz.underlying48 h
 rw[zcT]at hl
 obtain⟨c0,c1,c2,c3,rfl⟩:=zn4 hl
 have k0:DataW.trod enc Tryz.prog w b sp hd m 46 [c0,c1]=some y0:=by simpa[zgA] using h0
 have k1:DataW.trod enc Tryz.prog w b sp hd m 46 [c2,c3]=some y1:=by simpa[zgA] using h1
 obtain⟨i,rfl,rfl,x,hx⟩:=zi2 k0
 obtain⟨j,rfl,rfl,y',hy⟩:=zi2 k1
 exact⟨(⟨i,j⟩,if j.k=0 then Rat.divInt x 1 else Rat.divInt x y'),rfl,x,y',hx.mono (Nat.le_add_right _ _),hy.mono (Nat.le_add_left _ _),rfl⟩
theorem rats_el {n:Nat} {v:Value} {y:DataW H×List MemPlace} (h:DataW.trod enc Tryz.prog w b sp hd n 30 [v]=some y):∃A c l,v=.slice A (List.length l) c∧l.length≤c∧LsR 4 za0 okR A l w:=by
 obtain⟨A,c,l,h1,h2,h3,h4⟩:=ziO (cells:=za0) (φ:=fun p=>okR p w) Tryz.underlying30 zcT (by decide) (fun n cs y _ h=>znl h) h
 exact⟨A,c,l,h1,h2,h3,h4⟩
theorem zhn {n:Nat} {A:Option Addr} {k c:Nat} {y:DataW H×List MemPlace} (h:DataW.trod enc Tryz.prog w b sp hd n 44 [.slice A k c]=some y):k≤Rows.uptoBulk y.1:=by
 rcases open_slice1 Tryz.underlying44 zgt h with⟨h1,-⟩|⟨a,len,cap,m,n,V,D,Pl,h1,-,hl,hm,hmm,hy,hx⟩
 ·have:k=0:=by simpa using(by simpa using h1:A=none∧k=0∧c=0).2.1
  omega
 ·have e:A=some a∧k=len∧c=cap:=by simpa using h1
  rw[hy,e.2.1]
  simp only[Rows.uptoBulk]
  have:=zjV ((List.range len).map D)
  simp at this⊢
  omega
theorem zdZ {n:Nat} {v0 v1:Value} {y:DataW H×List MemPlace} (h:DataW.trod enc Tryz.prog w b sp hd n 46 [v0,v1]=some y):
 ∃i:IV,v0=.bool i.neg∧v1=.slice i.A i.k i.c∧(∃z,IntD i z i.k w)∧i.k≤Rows.uptoBulk y.1:=by
 obtain⟨i,rfl,rfl,hz⟩:=zi2 h
 obtain⟨y0,y1,m,hy,-,h0,h1⟩:=trod_struct2 Tryz.underlying46 h
 have k1:DataW.trod enc Tryz.prog w b sp hd m 44 [.slice i.A i.k i.c]=some y1:=by simpa[zet] using h1
 refine⟨i,rfl,rfl,hz,Nat.le_trans (zhn k1) ?_⟩
 rw[hy]
 exact zbh (by simp)
theorem zdv {n:Nat} {cs:List Value} {y:DataW H×List MemPlace} (h:DataW.trod enc Tryz.prog w b sp hd n 48 cs=some y) (hB:Rows.uptoBulk y.1≤1048576):∃p:RV×Rat,cs=(za0 p).toList∧RatD p.1 p.2 1048576 w:=by
 obtain⟨y0,y1,m,hy,hl,h0,h1⟩:=trod_struct2 Tryz.underlying48 h
 rw[zcT]at hl
 obtain⟨c0,c1,c2,c3,rfl⟩:=zn4 hl
 have k0:DataW.trod enc Tryz.prog w b sp hd m 46 [c0,c1]=some y0:=by simpa[zgA] using h0
 have k1:DataW.trod enc Tryz.prog w b sp hd m 46 [c2,c3]=some y1:=by simpa[zgA] using h1
 obtain⟨i,rfl,rfl,⟨x,hx⟩,b0⟩:=zdZ k0
 obtain⟨j,rfl,rfl,⟨y',hy'⟩,b1⟩:=zdZ k1
 have a0:Rows.uptoBulk y0.1≤1048576:=Nat.le_trans (by rw[hy];exact zbh (by simp)) hB
 have a1:Rows.uptoBulk y1.1≤1048576:=Nat.le_trans (by rw[hy];exact zbh (by simp)) hB
 exact⟨(⟨i,j⟩,if j.k=0 then Rat.divInt x 1 else Rat.divInt x y'),rfl,x,y',hx.mono (Nat.le_trans b0 a0),hy'.mono (Nat.le_trans b1 a1),rfl⟩
theorem zi4 {n:Nat} {cs:List Value} {y:DataW H×List MemPlace} (h:DataW.trod enc Tryz.prog w b sp hd n 65 cs=some y) (hB:Rows.uptoBulk y.1≤1048576):2≤Rows.uptoBulk y.1∧∃t:TeV,cs=(tecells t).toList∧teD 1048576 t w:=by
 obtain⟨y0,y1,m,hy,hl,h0,h1⟩:=trod_struct2 Tryz.underlying65 h
 rw[zfl]at hl
 obtain⟨c0,c1,c2,c3,c4,rfl⟩:=zmW hl
 have k0:DataW.trod enc Tryz.prog w b sp hd m 3 [c0]=some y0:=by simpa[zjQ] using h0
 have k1:DataW.trod enc Tryz.prog w b sp hd m 48 [c1,c2,c3,c4]=some y1:=by simpa[zcT] using h1
 obtain⟨z,e0,-,-⟩:=DataW.trod_int Tryz.underlying3 k0
 obtain⟨p,e,hp⟩:=zdv k1 (Nat.le_trans (by rw[hy];exact zbh (by simp)) hB)
 obtain rfl:c0=.int .i64 z:=by simpa using e0
 refine⟨?_,⟨z,p.1,p.2⟩,by rw[e];rfl,hp⟩
 rw[hy]
 have:=zgF y0.1
 simp only[Rows.uptoBulk,Rows.uptoBulkAll]
 omega
theorem zf0 {n:Nat} {v:Value} {y:DataW H×List MemPlace} (h:DataW.trod enc Tryz.prog w b sp hd n 25 [v]=some y) (hB:Rows.uptoBulk y.1≤1048576):∃A c l,v=.slice A (List.length l) c∧LsR 5 tecells (teD 1048576) A l w∧l.length≤1000000:=by
 obtain⟨A,c,l,h1,-,h3,h4,h5⟩:=zde (cells:=tecells) (φ:=fun t=>teD 1048576 t w) Tryz.underlying25 zfl (by decide) (fun n cs y _ h hB=>zi4 h hB) h hB
 exact⟨A,c,l,h1,⟨h3,h4⟩,by omega⟩
theorem var_oneN {n:Nat} {cs:List Value} {y:DataW H×List MemPlace} (h:DataW.trod enc Tryz.prog w b sp hd n 62 cs=some y) (hB:Rows.uptoBulk y.1≤1048576):∃v:VaV,cs=(zap v).toList∧vaD 1048576 v w:=by
 obtain⟨y0,y1,y2,m,hy,hl,h0,h1,h2⟩:=trod_struct3 Tryz.underlying62 h
 rw[zgR]at hl
 obtain⟨c0,c1,c2,c3,c4,c5,c6,c7,c8,rfl⟩:=zn6 hl
 have k0:DataW.trod enc Tryz.prog w b sp hd m 48 [c0,c1,c2,c3]=some y0:=by simpa[zcT] using h0
 have k1:DataW.trod enc Tryz.prog w b sp hd m 48 [c4,c5,c6,c7]=some y1:=by simpa[zcT] using h1
 have k2:DataW.trod enc Tryz.prog w b sp hd m 4 [c8]=some y2:=by simpa[zfe] using h2
 obtain⟨p,e,hp⟩:=zdv k0 (Nat.le_trans (by rw[hy];exact zbh (by simp)) hB)
 obtain⟨q,e',hq⟩:=zdv k1 (Nat.le_trans (by rw[hy];exact zbh (by simp)) hB)
 obtain⟨B,h3,-⟩:=DataW.trod_bool Tryz.underlying4 k2
 obtain rfl:c8=.bool B:=by simpa using h3
 unfold za0 at e e'
 simp only[List.cons.injEq,and_true]at e e'
 obtain⟨rfl,rfl,rfl,rfl⟩:=e
 obtain⟨rfl,rfl,rfl,rfl⟩:=e'
 exact⟨⟨p,q,B⟩,rfl,hp,hq⟩
theorem row_oneN {n:Nat} {cs:List Value} {y:DataW H×List MemPlace} (h:DataW.trod enc Tryz.prog w b sp hd n 68 cs=some y) (hB:Rows.uptoBulk y.1≤1048576):∃r:RoV,cs=(zdK r).toList∧rwD 1048576 r w∧r.ts.length≤1000000:=by
 obtain⟨y0,y1,y2,m,hy,hl,h0,h1,h2⟩:=trod_struct3 Tryz.underlying68 h
 rw[zgp]at hl
 obtain⟨c0,c1,c2,c3,c4,c5,rfl⟩:=zn0 hl
 have k0:DataW.trod enc Tryz.prog w b sp hd m 25 [c0]=some y0:=by simpa[zgD] using h0
 have k1:DataW.trod enc Tryz.prog w b sp hd m 66 [c1]=some y1:=by simpa[zhY] using h1
 have k2:DataW.trod enc Tryz.prog w b sp hd m 48 [c2,c3,c4,c5]=some y2:=by simpa[zcT] using h2
 obtain⟨A,c,l,rfl,hA,hn⟩:=zf0 k0 (Nat.le_trans (by rw[hy];exact zbh (by simp)) hB)
 obtain⟨z,e1,-,-⟩:=DataW.trod_int Tryz.underlying66 k1
 obtain⟨q,e',hq⟩:=zdv k2 (Nat.le_trans (by rw[hy];exact zbh (by simp)) hB)
 obtain rfl:c1=.int .u8 z:=by simpa using e1
 unfold za0 at e'
 simp only[List.cons.injEq,and_true]at e'
 obtain⟨rfl,rfl,rfl,rfl⟩:=e'
 exact⟨⟨A,c,l,z,q⟩,rfl,⟨hA,hq⟩,hn⟩
set_option maxRecDepth 100000 in
theorem zkA {b0:Nat} {rr:Reach} {v:Value} {d:DataW H} {p:List MemPlace} (hv:Value.okWide Tryz.prog w rr b0 27 v) (h:DataW.Trod enc Tryz.prog w b sp hd 27 v d p) (hB:Rows.uptoBulk d≤1048576):
 ∃f:PrV,v=.agg #[.slice f.Av f.vars.length f.cv,.slice f.Ar f.rows.length f.cr,.slice f.Ak f.cost.length f.ck]∧PrD 1048576 f w∧(∀r∈f.rows,r.ts.length≤1000000)∧f.cost.length≤1000000:=by
 obtain⟨cs,rfl,hsz⟩:=okWide_struct Tryz.underlying27 hv
 obtain⟨c0,c1,c2,rfl⟩:=zmK (hsz.trans zir)
 obtain⟨fuel,hf⟩:=h
 obtain⟨y0,y1,y2,n,hy,-,h0,h1,h2⟩:=trod_struct3 Tryz.underlying27 hf
 have k0:DataW.trod enc Tryz.prog w b sp hd n 22 [c0]=some y0:=by simpa[Value.cells,ziI] using h0
 have k1:DataW.trod enc Tryz.prog w b sp hd n 23 [c1]=some y1:=by simpa[Value.cells,ziL] using h1
 have k2:DataW.trod enc Tryz.prog w b sp hd n 25 [c2]=some y2:=by simpa[Value.cells,zgD] using h2
 have hd:d=.agg [y0.1,y1.1,y2.1]:=congrArg Prod.fst hy
 obtain⟨A0,q0,l0,rfl,-,g0,f0,-⟩:=zde (m0:=0) (cells:=zap) (φ:=fun v=>vaD 1048576 v w) Tryz.underlying22 zgR (by decide) (fun n cs y _ h hB=>⟨Nat.zero_le _,var_oneN h hB⟩) k0 (Nat.le_trans (by rw[hd];exact zbh (by simp)) hB)
 obtain⟨A1,q1,l1,rfl,-,g1,f1,-⟩:=zde (m0:=0) (cells:=zdK) (φ:=fun r=>rwD 1048576 r w∧r.ts.length≤1000000) Tryz.underlying23 zgp (by decide) (fun n cs y _ h hB=>⟨Nat.zero_le _,row_oneN h hB⟩) k1 (Nat.le_trans (by rw[hd];exact zbh (by simp)) hB)
 obtain⟨A2,q2,l2,rfl,g2,hn2⟩:=zf0 k2 (Nat.le_trans (by rw[hd];exact zbh (by simp)) hB)
 exact⟨⟨A0,q0,l0,A1,q1,l1,A2,q2,l2⟩,rfl,⟨⟨g0,f0⟩,⟨g1,fun r hr=>(f1 r hr).1⟩,g2⟩,fun r hr=>(f1 r hr).2,hn2⟩
theorem zge:Tryz.prog.cellsOf 51=1:=by kernel_rfl
theorem zmw {n:Nat} {cs:List Value} {y:DataW H×List MemPlace} (hl:cs.length=1) (h:DataW.trod enc Tryz.prog w b sp hd n 51 cs=some y):∃z:Int,cs=(stc z).toList∧True:=by
 match cs,hl with
 |[c0],_=>
  obtain⟨z,e0,-,-⟩:=DataW.trod_int Tryz.underlying51 h
  obtain rfl:c0=.int .u8 z:=by simpa using e0
  exact⟨z,rfl,trivial⟩
set_option maxRecDepth 100000 in
theorem zlH {b0:Nat} {rr:Reach} {v:Value} {d:DataW H} {p:List MemPlace} (hv:Value.okWide Tryz.prog w rr b0 28 v) (h:DataW.Trod enc Tryz.prog w b sp hd 28 v d p):
 ∃A c l,v=.slice A (List.length l) c∧l.length≤c∧LsR 1 stc (fun _ _=>True) A l w:=by
 obtain⟨a,len,cap,rfl⟩:=okWide_slice Tryz.underlying28 hv
 obtain⟨n,hf⟩:=h
 obtain⟨A,c,l,h1,h2,h3,h4⟩:=ziO (cells:=stc) (φ:=fun _=>True) Tryz.underlying28 zge (by decide) (fun n cs y hl h=>zmw hl h) hf
 exact⟨A,c,l,h1,h2,h3,fun _ _=>trivial⟩
end
end Go.Proofs.YtfdmajmhmligpaaGreatDoor
namespace Go.Proofs.YtfdmajmhmligpaaGreatDoor.proofBases
set_option maxHeartbeats 4000000
open Go.ChangeShapes Go.WideShapes Go.ChangeAt Go.RowKit Go.ChangeMaps

set_option maxRecDepth 100000 in
theorem zkh (H:Type) (enc:TypeId×Value→H) (W:World) (base:Nat) (args:Array Value) (ds gs:List (DataW H)) (before:List MemPlace)
 (hval:∀(j:Nat) t v,Tryz.f4.params[j]?=some t→args[j]?=some v→Value.okWide Tryz.prog W .any base t v)
 (hW:DataW.Whole enc Tryz.prog Tryz.f4.params.toList Rows.proofBasesSpec.vars false W args.toList ds gs before) (hL:laidMetH Tryz.prog Rows.proofBasesUptoRow.laid W) (hk:Rows.uptoSmall H (ds++gs)=true):
 Calls Tryz.prog 4 args W fun e W'=>∃v,e=.returned v∧Rows.proofBasesSpec.post enc Tryz.prog Tryz.f4 false true false false W args v W':=by
 have hW':=hW
 have hlt:=hW.lt
 obtain⟨p,q,hA,hV,rfl,hfz,hnd⟩:=hW
 obtain⟨rfl,rfl⟩:=trodVars_none hV
 rw[Tryz.params4]at hA
 obtain⟨v0,vs0,d0,ds0,p0,q0,hargs,rfl,rfl,h0,t0⟩:=trodAll_cons hA
 obtain⟨v1,vs1,d1,ds1,p1,q1,rfl,rfl,rfl,h1,t1⟩:=trodAll_cons t0
 obtain⟨rfl,rfl,rfl⟩:=trodAll_nil t1
 obtain rfl:args=#[v0,v1]:=by cases args;simp_all
 have hbk:=zk9 (by simpa only[List.append_nil] using hk)
 obtain⟨f0,rfl,x0,ht0,hk0⟩:=zkA (hval 0 _ v0 (by rw[Tryz.params4];rfl) rfl) h0 (Nat.le_trans (zdQ (by simp)) hbk)
 obtain⟨A1,c1,l1,rfl,-,hr1⟩:=zlH (hval 1 _ v1 (by rw[Tryz.params4];rfl) rfl) h1
 refine(zop W 1048576 (by decide) (by decide) f0 x0 ht0 hk0 A1 c1 l1 hr1 (zn9 hL)).mono fun e W' ⟨he,hb⟩=>?_
 subst he
 exact⟨_,rfl,zix hW' rfl rfl rfl hb (by rw[Tryz.params4];simpa only[List.append_nil] using trodAll_cons_mk (Below.trod ziF (by kernel_rfl) (of_decide_eq_true (by kernel_rfl)) h0 hb (fun x hx=>hlt x (by simp[hx]))) (trodAll_cons_mk (Below.trod ziF (by kernel_rfl) (of_decide_eq_true (by kernel_rfl)) h1 hb (fun x hx=>hlt x (by simp[hx]))) (trodAll_mk0)))⟩

theorem zjt (os:Os):laidMet Tryz.prog Rows.proofBasesUptoRow.laid ((zdC os).forCall (fun _ _=>0) ⟨#[],#[.agg #[.slice none 0 0,.slice none 0 0,.slice none 0 0],.slice none 0 0],[]⟩).memory:=
 laidMet_of_run' 8 (by kernel_rfl) (by kernel_rfl)
theorem reads (os:Os) {H:Type} (enc:TypeId×Value→H):∃places,DataW.whole enc Tryz.prog ((zdC os).forCall (fun _ _=>0) ⟨#[],#[.agg #[.slice none 0 0,.slice none 0 0,.slice none 0 0],.slice none 0 0],[]⟩).memory Tryz.f4.params.toList Rows.proofBasesSpec.vars false (#[.agg #[.slice none 0 0,.slice none 0 0,.slice none 0 0],.slice none 0 0]:Array Value).toList 8=some ([.agg [.nil,.nil,.nil],.nil],[],places):=
 ⟨[],by kernel_rfl⟩

set_option maxRecDepth 100000 in
theorem zmz (os:Os) (started:os.Started) (H:Type) (enc:TypeId×Value→H) (F:Stop.Interp):
 ReturnsInHanded {} Tryz.checked os 4 .any ((Rows.OpenSpec.upto Rows.proofBasesSpec).preRow enc Tryz.prog Tryz.f4 Rows.proofBasesUptoRow.domain false Rows.proofBasesUptoRow.laid) (((Rows.OpenSpec.upto Rows.proofBasesSpec).at F).post enc Tryz.prog Tryz.f4 false true false false):=by
 obtain⟨places,hx⟩:=reads os enc
 refine returnsInHanded_of_row (C:=Tryz.checked) (s:=Rows.OpenSpec.upto Rows.proofBasesSpec) own started (by kernel_rfl) Tryz.func4
  (witness_row_at (enc:=enc) (C:=Tryz.checked) false (zdC os) #[.agg #[.slice none 0 0,.slice none 0 0,.slice none 0 0],.slice none 0 0] rfl (by kernel_rfl) (by kernel_rfl) (by kernel_rfl)
   (OpenSpec.preRow_of_cond 8 hx (by kernel_rfl) (fun k hk=>by cases hk;kernel_rfl) (by kernel_rfl) (zjt os))) ?_
 intro W base args ds gs before hval hW _ hcond _ hL _ _
 exact zkh H enc W base args ds gs before hval hW hL (hcond _ rfl)

theorem zmr {a b:Bool} (h:a=true) (h':b=true):(a&&b)=true:=by rw[h,h'];rfl
theorem zkU:joinedFacts Tryz.pinned.checked.prog 4 Tryz.f4 (Rows.OpenSpec.upto Rows.proofBasesSpec).bare Rows.proofBasesUptoRow=true:=by
 unfold joinedFacts
 repeat' (with_reducible refine zmr ?_ ?_)
 all_goals(as_aux_lemma=>kernel_rfl)
theorem said:Rows.ProofBasesUptoSaid:=
 OpenClaim.holds_of_cond 4 Tryz.f4 rfl rfl rfl rfl rfl rfl rfl ⟨rfl,rfl,rfl,rfl,rfl⟩ rfl rfl rfl rfl rfl (by kernel_rfl) Tryz.func4 zkU
  (of_decide_eq_true (by kernel_rfl)) (by unfold Func.isWrapper;first|(rw[if_pos (by decide+kernel)];kernel_rfl)|(rw[if_neg (by decide+kernel)];exact⟨rfl,rfl⟩))
  (fun os started H enc _ F=>by rw[OpenClaim.pre_eq_preRow];exact zmz os started H enc F)

theorem plain (f:FuncId) (fn:Func) (hf:Tryz.pinned.checked.prog.funcNamed "tripwire/tripwirelaw17.ProofBases" =some f) (hfn:Tryz.pinned.checked.prog.funcs[f]?=some fn):
 false=Tryz.pinned.checked.prog.looks []∧∀(j:Nat) t,fn.params[j]?=some t→Tryz.pinned.checked.prog.wantsStandIn t=false:=by
 obtain rfl:f=4:=Option.some.inj ((show Tryz.prog.funcNamed "tripwire/tripwirelaw17.ProofBases" =some 4 by kernel_rfl).symm.trans hf) |>.symm
 obtain rfl:fn=Tryz.f4:=(Option.some.inj (Tryz.func4.symm.trans hfn)).symm
 refine⟨by kernel_rfl,fun j t ht=>?_⟩
 rw[Tryz.params4]at ht
 match j,ht with
 |0,ht=>have e:=Option.some.inj ht;rw[←e];exact(show Tryz.prog.wantsStandIn 27=false by kernel_rfl)
 |1,ht=>have e:=Option.some.inj ht;rw[←e];exact(show Tryz.prog.wantsStandIn 28=false by kernel_rfl)
 |n+2,ht=>simp at ht

theorem card:Rows.ProofBasesUptoCardSaid:=
 Claim7.holds_tied_plain_at .later [] _ _ _ _ said (fun _ h=>by cases h) (by kernel_rfl) (fun _ h=>by cases h) proofBasesUpto_row_tie rfl ⟨rfl,rfl⟩ (by kernel_rfl) rfl plain (by kernel_rfl)
end Go.Proofs.YtfdmajmhmligpaaGreatDoor.proofBases
#print axioms Go.Proofs.YtfdmajmhmligpaaGreatDoor.proofBases.card
