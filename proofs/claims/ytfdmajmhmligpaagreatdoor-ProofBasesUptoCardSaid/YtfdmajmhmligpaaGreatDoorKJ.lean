/-
 The plain law of places: a rising list of all places. tripwireref05.Get. tripwireref05.Places. tripwireref05.put, Norm. ref05.sameWords. Many operations of a drawn region at once: those that are not wanted, moves, picks. tripwireref05.Right. tripwireref04.Same, tripwireref16.Right. A drawn region whose last operation waits for all others: what all read need not hold behind it. tripwireref16.Reduced. tripwireref17.bound.
-/
import Derived.Test.YtfdmajmhmligpaaGreatDoorV18
import Derived.Test.YtfdmajmhmligpaaGreatDoorMath
import Derived.Test.YtfdmajmhmligpaaGreatDoorLowB
import Derived.Test.YtfdmajmhmligpaaGreatDoorDiv
import Derived.Test.YtfdmajmhmligpaaGreatDoorLimF
import Derived.Test.YtfdmajmhmligpaaGreatDoorProg
import Derived.Test.YtfdmajmhmligpaaGreatDoorVal
import Derived.Test.YtfdmajmhmligpaaGreatDoorGcdM
import Derived.Test.YtfdmajmhmligpaaGreatDoorWE
import Derived.Test.YtfdmajmhmligpaaGreatDoorWA
import Derived.Test.YtfdmajmhmligpaaGreatDoorEM
import Derived.Test.YtfdmajmhmligpaaGreatDoorTT
import Derived.Test.YtfdmajmhmligpaaGreatDoorQC
namespace Go.Proofs.YtfdmajmhmligpaaGreatDoor
open Go.RowKit

theorem zcX (w:World):(sizeOf (Tryz.prog.elem 79)).run Tryz.prog w=.ok 1 w:=by kernel_rfl
theorem zes:Tryz.prog.underlying 79=some (.slice 3):=by kernel_rfl
theorem zfk:(Tryz.prog.info? 3).map (fun i=>(i.zero,i.size,i.bytes))=some (some (.int .i64 0),1,8):=by kernel_rfl
theorem GL.after {w W W':World} {ls:List Ow} {bs:List Bo} {old new old' new':World→Prop} (h:GL w ls old new W) (he:Env W bs old' new' W'):GL w ls old new W':=
 (h.keep (ψ:=fun _=>True) (Rests.pure trivial _ _) he.bel).imp (fun _ h=>h) (fun _ h=>h.2)
theorem vs2 {n g:Nat} {A:Option Addr} {c:Nat} {ts:List TeV} {W:World} {t:TypeId} (h:Blk W g t #[.slice none 0 0,.slice A ts.length c]) (ht:LsR 5 tecells (teD n) A ts W):LsR 1 za3 (veD n) (some ⟨g,0,none⟩) [⟨none,0,[]⟩,⟨A,c,ts⟩] W:=by
 refine⟨⟨Sl.some_ _ _ _,fun i hi=>?_,fun i hi j hj=>?_⟩,fun p hp=>?_⟩
 ·match i,hi with
  |0,_=>rfl
  |1,_=>rfl
 ·obtain rfl:j=0:=by omega
  rw[za6]
  match i,hi with
  |0,_=>exact h.cell 0
  |1,_=>exact h.cell 1
 ·simp only[List.mem_cons,List.not_mem_nil,or_false]at hp
  rcases hp with rfl|rfl
  ·exact LsR.nil_ none
  ·exact ht
theorem IntD.uniq {i:IV} {x y:Int} {n m:Nat} {w:World} (h:IntD i x n w) (h':IntD i y m w):x=y:=by
 obtain⟨l,hk,hrd,-,hv⟩:=h.ex
 obtain⟨l',hk',hrd',-,hv'⟩:=h'.ex
 have e:l=l':=zdT _ _ (by omega) fun t ht=>by
  have c1:=hrd.cell t ht
  have c2:=hrd'.cell t (by omega)
  rw[c1]at c2
  have c3:((nth l t:Nat):Int)=((nth l' t:Nat):Int):=by simpa using c2
  omega
 rw[←hv,←hv',e]
theorem RatD.uniq {r:RV} {p q:Rat} {n m:Nat} {w:World} (h:RatD r p n w) (h':RatD r q m w):p=q:=by
 obtain⟨x,d,hx,hd,e⟩:=h.ex
 obtain⟨x',d',hx',hd',e'⟩:=h'.ex
 rw[e,e',hx.uniq hx',hd.uniq hd']
theorem RatN.someD {r:RV} {q:Rat} {w:World} (h:RatN r q w):∃n,RatD r q n w:=
 ⟨q.num.natAbs+q.den,h.rat ⟨Nat.lt_of_lt_of_le (Nat.lt_pow_self (by decide)) (Nat.pow_le_pow_right (by decide) (Nat.le_add_right _ _)),Nat.lt_of_lt_of_le (Nat.lt_pow_self (by decide)) (Nat.pow_le_pow_right (by decide) (Nat.le_add_left _ _))⟩⟩
theorem RatN.uniq {r:RV} {p q:Rat} {n:Nat} {w:World} (h:RatD r p n w) (h':RatN r q w):p=q:=by
 obtain⟨m,hm⟩:=h'.someD
 exact h.uniq hm
section
variable {P:Program} {ops:Array Oper} {Q:Exit→Act→World→Prop} {md:Region.Mode} {S:World→Prop} {s:Nat}

def zch (P:Program) (md:Region.Mode) (ops:Array Oper) (Q:Exit→Act→World→Prop) (S:World→Prop) (s:Nat):Nat→Array Bool→Act→World→Prop
 |0,listed,a,w=>Region.ready md ops listed=[]∧Q .normal a w
 |fuel+1,listed,a,w=>
  (Region.ready md ops listed=[]→Q .normal a w)∧
  ∀i∈Region.ready md ops listed,wpOp P ops Q i (fun a' w'=>(i=s∨S w')∧zch P md ops Q S s fuel (listed.setIfInBounds i true) a' w') a w
theorem zek:∀(fuel:Nat) (listed:Array Bool) (a:Act) (w:World),zch P md ops Q S s fuel listed a w→wpAny P md ops Q fuel listed a w
 |0,_,_,_,h=>h
 |fuel+1,_,_,_,h=>⟨h.1,fun i hi=>wpOp_mono (fun a' w' h'=>zek fuel _ a' w' h'.2) (h.2 i hi)⟩
def zey (md:Region.Mode) (ops:Array Oper) (s i:Nat):Bool:=
 match ops[s]?with
 |none=>true
 |some o=>o.after.any fun e=>Region.binds md e&&e.on==i
theorem zeX {i:Nat} {oi:Oper} {v:Value} (hi:ops[i]?=some oi) (hsel:∀(j:Nat) (o:Oper) cs b,ops[j]?=some o→o.op≠.select cs b)
 (hQ:∀c a w,Q (.panic c) (a.put oi.dst v) w→Q (.panic c) a w) (his:zey md ops s i=true):
 ∀(fuel:Nat) (listed:Array Bool) (a:Act) (w:World),
  (∀j oj,ops[j]?=some oj→j≠i→listed.getD j true=false→(∀e∈oj.after,Region.binds md e=true→e.on≠i)→oi.apart ops oj=true)→
  i∈Region.ready md ops listed→YieldsIf P ops S oi v a→S w→
  zch P md ops Q S s fuel (listed.setIfInBounds i true) (a.put oi.dst v) w→zch P md ops Q S s (fuel+1) listed a w:=by
 intro fuel
 induction fuel with
 |zero=>
  intro listed a w _ hr hy hS H
  refine⟨fun h=>(by rw[h]at hr;cases hr),fun j hj=>?_⟩
  by_cases hji:j=i
  ·subst hji;exact hy.wpOp hi hS ⟨.inr hS,H⟩
  ·have:=ready_mono hj hji
   rw[H.1]at this
   cases this
 |succ fuel ih=>
  intro listed a w hfree hr hy hS H
  refine⟨fun h=>(by rw[h]at hr;cases hr),fun j hj=>?_⟩
  by_cases hji:j=i
  ·subst hji;exact hy.wpOp hi hS ⟨.inr hS,H⟩
  ·have h1:=H.2 j (ready_mono hj hji)
   obtain⟨hjun,oj,hoj,hall⟩:=mem_ready.1 hj
   have hnot:∀e∈oj.after,Region.binds md e=true→e.on≠i:=fun e he hb heq=>by
    have h1:=hall e he hb
    have h0:=(mem_ready.1 hr).1
    rw[heq]at h1
    rcases Nat.lt_or_ge i listed.size with h'|h'
    ·simp[h']at h0 h1;rw[h0]at h1;cases h1
    ·simp[Array.getElem?_eq_none h']at h1
   have hjs:j≠s:=fun e=>by
    subst e
    unfold zey at his
    rw[hoj]at his
    obtain⟨e,he,hb⟩:=Array.any_eq_true'.1 his
    simp only[Bool.and_eq_true,beq_iff_eq]at hb
    exact hnot e he hb.1 hb.2
   have h2:=wpOp_putIf hoj (hfree j oj hoj hji hjun hnot) (fun cs b=>hsel i oi cs b hi) (fun cs b=>hsel j oj cs b hoj) hQ hy h1
   have hfree':∀k ok,ops[k]?=some ok→k≠i→(listed.setIfInBounds j true).getD k true=false→
    (∀e∈ok.after,Region.binds md e=true→e.on≠i)→oi.apart ops ok=true:=fun k ok hk hki hun hno=>by
    refine hfree k ok hk hki ?_ hno
    by_cases hjk:j=k
    ·subst hjk;exact hjun
    ·rw[_root_.Go.getD_set_ne true hjk]at hun;exact hun
   refine wpOp_mono (fun a' w' h3=>?_) h2
   have hS':S w':=h3.2.1.resolve_left hjs
   refine⟨h3.2.1,ih (listed.setIfInBounds j true) a' w' hfree' (ready_mono hr (Ne.symm hji)) h3.1 hS' ?_⟩
   rw[Array.setIfInBounds_comm _ _ hji]
   exact h3.2.2
def gOk (md:Region.Mode) (ops:Array Oper) (listed:Array Bool) (i s:Nat):Bool:=
 Region.noSelect ops&&Region.free md ops listed i&&(Region.ready md ops listed).contains i&&zey md ops s i
theorem gT (i:Nat) {oi:Oper} {v:Value} {fuel:Nat} {listed:Array Bool} {a:Act} {w:World} (d:Option Nat) (hi:ops[i]?=some oi) (hd:oi.dst=d) (hok:gOk md ops listed i s=true)
 (hQ:∀c a w,Q (.panic c) (a.put d v) w→Q (.panic c) a w) (hS:S w) (hy:Region.wanted oi (yielded ops a.tmps)=true∧∀w,S w→(execOp a.eval oi).run P w=.ok (.value v) w)
 (h:zch P md ops Q S s fuel (listed.setIfInBounds i true) (a.put d v) w):zch P md ops Q S s (fuel+1) listed a w:=by
 subst hd
 unfold gOk at hok
 obtain⟨h1,h4⟩:=Bool.and_eq_true_iff.1 hok
 obtain⟨h1,h3⟩:=Bool.and_eq_true_iff.1 h1
 obtain⟨h1,h2⟩:=Bool.and_eq_true_iff.1 h1
 exact zeX hi (Region.noSelect_spec h1) hQ h4 fuel listed a w (Region.free_spec hi h2) (by simpa using h3) (.inl hy) hS h
theorem gTa (i d:Nat) {oi:Oper} {v:Value} {fuel:Nat} {listed l2:Array Bool} {a a2:Act} {w:World} (hS:S w)
 (h:zch P md ops Q S s fuel l2 a2 w) (hi:ops[i]?=some oi:=by rfl) (hd:oi.dst=some d:=by rfl) (hok:gOk md ops listed i s=true:=by kernel_rfl) (hw:Region.wanted oi (yielded ops a.tmps)=true:=by rfl)
 (hy:∀w,S w→(execOp a.eval oi).run P w=.ok (.value v) w:=by(intro w hSw;(try dsimp only at hSw);(first|(go_simp;done)|(go_simp;with_reducible rfl))))
 (hl:listed.setIfInBounds i true=l2:=by((try simp only[p2,p3,p4]);exact rfl)) (ha:a.put (some d) v=a2:=by((try simp only[p1,p2,p3,p4]);exact rfl))
 (hQ:∀c a w,Q (.panic c) (a.put (some d) v) w→Q (.panic c) a w:=by exact fun _ _ _ h=>h):zch P md ops Q S s (fuel+1) listed a w:=by
 subst hl ha
 exact gT i (some d) hi hd hok hQ hS ⟨hw,hy⟩ h
theorem gC (i:Nat) {o:Oper} {fuel:Nat} {listed:Array Bool} {a:Act} {w:World} (hi:ops[i]?=some o) (hr:Region.ready md ops listed=[i]) (hw:Region.wanted o (yielded ops a.tmps)=true)
 (h:∀K:Act→World→Prop,Shut (∀a w,S w→(S w→zch P md ops Q S s fuel (listed.setIfInBounds i true) a w)→K a w)→Oper.wp P o a w K Q):zch P md ops Q S s (fuel+1) listed a w:=by
 refine⟨fun h0=>(by rw[hr]at h0;cases h0),fun j hj=>?_⟩
 rw[hr]at hj
 obtain rfl:=List.mem_singleton.1 hj
 exact wpOp_step hi (fun K' hK=>by
  rw[if_pos hw]
  exact h K' (fun a w hS hn=>hK a w ⟨.inr hS,hn hS⟩))
theorem gL {o:Oper} {fuel:Nat} {listed:Array Bool} {a:Act} {w:World} (hi:ops[s]?=some o) (hr:Region.ready md ops listed=[s]) (hr2:Region.ready md ops (listed.setIfInBounds s true)=[]) (hw:Region.wanted o (yielded ops a.tmps)=true)
 (h:∀K:Act→World→Prop,Shut (∀a w,Q .normal a w→K a w)→Oper.wp P o a w K Q):zch P md ops Q S s (fuel+1) listed a w:=by
 refine⟨fun h0=>(by rw[hr]at h0;cases h0),fun j hj=>?_⟩
 rw[hr]at hj
 obtain rfl:=List.mem_singleton.1 hj
 exact wpOp_step hi (fun K' hK=>by
  rw[if_pos hw]
  exact h K' (fun a w hn=>hK a w ⟨.inl rfl,by
   cases fuel with
   |zero=>exact⟨hr2,hn⟩
   |succ fuel=>exact⟨fun _=>hn,by rw[hr2];simp⟩⟩))
theorem zab {id:Nat} {a:Act} {w:World} (s:Nat) (S:World→Prop) (hm:P.follows .mixedOrders=true) (hS:S w.drew)
 (h:S w.drew→zch P .any ops Q S s ops.size (Array.replicate ops.size false) a w.drew):(Code.region id ops true).wp P Q a w:=
 wp_region_any hm (zek _ _ _ _ (h hS))
end

theorem zbH (p:RV×Rat):∀u∈(za0 p).toList,u.oneCell'=true:=by
 intro u hu
 simp only[za0,List.mem_cons,List.not_mem_nil,or_false]at hu
 rcases hu with rfl|rfl|rfl|rfl<;>rfl
theorem GL.appR {w W W':World} {ls:List Ow} {bs:List Bo} {old new old' new':World→Prop} {t:TypeId} (ht:Tryz.prog.underlying t=some (.slice 48)) {A:Option Addr} {c:Nat} {os:List (RV×Rat)} (h:GL w (⟨48,4,.slice A os.length c,os.map za0⟩::ls) old new W) (he:Env W bs old' new' W') (x:RV×Rat) (hl:os.length≤1000000):
 ∃A' c' w',(Builtin.append_ #[t,t] t #[.slice A os.length c,.slice (some ⟨W'.heap.size,0,none⟩) 1 1]).run Tryz.prog (W'.alloc (.cells (za0 x) 48))=.ok (.slice A' (os++[x]).length c') w'∧GL w (⟨48,4,.slice A' (os++[x]).length c',(os++[x]).map za0⟩::ls) old (fun V=>new' V∧new V) w':=by
 obtain⟨v',w',hrun,hG⟩:=GL.app (P:=Tryz.prog) ht zc7 rfl (by decide) h he (za0 x) rfl (zbH x) (by simp;omega) (by simp[maxLen];omega)
 obtain⟨A',c',hv,-⟩:=(hG.own _ (List.mem_cons_self ..)).form
 have hv':v'=.slice A' (os++[x]).length c':=by rw[show v'=_ from hv];simp
 subst hv'
 refine⟨A',c',w',hrun,?_⟩
 have e:(os++[x]).map za0=os.map za0++[za0 x]:=by simp
 rw[e];exact hG
end Go.Proofs.YtfdmajmhmligpaaGreatDoor
