/-
 A square matrix by its pivots: equations in it, from both sides (plain law of package lu). The point of a basis (plain law of PointSolves).
-/
import Derived.Test.YtfdmajmhmligpaaGreatDoorMath
namespace Go.Proofs.YtfdmajmhmligpaaGreatDoor

theorem zfz {a p:Rat} (h:p≠0):p*(a/p)=a:=by rw[Rat.mul_comm];exact Rat.div_mul_cancel h
def sumN (g:Nat→Rat):Nat→Rat
 |0=>0
 |k+1=>sumN g k+g k
theorem zae {g h:Nat→Rat}:∀{n:Nat},(∀i,i<n→g i=h i)→sumN g n=sumN h n
 |0,_=>rfl
 |n+1,e=>by rw[sumN,sumN,zae fun i hi=>e i (by omega),e n (by omega)]
theorem zbk {g:Nat→Rat}:∀{n:Nat},(∀i,i<n→g i=0)→sumN g n=0
 |0,_=>rfl
 |n+1,e=>by rw[sumN,zbk fun i hi=>e i (by omega),e n (by omega),Rat.add_zero]
theorem zby (g h:Nat→Rat):∀n,sumN (fun i=>g i+h i) n=sumN g n+sumN h n
 |0=>by show(0:Rat)=0+0;grind
 |n+1=>by rw[sumN,sumN,sumN,zby g h n];grind
theorem zgw (g h:Nat→Rat):∀n,sumN (fun i=>g i-h i) n=sumN g n-sumN h n
 |0=>by show(0:Rat)=0-0;grind
 |n+1=>by rw[sumN,sumN,sumN,zgw g h n];grind
theorem zcx (a:Rat) (g:Nat→Rat):∀n,sumN (fun i=>a*g i) n=a*sumN g n
 |0=>(Rat.mul_zero a).symm
 |n+1=>by rw[sumN,sumN,zcx a g n];grind
theorem zcD {g:Nat→Rat} {c:Nat}:∀{n:Nat},c<n→(∀i,i<n→i≠c→g i=0)→sumN g n=g c
 |0,h,_=>absurd h (Nat.not_lt_zero _)
 |n+1,h,e=>by
  by_cases hc:c=n
  ·subst hc
   rw[sumN,zbk fun i hi=>e i (by omega) (by omega),Rat.zero_add]
  ·rw[sumN,zcD (c:=c) (by omega) fun i hi hne=>e i (by omega) hne,e n (by omega) (by omega),Rat.add_zero]
theorem zja {g:Nat→Rat} {c n:Nat} (hc:c<n):sumN g n=g c+sumN (fun i=>if i=c then 0 else g i) n:=by
 have h1:sumN (fun i=>(if i=c then g i else 0)+(if i=c then 0 else g i)) n=sumN g n:=zae fun i _=>by split<;>grind
 rw[←h1,zby,zcD (c:=c) hc fun i _ hne=>if_neg hne,if_pos rfl]
structure PStep where
 r:Nat
 c:Nat
 p:Rat
 rest:Nat→Rat
 t:Nat→Rat
def PStep.u (s:PStep) (k:Nat):Rat:=if k=s.c then s.p else s.rest k
def zg0 (R:Nat→Nat→Rat) (s:PStep):Nat→Nat→Rat:=fun i k=>R i k-s.t i*R s.r k
inductive Fac (n:Nat):(Nat→Nat→Rat)→(Nat→Prop)→List PStep→Prop
 |nil {R O} (h:∀i,¬O i):Fac n R O []
 |cons {R O s ss} (hr:O s.r∧s.r<n) (hc:s.c<n) (hp:s.p=R s.r s.c) (h0:s.p≠0) (hs:∀k,s.rest k=if k=s.c then 0 else R s.r k)
  (ht:∀i,O i→i≠s.r→s.t i*s.p=R i s.c) (hz:∀i,¬(O i∧i≠s.r)→s.t i=0)
  (hss:Fac n (zg0 R s) (fun i=>O i∧i≠s.r) ss):Fac n R O (s::ss)
def fwd:List PStep→(Nat→Rat)→(Nat→Rat)
 |[],b=>b
 |s::ss,b=>fwd ss fun i=>b i-s.t i*b s.r
def bwd (n:Nat) (side:Nat→Rat):List PStep→(Nat→Rat)
 |[]=>fun _=>0
 |s::ss=>fun k=>if k=s.c then(side s.r-sumN (fun k=>s.rest k*bwd n side ss k) n)/s.p else bwd n side ss k
section
variable {n:Nat}
theorem Fac.u_row {R:Nat→Nat→Rat} {O:Nat→Prop} {s:PStep} {ss:List PStep} (h:Fac n R O (s::ss)) (k:Nat):s.u k=R s.r k:=by
 cases h with
 |cons hr hc hp h0 hs ht hz hss=>
  unfold PStep.u
  split
  ·rename_i e;rw[e,hp]
  ·rename_i e;rw[hs,if_neg e]
theorem zha {R:Nat→Nat→Rat} {O:Nat→Prop} {ss:List PStep} (h:Fac n R O ss):∀(b:Nat→Rat) (i:Nat),¬O i→fwd ss b i=b i:=by
 induction h with
 |nil _=>intro b i _;rfl
 |cons hr hc hp h0 hs ht hz hss ih=>
  intro b i hi
  rw[fwd,ih _ i (fun h=>hi h.1),hz i (fun h=>hi h.1)]
  grind
theorem Fac.free {R:Nat→Nat→Rat} {O:Nat→Prop} {ss:List PStep} (h:Fac n R O ss) {c:Nat} (hf:∀i,O i→R i c=0):∀s∈ss,s.c≠c∧s.u c=0:=by
 induction h with
 |nil _=>intro s hs;cases hs
 |@cons R O s ss hr hc hp h0 hs ht hz hss ih=>
  intro s' hs'
  have hne:s.c≠c:=fun e=>h0 (by rw[hp,e];exact hf _ hr.1)
  rcases List.mem_cons.1 hs' with e|hs'
  ·subst e
   refine⟨hne,?_⟩
   unfold PStep.u
   rw[if_neg (fun e=>hne e.symm),hs,if_neg (fun e=>hne e.symm)]
   exact hf _ hr.1
  ·refine ih (fun i hi=>?_) s' hs'
   show R i c-s.t i*R s.r c=0
   rw[hf i hi.1,hf _ hr.1];grind
theorem zgo {R:Nat→Nat→Rat} {O:Nat→Prop} {s:PStep} {ss:List PStep} (h:Fac n R O (s::ss)):∀i,O i∧i≠s.r→zg0 R s i s.c=0:=by
 cases h with
 |cons hr hc hp h0 hs ht hz hss=>
  intro i hi
  show R i s.c-s.t i*R s.r s.c=0
  rw[←hp,ht i hi.1 hi.2];grind
theorem zgm {side:Nat→Rat} {c:Nat}:∀{ss:List PStep},(∀s∈ss,s.c≠c)→bwd n side ss c=0
 |[],_=>rfl
 |s::ss,h=>by
  show(if c=s.c then _ else bwd n side ss c)=0
  rw[if_neg (fun e=>h s (List.mem_cons_self ..) e.symm)]
  exact zgm fun x hx=>h x (List.mem_cons_of_mem _ hx)
theorem zhb {R:Nat→Nat→Rat} {O:Nat→Prop} {ss:List PStep} (h:Fac n R O ss):∀(b:Nat→Rat) (i:Nat),O i→sumN (fun k=>R i k*bwd n (fwd ss b) ss k) n=b i:=by
 induction h with
 |nil h=>intro b i hi;exact absurd hi (h i)
 |@cons R O s ss hr hc hp h0 hs ht hz hss ih=>
  intro b i hi
  have hF:Fac n R O (s::ss):=.cons hr hc hp h0 hs ht hz hss
  have hfree:=hss.free (c:=s.c) (zgo hF)
  let b':Nat→Rat:=fun i=>b i-s.t i*b s.r
  have hfw:fwd (s::ss) b=fwd ss b':=rfl
  let x':=bwd n (fwd ss b') ss
  have hx':x' s.c=0:=zgm fun y hy=>(hfree y hy).1
  have htr:s.t s.r=0:=hz _ (fun h=>h.2 rfl)
  have hside:fwd ss b' s.r=b s.r:=by
   rw[zha hss b' s.r (fun h=>h.2 rfl)]
   show b s.r-s.t s.r*b s.r=b s.r
   rw[htr];grind
  -- x is x' but for the pivot's column
  have hx:∀k,bwd n (fwd (s::ss) b) (s::ss) k=if k=s.c then(b s.r-sumN (fun k=>s.rest k*x' k) n)/s.p else x' k:=fun k=>by
   rw[hfw,←hside]
   rfl
  -- the pivot's row
  have hrow:sumN (fun k=>R s.r k*bwd n (fwd (s::ss) b) (s::ss) k) n=b s.r:=by
   rw[zja hc]
   rw[hx,if_pos rfl,←hp,zfz h0]
   have e:sumN (fun i=>if i=s.c then 0 else R s.r i*bwd n (fwd (s::ss) b) (s::ss) i) n=sumN (fun k=>s.rest k*x' k) n:=zae fun k _=>by
    split
    ·rename_i e;rw[hs,if_pos e];grind
    ·rename_i e;rw[hx,if_neg e,hs,if_neg e]
   rw[e];grind
  by_cases hir:i=s.r
  ·rw[hir];exact hrow
  ·have h1:=ih b' i ⟨hi,hir⟩
   have h2:sumN (fun k=>zg0 R s i k*bwd n (fwd (s::ss) b) (s::ss) k) n=b' i:=by
    rw[←h1]
    refine zae fun k _=>?_
    by_cases hk:k=s.c
    ·rw[hk,zgo hF i ⟨hi,hir⟩];grind
    ·rw[hx,if_neg hk]
   have h3:sumN (fun k=>R i k*bwd n (fwd (s::ss) b) (s::ss) k) n=sumN (fun k=>zg0 R s i k*bwd n (fwd (s::ss) b) (s::ss) k) n+s.t i*sumN (fun k=>R s.r k*bwd n (fwd (s::ss) b) (s::ss) k) n:=by
    rw[←zcx,←zby]
    refine zae fun k _=>?_
    show _=(R i k-s.t i*R s.r k)*_+_
    grind
   rw[h3,h2,hrow]
   show b i-s.t i*b s.r+s.t i*b s.r=b i
   grind
def zfw:List PStep→(Nat→Rat)→(Nat→Rat)→(Nat→Rat)
 |[],_,z=>z
 |s::ss,d,z=>zfw ss (fun k=>d k-s.rest k*(d s.c/s.p)) (fun i=>if i=s.r then d s.c/s.p else z i)
def ybw (n:Nat):List PStep→(Nat→Rat)→(Nat→Rat)
 |[],z=>z
 |s::ss,z=>fun i=>if i=s.r then ybw n ss z s.r-sumN (fun i=>s.t i*ybw n ss z i) n else ybw n ss z i
theorem zmA {s:PStep} {ss:List PStep} {z:Nat→Rat}:ybw n (s::ss) z s.r=ybw n ss z s.r-sumN (fun i=>s.t i*ybw n ss z i) n:=if_pos rfl
theorem zmp {s:PStep} {ss:List PStep} {z:Nat→Rat} {i:Nat} (h:i≠s.r):ybw n (s::ss) z i=ybw n ss z i:=if_neg h
theorem zhq {R:Nat→Nat→Rat} {O:Nat→Prop} {ss:List PStep} (h:Fac n R O ss):∀(z:Nat→Rat) (i:Nat),¬O i→ybw n ss z i=z i:=by
 induction h with
 |nil _=>intro z i _;rfl
 |@cons R O s ss hr hc hp h0 hs ht hz hss ih=>
  intro z i hi
  have hne:i≠s.r:=fun e=>hi (e▸hr.1)
  show(if i=s.r then _ else ybw n ss z i)=z i
  rw[if_neg hne]
  exact ih z i (fun h=>hi h.1)
def zfA:List PStep→(Nat→Rat)→Nat→Rat
 |[],_,_=>0
 |s::ss,z,k=>z s.r*s.u k+zfA ss z k
open Classical in
theorem zlm {R:Nat→Nat→Rat} {O:Nat→Prop} {ss:List PStep} (h:Fac n R O ss):∀(z:Nat→Rat) (k:Nat),sumN (fun i=>if O i then ybw n ss z i*R i k else 0) n=zfA ss z k:=by
 induction h with
 |nil h=>intro z k;exact zbk fun i _=>if_neg (h i)
 |@cons R O s ss hr hc hp h0 hs ht hz hss ih=>
  intro z k
  have hF:Fac n R O (s::ss):=.cons hr hc hp h0 hs ht hz hss
  have hu:=hF.u_row k
  let y:=ybw n ss z
  have h1:sumN (fun i=>if O i∧i≠s.r then y i*zg0 R s i k else 0) n=zfA ss z k:=(zae fun i _=>by by_cases h:O i∧i≠s.r<;>simp[h,y]).trans (ih z k)
  have hyr:y s.r=z s.r:=zhq hss z s.r (fun h=>h.2 rfl)
  rw[zja (c:=s.r) hr.2,zfA]
  have e1:ybw n (s::ss) z s.r=z s.r-sumN (fun i=>s.t i*y i) n:=by rw[zmA];show y s.r-_=_;rw[hyr]
  have e2:sumN (fun i=>if i=s.r then 0 else if O i then ybw n (s::ss) z i*R i k else 0) n=sumN (fun i=>(if O i∧i≠s.r then y i*zg0 R s i k else 0)+R s.r k*(s.t i*y i)) n:=zae fun i _=>by
   by_cases hi:i=s.r
   ·have:s.t i=0:=hz i (fun h=>h.2 hi)
    rw[if_pos hi,if_neg (fun h=>h.2 hi),this];grind
   ·rw[if_neg hi]
    by_cases ho:O i
    ·rw[if_pos ho,if_pos ⟨ho,hi⟩,zmp hi]
     show y i*R i k=y i*(R i k-s.t i*R s.r k)+_
     grind
    ·have:s.t i=0:=hz i (fun h=>ho h.1)
     rw[if_neg ho,if_neg (fun h=>ho h.1),this];grind
  rw[if_pos hr.1,e2,zby,h1,zcx,e1,hu]
  grind
theorem zhe {R:Nat→Nat→Rat} {O:Nat→Prop} {ss:List PStep} (h:Fac n R O ss):∀(d z:Nat→Rat) (i:Nat),¬O i→zfw ss d z i=z i:=by
 induction h with
 |nil _=>intro d z i _;rfl
 |@cons R O s ss hr hc hp h0 hs ht hz hss ih=>
  intro d z i hi
  have hne:i≠s.r:=fun e=>hi (e▸hr.1)
  rw[zfw,ih _ _ i (fun h=>hi h.1),if_neg hne]
theorem zm9 {R:Nat→Nat→Rat} {O:Nat→Prop} {ss:List PStep} (h:Fac n R O ss):∀(d z:Nat→Rat) (k:Nat),(∃s∈ss,s.c=k)→zfA ss (zfw ss d z) k=d k:=by
 induction h with
 |nil _=>intro d z k ⟨s,hs,_⟩;cases hs
 |@cons R O s ss hr hc hp h0 hs ht hz hss ih=>
  intro d z k hk
  have hF:Fac n R O (s::ss):=.cons hr hc hp h0 hs ht hz hss
  have hfree:=hss.free (c:=s.c) (zgo hF)
  have hzr:zfw (s::ss) d z s.r=d s.c/s.p:=by
   rw[zfw,zhe hss _ _ s.r (fun h=>h.2 rfl),if_pos rfl]
  rw[zfA,hzr,zfw]
  by_cases hkc:k=s.c
  ·subst hkc
   have h1:∀(z:Nat→Rat) (l:List PStep),(∀s'∈l,s'.u s.c=0)→zfA l z s.c=0:=by
    intro z l
    induction l with
    |nil=>intro _;rfl
    |cons a l ihl=>
     intro hl
     rw[zfA,hl a (List.mem_cons_self ..),ihl fun x hx=>hl x (List.mem_cons_of_mem _ hx)]
     grind
   rw[h1 _ _ fun s' hs'=>(hfree s' hs').2]
   unfold PStep.u
   rw[if_pos rfl,Rat.mul_comm,zfz h0]
   grind
  ·have hk':∃s'∈ss,s'.c=k:=by
    obtain⟨s',hs',e⟩:=hk
    rcases List.mem_cons.1 hs' with e2|hs'
    ·exact absurd (by rw[←e,e2]) hkc
    ·exact⟨s',hs',e⟩
   rw[ih _ _ k hk']
   unfold PStep.u
   rw[if_neg hkc]
   grind
end
theorem zdW:∀(n:Nat) (l:List Nat),l.Nodup→(∀x∈l,x<n)→l.length≤n
 |0,l,_,h=>by
  cases l with
  |nil=>exact Nat.le_refl _
  |cons a l=>exact absurd (h a (List.mem_cons_self ..)) (Nat.not_lt_zero _)
 |n+1,l,hn,h=>by
  by_cases hm:n∈l
  ·have h1:(l.erase n).Nodup:=hn.erase n
   have h2:=zdW n (l.erase n) h1 (fun x hx=>by
    have h3:x≠n:=fun e=>by rw[e]at hx;exact(hn.not_mem_erase hx)
    have:=h x (List.mem_of_mem_erase hx)
    omega)
   rw[List.length_erase_of_mem hm]at h2
   omega
  ·have h2:=zdW n l hn (fun x hx=>by
    have h3:x≠n:=fun e=>hm (e▸hx)
    have:=h x hx
    omega)
   omega
theorem zia {n:Nat} {l:List Nat} (hn:l.Nodup) (h:∀x∈l,x<n) (hl:l.length=n) {k:Nat} (hk:k<n):k∈l:=by
 by_cases hm:k∈l
 ·exact hm
 ·have h1:(k::l).Nodup:=List.nodup_cons.2 ⟨hm,hn⟩
  have h2:=zdW n (k::l) h1 (fun x hx=>by
   rcases List.mem_cons.1 hx with e|hx
   ·rw[e];exact hk
   ·exact h x hx)
  rw[List.length_cons]at h2
  omega
section
variable {n:Nat}
theorem Fac.cols {R:Nat→Nat→Rat} {O:Nat→Prop} {ss:List PStep} (h:Fac n R O ss):(ss.map PStep.c).Nodup∧∀x∈ss.map PStep.c,x<n:=by
 induction h with
 |nil _=>exact⟨List.nodup_nil,fun x hx=>by cases hx⟩
 |@cons R O s ss hr hc hp h0 hs ht hz hss ih=>
  have hF:Fac n R O (s::ss):=.cons hr hc hp h0 hs ht hz hss
  have hfree:=hss.free (c:=s.c) (zgo hF)
  refine⟨?_,fun x hx=>?_⟩
  ·rw[List.map_cons,List.nodup_cons]
   refine⟨fun hm=>?_,ih.1⟩
   obtain⟨s',hs',e⟩:=List.mem_map.1 hm
   exact(hfree s' hs').1 e
  ·rw[List.map_cons]at hx
   rcases List.mem_cons.1 hx with e|hx
   ·rw[e];exact hc
   ·exact ih.2 x hx
theorem zlR {R:Nat→Nat→Rat} {ss:List PStep} (h:Fac n R (·<n) ss) (hl:ss.length=n) (d z:Nat→Rat) (k:Nat) (hk:k<n):sumN (fun i=>ybw n ss (zfw ss d z) i*R i k) n=d k:=by
 have h1:=zlm h (zfw ss d z) k
 have hc:=h.cols
 have hm:=zia hc.1 hc.2 (by rw[List.length_map];exact hl) hk
 rw[zm9 h d z k (by obtain⟨s,hs,e⟩:=List.mem_map.1 hm;exact⟨s,hs,e⟩)]at h1
 rw[←h1]
 exact zae fun i hi=>(if_pos hi).symm
theorem zfj {R:Nat→Nat→Rat} {ss:List PStep} (h:Fac n R (·<n) ss) (b:Nat→Rat) (i:Nat) (hi:i<n):sumN (fun k=>R i k*bwd n (fwd ss b) ss k) n=b i:=zhb h b i hi
end

theorem zeZ (h:Nat→Rat) (l:List Nat):∀k,k≤l.length→sumN (fun k=>h ((l[k]?).getD 0)) k=((l.take k).map h).sum
 |0,_=>by rw[List.take_zero];rfl
 |k+1,hk=>by
  have hl:k<l.length:=hk
  rw[sumN,zeZ h l k (by omega),List.take_succ_eq_append_getElem hl,List.map_append,List.sum_append,List.getElem?_eq_getElem hl]
  show _+h l[k]=_+(h l[k]+0)
  grind
theorem ziT (h:Nat→Rat) (l:List Nat):sumN (fun k=>h ((l[k]?).getD 0)) l.length=(l.map h).sum:=by
 rw[zeZ h l l.length (Nat.le_refl _),List.take_length]
theorem zdS (p:Nat→Bool) (h:Nat→Rat):∀N,sumN (fun j=>if p j=true then h j else 0) N=(((List.range N).filter p).map h).sum
 |0=>rfl
 |N+1=>by
  rw[sumN,zdS p h N,List.range_succ,List.filter_append,List.map_append,List.sum_append]
  congr 1
  by_cases e:p N=true
  ·rw[if_pos e,List.filter_cons_of_pos e]
   show _=h N+0
   grind
  ·rw[if_neg e,List.filter_cons_of_neg e]
   rfl
theorem zh5 (p:Nat→Bool) (h:Nat→Rat) (N:Nat):sumN h N=sumN (fun j=>if p j=true then h j else 0) N+sumN (fun j=>if p j=true then 0 else h j) N:=by
 rw[←zby]
 exact zae fun j _=>by split<;>grind
theorem zhj (p:Nat→Bool) (h:Nat→Rat) (N:Nat):sumN (fun j=>if p j=true then h j else 0) N=sumN (fun k=>h ((((List.range N).filter p)[k]?).getD 0)) ((List.range N).filter p).length:=by
 rw[zdS,ziT]
theorem zfq (g:Nat→Nat→Rat) (m:Nat):∀n,sumN (fun i=>sumN (fun j=>g i j) m) n=sumN (fun j=>sumN (fun i=>g i j) n) m
 |0=>(zbk fun j _=>rfl).symm
 |n+1=>by rw[sumN,zfq g m n,←zby];exact zae fun j _=>rfl
section
variable {M N:Nat} {bas:Nat→Bool} {g:Nat→Nat→Rat} {b c x y d:Nat→Rat}
theorem zg7 {at':List Nat} (ha:at'=(List.range N).filter bas) (hl:at'.length=M) {v:Nat→Rat} (hv:∀i,i<M→sumN (fun k=>g ((at'[k]?).getD 0) i*v k) M=b i-sumN (fun j=>if bas j=true then 0 else x j*g j i) N)
 (hx:∀k,k<M→x ((at'[k]?).getD 0)=v k) (i:Nat) (hi:i<M):sumN (fun j=>x j*g j i) N=b i:=by
 have h1:=zhj bas (fun j=>x j*g j i) N
 rw[←ha,hl]at h1
 have h2:sumN (fun k=>x ((at'[k]?).getD 0)*g ((at'[k]?).getD 0) i) M=sumN (fun k=>g ((at'[k]?).getD 0) i*v k) M:=zae fun k hk=>by rw[hx k hk];grind
 rw[zh5 bas,h1,h2,hv i hi]
 grind
theorem zfM {at':List Nat} (ha:at'=(List.range N).filter bas) (hl:at'.length=M) (hy:∀k,k<M→sumN (fun i=>y i*g ((at'[k]?).getD 0) i) M=c ((at'[k]?).getD 0))
 (hd:∀j,j<N→d j=if bas j=true then 0 else c j-sumN (fun i=>y i*g j i) M) (hb:∀i,i<M→sumN (fun j=>x j*g j i) N=b i):sumN (fun j=>c j*x j) N=sumN (fun j=>d j*x j) N+sumN (fun i=>y i*b i) M:=by
 have e1:sumN (fun i=>y i*b i) M=sumN (fun j=>sumN (fun i=>y i*g j i) M*x j) N:=by
  rw[zae (h:=fun i=>sumN (fun j=>y i*g j i*x j) N) fun i hi=>by
   rw[←hb i hi,←zcx];exact zae fun j _=>by grind]
  rw[zfq]
  refine zae fun j _=>?_
  rw[Rat.mul_comm,←zcx]
  exact zae fun i _=>by grind
 rw[e1,←zby]
 -- the basic columns cost what their prices say
 have hbas:∀j,j<N→bas j=true→sumN (fun i=>y i*g j i) M=c j:=fun j hj hp=>by
  have hm:j∈at':=by rw[ha];exact List.mem_filter.2 ⟨List.mem_range.2 hj,hp⟩
  obtain⟨k,hk,e⟩:=List.mem_iff_getElem.1 hm
  have h1:=hy k (by omega)
  rw[List.getElem?_eq_getElem hk]at h1
  simp only[Option.getD_some,e]at h1
  exact h1
 refine zae fun j hj=>?_
 rw[hd j hj]
 by_cases e:bas j=true
 ·rw[if_pos e,hbas j hj e];grind
 ·rw[if_neg e];grind
end
end Go.Proofs.YtfdmajmhmligpaaGreatDoor
