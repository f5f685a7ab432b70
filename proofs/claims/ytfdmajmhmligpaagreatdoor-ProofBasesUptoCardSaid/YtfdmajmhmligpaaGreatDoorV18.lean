/-
 sparse.Same. Forms in memory; point.Right. The closures of package proof. proof.bound. proof.Bound. proof.Refutes. point.Feasible$1. The plain law of point.Feasible. point.Feasible.
-/
import Derived.Test.YtfdmajmhmligpaaGreatDoorV9
namespace Go.Proofs.YtfdmajmhmligpaaGreatDoor
set_option maxHeartbeats 8000000
open Go.RowKit

set_option maxRecDepth 100000 in
theorem zk3 (w:World) (t u:TeV) (n:Nat) (_hn:n≤100000000000) (_h1n:1≤n) (h:RatD t.r t.q n w) (h':RatD u.r u.q n w) (he:t.pl≠u.pl):Calls Tryz.prog 103 #[tA t,tA u] w fun e w'=>e=.returned (.bool false)∧Below w.heap.size w w':=by
 have HE:=znd (lyTT t u (((RatD.old h)).and ((RatD.old h'))))
 have c:=Env.c2 HE.out
 have dd:=Env.d2 HE.out
 have hb2:(t.pl==u.pl)=false:=by simpa using he
 clear h h' he
 unfold tA
 go_enter Tryz.func103,Tryz.ntmps103
 go_wp2_with fail
 exact bodyPost_ret (v:=.bool false) (by simp[results,Tryz.results103,go_sem]) rfl ⟨rfl,HE.out.bel⟩
set_option maxRecDepth 100000 in
theorem zk5 (w:World) (t u:TeV) (n:Nat) (hn:n≤100000000000) (h1n:1≤n) (h:RatD t.r t.q n w) (h':RatD u.r u.q n w) (he:t.pl=u.pl):Calls Tryz.prog 103 #[tA t,tA u] w fun e w'=>e=.returned (.bool (decide (t.q=u.q)))∧Below w.heap.size w w':=by
 have HE:=znd (lyTT t u (((RatD.old h)).and ((RatD.old h'))))
 have c:=Env.c2 HE.out
 have dd:=Env.d2 HE.out
 have hb2:(t.pl==u.pl)=true:=by simpa using he
 clear h h' he
 unfold tA
 go_enter Tryz.func103,Tryz.ntmps103
 go_wp2_with fail
 refine(zco _ t.r u.r t.q u.q n (by omega) h1n HE.out.o.1 HE.out.o.2).mono ?_
 rintro e w1 ⟨rfl,hb⟩
 replace HE:=znd (Env.call HE.out hb)
 clear hb
 go_wp2_with fail
 exact bodyPost_ret (v:=.bool (decide (t.q=u.q))) (by simp[results,Tryz.results103,go_sem]) rfl ⟨rfl,HE.out.bel⟩
theorem zit (w:World) (t u:TeV) (n:Nat) (hn:n≤100000000000) (h1n:1≤n) (h:RatD t.r t.q n w) (h':RatD u.r u.q n w):Calls Tryz.prog 103 #[tA t,tA u] w fun e w'=>e=.returned (.bool (decide (plq t=plq u)))∧Below w.heap.size w w':=by
 by_cases he:t.pl=u.pl
 ·have e:decide (plq t=plq u)=decide (t.q=u.q):=by
   unfold plq;rw[Bool.eq_iff_iff];simp[he]
  rw[e];exact zk5 w t u n hn h1n h h' he
 ·have e:decide (plq t=plq u)=false:=by
   unfold plq;simp[he]
  rw[e];exact zk3 w t u n hn h1n h h' he
set_option maxRecDepth 100000 in
theorem zhd (w:World) (A A2:Option Addr) (c0 c2 n m:Nat) (hne:n≠m):Calls Tryz.prog 102 #[.slice A n c0,.slice A2 m c2,.func (.func 103) #[] #[]] w fun e w'=>e=.returned (.bool false)∧Below w.heap.size w w':=by
 have h1:((n:Int) != (m:Int))=true:=by simp;omega
 go_enter Tryz.func102,Tryz.ntmps102
 go_wp2_with fail
 go_ret
 exact⟨rfl,Below.refl _ _⟩
theorem zma {ts us:List TeV} {i:Nat} (hi:i<ts.length) (hu:i<us.length):((ts.take (i+1)).map plq=(us.take (i+1)).map plq)↔((ts.take i).map plq=(us.take i).map plq∧plq ts[i]=plq us[i]):=by
 rw[List.take_succ_eq_append_getElem hi,List.take_succ_eq_append_getElem hu,List.map_append,List.map_append]
 constructor
 ·intro h
  have:=List.append_inj h (by simp;omega)
  exact⟨this.1,by simpa using this.2⟩
 ·rintro⟨h1,h2⟩
  rw[h1];simp[h2]
set_option maxRecDepth 100000 in
theorem zg5 (w:World) (n:Nat) (hn:n≤100000000000) (h1n:1≤n) (A A2:Option Addr) (c0 c2:Nat) (ts us:List TeV) (h:LsR 5 tecells (teD n) A ts w) (h':LsR 5 tecells (teD n) A2 us w) (hl:ts.length≤1000000) (hlu:us.length=ts.length):
 Calls Tryz.prog 102 #[.slice A ts.length c0,.slice A2 ts.length c2,.func (.func 103) #[] #[]] w fun e w'=>zaR (ts.map plq=us.map plq) e∧Below w.heap.size w w':=by
 have sl1:=h.sl
 have sl2:=h'.sl
 rw[hlu]at sl2
 have Hlu:=znd hlu
 have hsz2:=zai
 have hadd:=zaa
 have Ho:=znd ((h.old zah).and (h'.old zah))
 have Hb:=znd (Below.refl w.heap.size w)
 clear h h' hlu
 go_enter Tryz.func102,Tryz.ntmps102
 go_wp2_with fail
 go_loopw [17] (fun iv wr=>∃i:Nat,iv=.int .i64 (i:Int)∧i≤ts.length∧Hid ((ts.take i).map plq=(us.take i).map plq)∧Hid (Below w.heap.size w wr)) (fun iv _=>ts.length-(intOf iv).toNat)
 case atStart=>exact⟨0,rfl,Nat.zero_le _,znd rfl,Hb⟩
 case round=>
  clear Hb
  obtain⟨i,rfl,hi,HP,Hb⟩:=hrel
  by_cases hlt:i<ts.length
  ·have HE:=znd (Env.start ((Ho.out.below Hb.out).now|>fun h=>(LsR.old zah h.1).and (LsR.old zah h.2)))
   have hiu:i<us.length:=by rw[Hlu.out];exact hlt
   have c1:=HE.out.o.1.tc i hlt
   have HU:=znd (fun(V:World) (h:LsR 5 tecells (teD n) A2 us V)=>h.tc i hiu)
   have HQ:=znd (zma hlt hiu)
   obtain⟨t,ht⟩:∃t,t=ts[i]:=⟨_,rfl⟩
   obtain⟨u,hu⟩:∃u,u=us[i]:=⟨_,rfl⟩
   have Hmt:=znd (show t∈ts by rw[ht];exact List.getElem_mem hlt)
   have Hmu:=znd (show u∈us by rw[hu];exact List.getElem_mem hiu)
   rw[←ht]at c1 HQ
   rw[←hu]at HU HQ
   clear ht hu hiu
   go_upto_region 6 with fail
   obtain⟨W2,gt,hW2,hgt,HE⟩:=Env.al HE.out 65 #[.int .i64 t.pl,.bool t.r.num.neg,.slice t.r.num.A t.r.num.k t.r.num.c,.bool t.r.den.neg,.slice t.r.den.A t.r.den.k t.r.den.c]
   rw[hW2,hgt]
   clear hW2 hgt c1
   have c3:=HU.out _ HE.out.o.2
   go_upto_region 7 with fail
   obtain⟨W3,gu,hW3,hgu,HE⟩:=Env.al HE.out 65 #[.int .i64 u.pl,.bool u.r.num.neg,.slice u.r.num.A u.r.num.k u.r.num.c,.bool u.r.den.neg,.slice u.r.den.A u.r.den.k u.r.den.c]
   rw[hW3,hgu]
   clear hW3 hgu c3
   have cb:=Env.c2 HE.out
   go_wp2_with fail
   refine(zit _ t u n hn h1n (HE.out.o.1.ok t Hmt.out) (HE.out.o.2.ok u Hmu.out)).mono ?_
   rintro e w4 ⟨rfl,hb⟩
   replace HE:=znd (Env.call HE.out hb)
   clear hb cb
   obtain⟨B,hB⟩:∃B,decide (plq t=plq u)=B:=⟨_,rfl⟩
   have HB:=znd hB
   rw[hB]
   clear hB
   cases B
   ·go_wp2_with fail
    go_ret
    exact⟨za7 false ⟨fun h0=>absurd h0 (by decide),fun h=>by
     have h2:(ts.take (i+1)).map plq=(us.take (i+1)).map plq:=by rw[List.map_take,List.map_take,h]
     exact absurd (HQ.out.1 h2).2 (of_decide_eq_false HB.out)⟩,Below.after Hb.out HE.out.bel⟩
   ·go_wp2_with fail
    go_roundw
    case rel=>exact⟨i+1,by go_num,by omega,znd (HQ.out.2 ⟨HP.out,of_decide_eq_true HB.out⟩),znd (Below.after Hb.out HE.out.bel)⟩
    case measure=>(simp[intOf]<;>omega)
  ·obtain rfl:i=ts.length:=by omega
   have HP2:=znd (show ts.map plq=us.map plq by have h:=HP.out;rwa [List.take_length,←Hlu.out,List.take_length]at h)
   go_wp2_with fail
   go_ret
   exact⟨za7 true ⟨fun _=>HP2.out,fun _=>rfl⟩,Hb.out⟩
theorem zhi (w:World) (n:Nat) (hn:n≤100000000000) (h1n:1≤n) (A A2:Option Addr) (c0 c2:Nat) (ts us:List TeV) (h:LsR 5 tecells (teD n) A ts w) (h':LsR 5 tecells (teD n) A2 us w) (hl:ts.length≤1000000):
 Calls Tryz.prog 102 #[.slice A ts.length c0,.slice A2 us.length c2,.func (.func 103) #[] #[]] w fun e w'=>zaR (ts.map plq=us.map plq) e∧Below w.heap.size w w':=by
 by_cases hlu:us.length=ts.length
 ·rw[hlu];exact zg5 w n hn h1n A A2 c0 c2 ts us h h' hl hlu
 ·refine(zhd w A A2 c0 c2 _ _ (fun e=>hlu e.symm)).mono ?_
  rintro e w' ⟨rfl,hb⟩
  exact⟨za7 false ⟨fun h0=>absurd h0 (by decide),fun e=>by
   have:=congrArg List.length e
   rw[List.length_map,List.length_map]at this
   exact absurd this.symm hlu⟩,hb⟩
set_option maxRecDepth 100000 in
theorem zkf (w:World) (n:Nat) (hn:n≤100000000000) (h1n:1≤n) (A A2:Option Addr) (c0 c2:Nat) (ts us:List TeV) (h:LsR 5 tecells (teD n) A ts w) (h':LsR 5 tecells (teD n) A2 us w) (hr:Rise ts) (hr':Rise us) (hl:ts.length≤20) (hl':us.length≤20) (hT:Tz w):
 Calls Tryz.prog 60 #[.slice A ts.length c0,.slice A2 us.length c2] w fun e w'=>zaR ((ts.map plq).filter nzP=(us.map plq).filter nzP) e∧Below w.heap.size w w':=by
 have Hst:=znd (show∀t∈ts,Sz t.q n from fun t ht=>RatD.sz (h.ok t ht) h1n)
 have Hsu:=znd (show∀t∈us,Sz t.q n from fun t ht=>RatD.sz (h'.ok t ht) h1n)
 have Hrt:=znd hr
 have Hru:=znd hr'
 have HE:=znd (Env.start ((h.old zah).and ((h'.old zah).and hT.old)))
 clear h h' hr hr' hT
 go_enter Tryz.func60,Tryz.ntmps60
 go_wp2_with fail
 refine(zbe _ n hn h1n A c0 ts HE.out.o.1 hl Hrt.out HE.out.o.2.2).mono ?_
 rintro e w1 ⟨A3,c3,xs,rfl,hc3,hxs,hk,hb⟩
 replace HE:=znd (Env.ret HE.out hk hb)
 have Hxs:=znd hxs
 clear hk hb hxs hc3
 go_wp2_with fail
 refine(zbe _ n hn h1n A2 c2 us HE.out.o.2.1 hl' Hru.out HE.out.o.2.2).mono ?_
 rintro e w2 ⟨A4,c4,ys,rfl,hc4,hys,hk,hb⟩
 replace HE:=znd (Env.ret HE.out hk hb)
 have Hys:=znd hys
 clear hk hb hys hc4
 have Hsx:=znd (zfy Hxs.out fun p hp=>by
  obtain⟨t,ht,rfl⟩:=List.mem_map.1 (List.mem_filter.1 hp).1
  exact Hst.out t ht)
 have Hsy:=znd (zfy Hys.out fun p hp=>by
  obtain⟨t,ht,rfl⟩:=List.mem_map.1 (List.mem_filter.1 hp).1
  exact Hsu.out t ht)
 have hlx:xs.length≤1000000:=by
  have h:=congrArg List.length Hxs.out
  rw[List.length_map]at h
  have h2:=List.length_filter_le nzP (ts.map plq)
  rw[List.length_map]at h2
  omega
 go_wp2_with fail
 refine(zhi _ n hn h1n A3 A4 c3 c4 xs ys (HE.out.n.2.1.imp fun t ht hn=>RatN.rat hn (Hsx.out t ht)) (HE.out.n.1.imp fun t ht hn=>RatN.rat hn (Hsy.out t ht)) hlx).mono ?_
 rintro e w3 ⟨⟨B,rfl,hB⟩,hb⟩
 rw[Hxs.out,Hys.out]at hB
 have HB:=znd hB
 replace HE:=znd (Env.call HE.out hb)
 clear hb hB
 go_wp2_with fail
 go_ret
 exact⟨za7 B HB.out,HE.out.bel⟩

theorem za2 {P:Program} {md:Region.Mode} {ops:Array Oper} {Q:Exit→Act→World→Prop} {S:World→Prop} {i:Nat} {oi:Oper} {v:Value} {fuel:Nat} {listed:Array Bool} {a:Act} {w:World} (d:Option Nat) (hi:ops[i]?=some oi) (hd:oi.dst=d)
 (hs:Region.noSelect ops=true) (hf:Region.free md ops listed i=true) (hr:(Region.ready md ops listed).contains i=true)
 (hQ:∀c a w,Q (.panic c) (a.put d v) w→Q (.panic c) a w) (hy:YieldsIf P ops S oi v a) (hS:S w)
 (h:wpAnyH P md ops Q S fuel (listed.setIfInBounds i true) (a.put d v) w):wpAnyH P md ops Q S (fuel+1) listed a w:=by
 subst hd;exact wpAnyH_take hi hs hf hr hQ hy hS h
theorem p1 (a:Act) (d:Nat) (v:Value):a.put (some d) v={a with tmps:=a.tmps.setIfInBounds d v}:=rfl
theorem p2 {α:Type} (l:List α) (i:Nat) (v:α):l.toArray.setIfInBounds i v=(l.set i v).toArray:=by simp
theorem p3 {α:Type} (a b:α) (l:List α):(a::l).set 0 b=b::l:=rfl
theorem p4 {α:Type} (a b:α) (l:List α) (n:Nat):(a::l).set (n+1) b=a::l.set n b:=rfl
theorem hT {P:Program} {md:Region.Mode} {ops:Array Oper} {Q:Exit→Act→World→Prop} {S:World→Prop} (i s:Nat) {oi:Oper} {v:Value} {fuel:Nat} {listed l2:Array Bool} {a a2:Act} {w:World} (hS:S w)
 (h:wpAnyH P md ops Q S fuel l2 a2 w) (hi:ops[i]?=some oi:=by rfl) (hd:oi.dst=some s:=by rfl) (hs:Region.noSelect ops=true:=by kernel_rfl) (hf:Region.free md ops listed i=true:=by kernel_rfl) (hr:(Region.ready md ops listed).contains i=true:=by kernel_rfl)
 (hw:Region.wanted oi (yielded ops a.tmps)=true:=by rfl)
 (hy:∀w,S w→(execOp a.eval oi).run P w=.ok (.value v) w:=by(intro w hSw;(try dsimp only at hSw);(first|(go_simp;done)|(go_simp;with_reducible rfl))))
 (hl:listed.setIfInBounds i true=l2:=by((try simp only[p2,p3,p4]);exact rfl)) (ha:a.put (some s) v=a2:=by((try simp only[p1,p2,p3,p4]);exact rfl))
 (hQ:∀c a w,Q (.panic c) (a.put (some s) v) w→Q (.panic c) a w:=by exact fun _ _ _ h=>h):wpAnyH P md ops Q S (fuel+1) listed a w:=by
 subst hl ha
 exact za2 (some s) hi hd hs hf hr hQ (.inl ⟨hw,hy⟩) hS h
theorem zf1 {P:Program} {md:Region.Mode} {ops:Array Oper} {Q:Exit→Act→World→Prop} {S:World→Prop} {i:Nat} {o:Oper} {fuel:Nat} {listed:Array Bool} {a:Act} {w:World} (d:Option Nat) (hi:ops[i]?=some o) (hd:o.dst=d)
 (hr:Region.ready md ops listed=[i]) (hw:Region.wanted o (yielded ops a.tmps)=false) (hS:S w)
 (h:wpAnyH P md ops Q S fuel (listed.setIfInBounds i true) (a.put d undef) w):wpAnyH P md ops Q S (fuel+1) listed a w:=by
 subst hd
 refine wpAnyH_ready hr (by simp) (AllReadyH.cons hi (fun K hK=>?_) AllReadyH.nil)
 rw[if_neg (by simp[hw])]
 exact hK.out _ _ hS (fun _=>h)
theorem za8 {P:Program} {md:Region.Mode} {ops:Array Oper} {Q:Exit→Act→World→Prop} {S:World→Prop} {i:Nat} {o:Oper} {fuel:Nat} {listed:Array Bool} {a:Act} {w:World} (hi:ops[i]?=some o)
 (hr:Region.ready md ops listed=[i]) (hw:Region.wanted o (yielded ops a.tmps)=true)
 (h:∀K:Act→World→Prop,Shut (∀a w,S w→(S w→wpAnyH P md ops Q S fuel (listed.setIfInBounds i true) a w)→K a w)→Oper.wp P o a w K Q):wpAnyH P md ops Q S (fuel+1) listed a w:=by
 refine wpAnyH_ready hr (by simp) (AllReadyH.cons hi (fun K hK=>?_) AllReadyH.nil)
 rw[if_pos hw]
 exact h K hK
theorem zaw (w:World):(sizeOf (Tryz.prog.elem 29)).run Tryz.prog w=.ok 1 w:=by kernel_rfl
structure VeV where
 A:Option Addr
 c:Nat
 ts:List TeV
def za3 (v:VeV):Array Value:=#[.slice v.A v.ts.length v.c]
def veD (n:Nat) (v:VeV) (W:World):Prop:=LsR 5 tecells (teD n) v.A v.ts W
theorem zeE {n:Nat} (v:VeV) (W:World) (h:veD n v W):Rests W (·<W.heap.size) (veD n v):=LsR.old zah h
theorem LsR.vc {ok:VeV→World→Prop} {A:Option Addr} {l:List VeV} {w:World} (h:LsR 1 za3 ok A l w) (i:Nat) (hi:i<l.length):w.cell? (adr A i)=some (.slice (l[i]).A (l[i]).ts.length (l[i]).c):=by
 have hc:=h.cell i hi 0 (by decide)
 rwa [Nat.mul_one,Nat.add_zero]at hc
structure FoV where
 M:Int
 Ac:Option Addr
 cc:Nat
 cols:List VeV
 Al:Option Addr
 cl:Nat
 lo:List (RV×Rat)
 Ah:Option Addr
 ch:Nat
 hi:List (RV×Rat)
 Ak:Option Addr
 ck:Nat
 cost:List (RV×Rat)
 Ab:Option Addr
 cb:Nat
 b:List (RV×Rat)
structure FoD (n:Nat) (f:FoV) (W:World):Prop where
 cols:LsR 1 za3 (veD n) f.Ac f.cols W
 lo:LsR 4 za0 (roD n) f.Al f.lo W
 hi:LsR 4 za0 (roD n) f.Ah f.hi W
 cost:LsR 4 za0 (roD n) f.Ak f.cost W
 b:LsR 4 za0 (roD n) f.Ab f.b W
theorem FoD.old {n:Nat} {f:FoV} {w:World} (h:FoD n f w):Rests w (·<w.heap.size) (FoD n f):=
 ((h.cols.old zeE).and ((h.lo.old zbQ).and ((h.hi.old zbQ).and ((h.cost.old zbQ).and (h.b.old zbQ))))).imp fun _ h=>⟨h.1,h.2.1,h.2.2.1,h.2.2.2.1,h.2.2.2.2⟩
structure FRight (f:FoV) (w:World):Prop where
 M0:0≤f.M
 lo:f.lo.length=f.cols.length
 hi:f.hi.length=f.cols.length
 cost:f.cost.length=f.cols.length
 b:(f.b.length:Int)=f.M
 col:∀j (h:j<f.cols.length),RightP f.cols[j].ts f.M w
 le:∀j (h:j<f.lo.length) (h':j<f.hi.length),¬0<cmpQ f.lo[j].2 f.hi[j].2
structure FSmall (f:FoV):Prop where
 M:f.M≤5
 cols:f.cols.length≤12
 col:∀v∈f.cols,v.ts.length≤20
 lo:f.lo.length≤20
 hi:f.hi.length≤20
 cost:f.cost.length≤20
 b:f.b.length≤20
abbrev fA (r:FoV):Value:=.agg #[.int .i64 r.M,.slice r.Ac r.cols.length r.cc,.slice r.Al r.lo.length r.cl,.slice r.Ah r.hi.length r.ch,.slice r.Ak r.cost.length r.ck,.slice r.Ab r.b.length r.cb]
theorem lyF {w:World} {o:World→Prop} (a:FoV) (h:Rests w (·<w.heap.size) o):Env w [⟨w.heap.size,32,#[.int .i64 a.M,.slice a.Ac a.cols.length a.cc,.slice a.Al a.lo.length a.cl,.slice a.Ah a.hi.length a.ch,.slice a.Ak a.cost.length a.ck,.slice a.Ab a.b.length a.cb]⟩] o (fun _=>True) (w.alloc (.cells #[.int .i64 a.M,.slice a.Ac a.cols.length a.cc,.slice a.Al a.lo.length a.cl,.slice a.Ah a.hi.length a.ch,.slice a.Ak a.cost.length a.ck,.slice a.Ab a.b.length a.cb] 32)):=Env.lay1 (Env.start h) rfl
theorem lyFZ {w:World} {o:World→Prop} (a:FoV) (h:Rests w (·<w.heap.size) o):Env w [⟨w.heap.size+1,48,#[.bool false,.slice none 0 0,.bool false,.slice none 0 0]⟩,⟨w.heap.size,32,#[.int .i64 a.M,.slice a.Ac a.cols.length a.cc,.slice a.Al a.lo.length a.cl,.slice a.Ah a.hi.length a.ch,.slice a.Ak a.cost.length a.ck,.slice a.Ab a.b.length a.cb]⟩] o (fun _=>True) ((w.alloc (.cells #[.int .i64 a.M,.slice a.Ac a.cols.length a.cc,.slice a.Al a.lo.length a.cl,.slice a.Ah a.hi.length a.ch,.slice a.Ak a.cost.length a.ck,.slice a.Ab a.b.length a.cb] 32)).alloc (.cells #[.bool false,.slice none 0 0,.bool false,.slice none 0 0] 48)):=Env.lay2 (Env.start h) rfl
theorem lyFS {w:World} {o:World→Prop} (a:FoV) (b:Option Addr) (c d:Nat) (h:Rests w (·<w.heap.size) o):Env w [⟨w.heap.size+1,30,#[.slice b c d]⟩,⟨w.heap.size,32,#[.int .i64 a.M,.slice a.Ac a.cols.length a.cc,.slice a.Al a.lo.length a.cl,.slice a.Ah a.hi.length a.ch,.slice a.Ak a.cost.length a.ck,.slice a.Ab a.b.length a.cb]⟩] o (fun _=>True) ((w.alloc (.cells #[.int .i64 a.M,.slice a.Ac a.cols.length a.cc,.slice a.Al a.lo.length a.cl,.slice a.Ah a.hi.length a.ch,.slice a.Ak a.cost.length a.ck,.slice a.Ab a.b.length a.cb] 32)).alloc (.cells #[.slice b c d] 30)):=Env.lay2 (Env.start h) rfl
theorem RightP.same {ts:List TeV} {m:Int} {n:Nat} {A:Option Addr} {w W:World} (h:LsR 5 tecells (teD n) A ts w) (hb:Below w.heap.size w W):RightP ts m W↔RightP ts m w:=by
 constructor
 ·rintro⟨h1,h2,h3,h4⟩
  exact⟨h1,h2,h3,fun t ht=>((h.ok t ht).same hb).1 (h4 t ht)⟩
 ·rintro⟨h1,h2,h3,h4⟩
  exact⟨h1,h2,h3,fun t ht=>((h.ok t ht).same hb).2 (h4 t ht)⟩
theorem zdx {w W:World} {n:Nat} (hn:n≤400000000000) (h1n:1≤n) {A:Option Addr} {c:Nat} {ts:List TeV} {m:Int} (h:LsR 5 tecells (teD n) A ts w) (hl:ts.length≤1000000) (hb:Below w.heap.size w W) (hT:Tz W) (B:Bool) (hB:B=true↔RightP ts m w):
 Calls Tryz.prog 63 #[.slice A ts.length c,.int .i64 m] W fun e w'=>e=.returned (.bool B)∧Below W.heap.size W w':=by
 refine(zcj W n hn h1n A c ts m ((h.old zah).below hb).now hl hT).mono ?_
 rintro e w' ⟨⟨B',rfl,hB'⟩,hb'⟩
 have:B'=B:=by rw[Bool.eq_iff_iff,hB',hB,RightP.same h hb]
 rw[this]
 exact⟨rfl,hb'⟩
set_option maxRecDepth 100000 in
theorem zkq (w:World) (n:Nat) (_hn:n≤1000000000) (_h1n:1≤n) (f:FoV) (_h:FoD n f w) (hs:FSmall f) (_hT:Tz w) (hm:f.M<0):Calls Tryz.prog 32 #[fA f] w fun e w'=>e=.returned (.int .i64 101)∧Below w.heap.size w w':=by
 have HE:=znd (lyF f (Rests.pure trivial w _))
 have c:=Env.c1 HE.out
 have h1:=hs.M
 have h2:=hs.cols
 clear _h _hT hs
 unfold fA
 go_enter Tryz.func32,Tryz.ntmps32
 go_wp2_with fail
 exact bodyPost_ret (v:=.int .i64 101) (by simp[results,Tryz.results32,go_sem]) rfl ⟨rfl,HE.out.bel⟩
set_option maxRecDepth 100000 in
theorem zij (w:World) (n:Nat) (_hn:n≤1000000000) (_h1n:1≤n) (f:FoV) (_h:FoD n f w) (hs:FSmall f) (_hT:Tz w) (hm:0≤f.M) (e1:f.lo.length≠f.cols.length):Calls Tryz.prog 32 #[fA f] w fun e w'=>e=.returned (.int .i64 101)∧Below w.heap.size w w':=by
 have HE:=znd (lyF f (Rests.pure trivial w _))
 have c:=Env.c1 HE.out
 have h1:=hs.M
 have h2:=hs.cols
 have t1:¬f.M<0:=by omega
 have t2:¬(600:Int)<f.M:=by omega
 have t3:¬(1200:Int)<(f.cols.length:Int):=by omega
 have klo:((f.lo.length:Int) != (f.cols.length:Int))=true:=by simp;omega
 clear _h _hT hs
 unfold fA
 go_enter Tryz.func32,Tryz.ntmps32
 go_wp2_with fail
 exact bodyPost_ret (v:=.int .i64 101) (by simp[results,Tryz.results32,go_sem]) rfl ⟨rfl,HE.out.bel⟩
set_option maxRecDepth 100000 in
theorem zj3 (w:World) (n:Nat) (_hn:n≤1000000000) (_h1n:1≤n) (f:FoV) (_h:FoD n f w) (hs:FSmall f) (_hT:Tz w) (hm:0≤f.M) (e1:f.lo.length=f.cols.length) (e2:f.hi.length≠f.cols.length):Calls Tryz.prog 32 #[fA f] w fun e w'=>e=.returned (.int .i64 101)∧Below w.heap.size w w':=by
 have HE:=znd (lyF f (Rests.pure trivial w _))
 have c:=Env.c1 HE.out
 have h1:=hs.M
 have h2:=hs.cols
 have t1:¬f.M<0:=by omega
 have t2:¬(600:Int)<f.M:=by omega
 have t3:¬(1200:Int)<(f.cols.length:Int):=by omega
 have klo:((f.lo.length:Int) != (f.cols.length:Int))=false:=by simp;omega
 have khi:((f.hi.length:Int) != (f.cols.length:Int))=true:=by simp;omega
 clear e1
 clear _h _hT hs
 unfold fA
 go_enter Tryz.func32,Tryz.ntmps32
 go_wp2_with fail
 exact bodyPost_ret (v:=.int .i64 101) (by simp[results,Tryz.results32,go_sem]) rfl ⟨rfl,HE.out.bel⟩
set_option maxRecDepth 100000 in
theorem zfV (w:World) (n:Nat) (_hn:n≤1000000000) (_h1n:1≤n) (f:FoV) (_h:FoD n f w) (hs:FSmall f) (_hT:Tz w) (hm:0≤f.M) (e1:f.lo.length=f.cols.length) (e2:f.hi.length=f.cols.length) (e3:f.cost.length≠f.cols.length):Calls Tryz.prog 32 #[fA f] w fun e w'=>e=.returned (.int .i64 101)∧Below w.heap.size w w':=by
 have HE:=znd (lyF f (Rests.pure trivial w _))
 have c:=Env.c1 HE.out
 have h1:=hs.M
 have h2:=hs.cols
 have t1:¬f.M<0:=by omega
 have t2:¬(600:Int)<f.M:=by omega
 have t3:¬(1200:Int)<(f.cols.length:Int):=by omega
 have klo:((f.lo.length:Int) != (f.cols.length:Int))=false:=by simp;omega
 have khi:((f.hi.length:Int) != (f.cols.length:Int))=false:=by simp;omega
 have kcost:((f.cost.length:Int) != (f.cols.length:Int))=true:=by simp;omega
 clear e1 e2
 clear _h _hT hs
 unfold fA
 go_enter Tryz.func32,Tryz.ntmps32
 go_wp2_with fail
 exact bodyPost_ret (v:=.int .i64 101) (by simp[results,Tryz.results32,go_sem]) rfl ⟨rfl,HE.out.bel⟩
set_option maxRecDepth 100000 in
theorem zkB (w:World) (n:Nat) (_hn:n≤1000000000) (_h1n:1≤n) (f:FoV) (_h:FoD n f w) (hs:FSmall f) (_hT:Tz w) (hm:0≤f.M) (e1:f.lo.length=f.cols.length) (e2:f.hi.length=f.cols.length) (e3:f.cost.length=f.cols.length) (e4:(f.b.length:Int)≠f.M):Calls Tryz.prog 32 #[fA f] w fun e w'=>e=.returned (.int .i64 101)∧Below w.heap.size w w':=by
 have HE:=znd (lyF f (Rests.pure trivial w _))
 have c:=Env.c1 HE.out
 have h1:=hs.M
 have h2:=hs.cols
 have t1:¬f.M<0:=by omega
 have t2:¬(600:Int)<f.M:=by omega
 have t3:¬(1200:Int)<(f.cols.length:Int):=by omega
 have klo:((f.lo.length:Int) != (f.cols.length:Int))=false:=by simp;omega
 have khi:((f.hi.length:Int) != (f.cols.length:Int))=false:=by simp;omega
 have kcost:((f.cost.length:Int) != (f.cols.length:Int))=false:=by simp;omega
 have kb:((f.b.length:Int) != f.M)=true:=by simpa using e4
 clear e1 e2 e3 e4
 clear _h _hT hs
 unfold fA
 go_enter Tryz.func32,Tryz.ntmps32
 go_wp2_with fail
 exact bodyPost_ret (v:=.int .i64 101) (by simp[results,Tryz.results32,go_sem]) rfl ⟨rfl,HE.out.bel⟩
def PRes (P:Prop) (e:Ending):Prop:=∃z:Int,e=.returned (.int .i64 z)∧((z=0∧P)∨(z=101∧¬P))
theorem zm5 {P:Prop} (h:P):PRes P (.returned (.int .i64 0)):=⟨0,rfl,.inl ⟨rfl,h⟩⟩
theorem zfU {P:Prop} (h:¬P):PRes P (.returned (.int .i64 101)):=⟨101,rfl,.inr ⟨rfl,h⟩⟩
set_option maxRecDepth 100000 in
theorem zjp (w:World) (n:Nat) (hn:n≤1000000000) (h1n:1≤n) (f:FoV) (h:FoD n f w) (hs:FSmall f) (hT:Tz w) (hm:0≤f.M) (e1:f.lo.length=f.cols.length) (e2:f.hi.length=f.cols.length) (e3:f.cost.length=f.cols.length) (e4:(f.b.length:Int)=f.M):Calls Tryz.prog 32 #[fA f] w fun e w'=>PRes (FRight f w) e∧Below w.heap.size w w':=by
 have h1:=hs.M
 have h2:=hs.cols
 have t1:¬f.M<0:=by omega
 have t2:¬(600:Int)<f.M:=by omega
 have t3:¬(1200:Int)<(f.cols.length:Int):=by omega
 have klo:((f.lo.length:Int) != (f.cols.length:Int))=false:=by simp;omega
 have khi:((f.hi.length:Int) != (f.cols.length:Int))=false:=by simp;omega
 have kcost:((f.cost.length:Int) != (f.cols.length:Int))=false:=by simp;omega
 have kb:((f.b.length:Int) != f.M)=false:=by simpa using e4
 have Hf:=znd h
 have Hs:=znd hs
 have slc:=h.cols.sl
 have sll:=h.lo.sl
 have slh:=h.hi.sl
 have hszc:=zaw
 have hszr:=zal
 have hadd:=zaa
 have HE:=znd (lyF f ((h.old).and (hT.old)))
 have c:=Env.c1 HE.out
 clear h hT hs
 have E1:=znd e1
 have E2:=znd e2
 have E3:=znd e3
 have E4:=znd e4
 clear e1 e2 e3 e4
 unfold fA
 go_enter Tryz.func32,Tryz.ntmps32
 go_wp2_with fail
 clear c
 go_loopw [51] (fun iv wr=>∃j:Nat,iv=.int .i64 (j:Int)∧j≤f.cols.length∧Hid (∀k (h:k<f.cols.length) (hl:k<f.lo.length) (hh:k<f.hi.length),k<j→RightP f.cols[k].ts f.M w∧¬0<cmpQ f.lo[k].2 f.hi[k].2)∧Hid (Env w [⟨w.heap.size,32,#[.int .i64 f.M,.slice f.Ac f.cols.length f.cc,.slice f.Al f.lo.length f.cl,.slice f.Ah f.hi.length f.ch,.slice f.Ak f.cost.length f.ck,.slice f.Ab f.b.length f.cb]⟩] (fun V=>FoD n f V∧Tz V) (fun _=>True) wr)) (fun iv _=>f.cols.length-(intOf iv).toNat)
 case atStart=>exact⟨0,rfl,Nat.zero_le _,znd (fun k _ _ _ h=>absurd h (Nat.not_lt_zero _)),HE⟩
 case round=>
  clear HE
  obtain⟨j,rfl,hj,HP,HE⟩:=hrel
  by_cases hlt:j<f.cols.length
  ·have hll:j<f.lo.length:=by rw[E1.out];exact hlt
   have hlh:j<f.hi.length:=by rw[E2.out];exact hlt
   have cv:=HE.out.o.1.cols.vc j hlt
   have HL:=znd (fun(V:World) (h:FoD n f V)=>h.lo.rc j hll)
   have HH:=znd (fun(V:World) (h:FoD n f V)=>h.hi.rc j hlh)
   have HX:=znd (show∀k (h:k<f.cols.length) (hl:k<f.lo.length) (hh:k<f.hi.length),k<j+1→(k<j∨k=j)from fun k _ _ _ h=>by omega)
   have HNew:=znd (show(RightP f.cols[j].ts f.M w∧¬0<cmpQ f.lo[j].2 f.hi[j].2)→∀k (h:k<f.cols.length) (hl:k<f.lo.length) (hh:k<f.hi.length),k<j+1→RightP f.cols[k].ts f.M w∧¬0<cmpQ f.lo[k].2 f.hi[k].2 from fun hj' k h hl hh hk=>by
    rcases HX.out k h hl hh hk with h9|h9
    ·exact HP.out k h hl hh h9
    ·subst h9;exact hj')
   have HBad:=znd (show FRight f w→RightP f.cols[j].ts f.M w∧¬0<cmpQ f.lo[j].2 f.hi[j].2 from fun h=>⟨h.col j hlt,h.le j hll hlh⟩)
   obtain⟨v,hv⟩:∃v,v=f.cols[j]:=⟨_,rfl⟩
   obtain⟨p,hp⟩:∃p,p=f.lo[j]:=⟨_,rfl⟩
   obtain⟨q,hq⟩:∃q,q=f.hi[j]:=⟨_,rfl⟩
   have Hmv:=znd (show v∈f.cols by rw[hv];exact List.getElem_mem hlt)
   have Hmp:=znd (show p∈f.lo by rw[hp];exact List.getElem_mem hll)
   have Hmq:=znd (show q∈f.hi by rw[hq];exact List.getElem_mem hlh)
   rw[←hv]at cv HNew HBad
   rw[←hp]at HL HNew HBad
   rw[←hq]at HH HNew HBad
   clear hv hp hq HX
   have Hv:=znd (show LsR 5 tecells (teD n) v.A v.ts w from Hf.out.cols.ok v Hmv.out)
   have Hvl:=znd (show v.ts.length≤1000000 by have:=Hs.out.col v Hmv.out;omega)
   have HC:=znd (fun(V:World) (h:Env w [⟨w.heap.size,32,#[.int .i64 f.M,.slice f.Ac f.cols.length f.cc,.slice f.Al f.lo.length f.cl,.slice f.Ah f.hi.length f.ch,.slice f.Ak f.cost.length f.ck,.slice f.Ab f.b.length f.cb]⟩] (fun V=>FoD n f V∧Tz V) (fun _=>True) V)=>And.intro (Env.c1 h) (And.intro (HL.out V h.o.1) (HH.out V h.o.1)))
   obtain⟨BB,hB⟩:∃B:Bool,B=true↔RightP v.ts f.M w:=by
    by_cases h:RightP v.ts f.M w
    ·exact⟨true,by simp[h]⟩
    ·exact⟨false,by simp[h]⟩
   have HB:=znd hB
   clear hB
   have c:=HC.out _ HE.out
   cases BB
   ·have HR:=znd (show¬FRight f w from fun h=>absurd (HB.out.2 (HBad.out h).1) (by decide))
    go_upto_region 9 with fail
    refine wp_region_noPanic ?_
    refine wp_region_held_drew (S:=(fun W=>CB (w.heap.size) #[.int .i64 f.M,.slice f.Ac f.cols.length f.cc,.slice f.Al f.lo.length f.cl,.slice f.Ah f.hi.length f.ch,.slice f.Ak f.cost.length f.ck,.slice f.Ab f.b.length f.cb] W∧RC f.Al j p W∧RC f.Ah j q W)) (by kernel_rfl) (by first|exact HC.out _ HE.out|exact HC.out _ HE.out.drew) (fun hHeld=>?_)
    refine hT 0 56 hHeld ?_
    refine hT 1 57 hHeld ?_
    refine hT 2 58 hHeld ?_
    refine za8 (i:=3) rfl (by kernel_rfl) (by rfl) (fun K hK=>?_)
    clear hHeld
    simp only[q1,q2,q3]
    go_simp
    refine(zdx (by omega) h1n Hv.out Hvl.out (by first|exact HE.out.bel|exact HE.out.drew.bel) (by first|exact HE.out.o.2|exact HE.out.drew.o.2) false HB.out).mono ?_
    rintro e w1 ⟨rfl,hb⟩
    replace HE:=znd (Env.cx HE.out hb)
    clear hb
    (try(go_wp2_with fail))
    refine hK.out _ _ (by first|exact HC.out _ HE.out|exact HC.out _ HE.out.drew) (fun hHeld=>?_)
    clear hK K
    try simp only[p1,p2,p3,p4]
    refine hT 4 60 hHeld ?_
    refine hT 5 61 hHeld ?_
    refine za2 (i:=6) (v:=undef) (some 62) rfl rfl (by kernel_rfl) (by kernel_rfl) (by kernel_rfl) (fun _ _ _ h=>h) (Or.inr ⟨by rfl,rfl⟩) hHeld ?_
    try simp only[p1,p2,p3,p4]
    refine za2 (i:=7) (v:=undef) (some 63) rfl rfl (by kernel_rfl) (by kernel_rfl) (by kernel_rfl) (fun _ _ _ h=>h) (Or.inr ⟨by rfl,rfl⟩) hHeld ?_
    try simp only[p1,p2,p3,p4]
    refine za2 (i:=8) (v:=undef) (some 64) rfl rfl (by kernel_rfl) (by kernel_rfl) (by kernel_rfl) (fun _ _ _ h=>h) (Or.inr ⟨by rfl,rfl⟩) hHeld ?_
    try simp only[p1,p2,p3,p4]
    refine za2 (i:=9) (v:=undef) (some 65) rfl rfl (by kernel_rfl) (by kernel_rfl) (by kernel_rfl) (fun _ _ _ h=>h) (Or.inr ⟨by rfl,rfl⟩) hHeld ?_
    try simp only[p1,p2,p3,p4]
    refine za2 (i:=10) (v:=undef) (some 66) rfl rfl (by kernel_rfl) (by kernel_rfl) (by kernel_rfl) (fun _ _ _ h=>h) (Or.inr ⟨by rfl,rfl⟩) hHeld ?_
    try simp only[p1,p2,p3,p4]
    refine za2 (i:=11) (v:=undef) (some 67) rfl rfl (by kernel_rfl) (by kernel_rfl) (by kernel_rfl) (fun _ _ _ h=>h) (Or.inr ⟨by rfl,rfl⟩) hHeld ?_
    try simp only[p1,p2,p3,p4]
    refine za2 (i:=12) (v:=undef) (some 68) rfl rfl (by kernel_rfl) (by kernel_rfl) (by kernel_rfl) (fun _ _ _ h=>h) (Or.inr ⟨by rfl,rfl⟩) hHeld ?_
    try simp only[p1,p2,p3,p4]
    refine za2 (i:=13) (v:=undef) (some 69) rfl rfl (by kernel_rfl) (by kernel_rfl) (by kernel_rfl) (fun _ _ _ h=>h) (Or.inr ⟨by rfl,rfl⟩) hHeld ?_
    try simp only[p1,p2,p3,p4]
    refine za2 (i:=14) (v:=undef) (some 70) rfl rfl (by kernel_rfl) (by kernel_rfl) (by kernel_rfl) (fun _ _ _ h=>h) (Or.inr ⟨by rfl,rfl⟩) hHeld ?_
    try simp only[p1,p2,p3,p4]
    refine za2 (i:=15) (v:=undef) (some 71) rfl rfl (by kernel_rfl) (by kernel_rfl) (by kernel_rfl) (fun _ _ _ h=>h) (Or.inr ⟨by rfl,rfl⟩) hHeld ?_
    try simp only[p1,p2,p3,p4]
    refine zf1 (i:=16) (some 72) rfl rfl (by kernel_rfl) (by rfl) hHeld ?_
    try simp only[p1,p2,p3,p4]
    refine za2 (i:=17) (v:=undef) (some 73) rfl rfl (by kernel_rfl) (by kernel_rfl) (by kernel_rfl) (fun _ _ _ h=>h) (Or.inr ⟨by rfl,rfl⟩) hHeld ?_
    try simp only[p1,p2,p3,p4]
    refine hT 18 74 hHeld ?_
    refine wpAnyH_done (by kernel_rfl) ?_ _
    refine NoPanic.normal ?_
    go_wp2_with fail
    exact bodyPost_ret (v:=.int .i64 101) (by simp[results,Tryz.results32,go_sem]) rfl ⟨zfU HR.out,by first|exact HE.out.bel|exact HE.out.drew.bel⟩
   ·by_cases hc:0<cmpQ p.2 q.2
    ·have HR:=znd (show¬FRight f w from fun h=>absurd hc (HBad.out h).2)
     go_upto_region 9 with fail
     go_region_held3 (fun W=>CB (w.heap.size) #[.int .i64 f.M,.slice f.Ac f.cols.length f.cc,.slice f.Al f.lo.length f.cl,.slice f.Ah f.hi.length f.ch,.slice f.Ak f.cost.length f.ck,.slice f.Ab f.b.length f.cb] W∧RC f.Al j p W∧RC f.Ah j q W) (first|with_reducible exact c|((repeat' apply And.intro)<;>go_keep)|exact c)
      (first
       |(go_at_call 63;go_must (refine(zdx (by omega) h1n Hv.out Hvl.out (by first|exact HE.out.bel|exact HE.out.drew.bel) (by first|exact HE.out.o.2|exact HE.out.drew.o.2) true HB.out).mono ?_;rintro e w1 ⟨rfl,hb⟩;replace HE:=znd (Env.cx HE.out hb);replace c:=HC.out _ HE.out;clear hb))
       |(go_at_call 53;go_must (refine(zbb _ p.1 q.1 p.2 q.2 n (by omega) h1n (by first|exact HE.out.o.1.lo.ok p Hmp.out|exact HE.out.drew.o.1.lo.ok p Hmp.out) (by first|exact HE.out.o.1.hi.ok q Hmq.out|exact HE.out.drew.o.1.hi.ok q Hmq.out)).mono ?_;rintro e w2 ⟨rfl,hb⟩;replace HE:=znd (Env.cx HE.out hb);replace c:=HC.out _ HE.out;clear hb)))
     go_wp2_with fail
     exact bodyPost_ret (v:=.int .i64 101) (by simp[results,Tryz.results32,go_sem]) rfl ⟨zfU HR.out,HE.out.bel⟩
    ·have HN:=znd (HNew.out ⟨HB.out.1 rfl,hc⟩)
     go_upto_region 9 with fail
     go_region_held3 (fun W=>CB (w.heap.size) #[.int .i64 f.M,.slice f.Ac f.cols.length f.cc,.slice f.Al f.lo.length f.cl,.slice f.Ah f.hi.length f.ch,.slice f.Ak f.cost.length f.ck,.slice f.Ab f.b.length f.cb] W∧RC f.Al j p W∧RC f.Ah j q W) (first|with_reducible exact c|((repeat' apply And.intro)<;>go_keep)|exact c)
      (first
       |(go_at_call 63;go_must (refine(zdx (by omega) h1n Hv.out Hvl.out (by first|exact HE.out.bel|exact HE.out.drew.bel) (by first|exact HE.out.o.2|exact HE.out.drew.o.2) true HB.out).mono ?_;rintro e w1 ⟨rfl,hb⟩;replace HE:=znd (Env.cx HE.out hb);replace c:=HC.out _ HE.out;clear hb))
       |(go_at_call 53;go_must (refine(zbb _ p.1 q.1 p.2 q.2 n (by omega) h1n (by first|exact HE.out.o.1.lo.ok p Hmp.out|exact HE.out.drew.o.1.lo.ok p Hmp.out) (by first|exact HE.out.o.1.hi.ok q Hmq.out|exact HE.out.drew.o.1.hi.ok q Hmq.out)).mono ?_;rintro e w2 ⟨rfl,hb⟩;replace HE:=znd (Env.cx HE.out hb);replace c:=HC.out _ HE.out;clear hb)))
     go_wp2_with fail
     go_roundw
     case rel=>exact⟨j+1,by go_num,by omega,znd (fun k h hl hh hk=>⟨(HN.out k h hl hh hk).1,by have h9:=(HN.out k h hl hh hk).2;omega⟩),HE⟩
     case measure=>(simp[intOf]<;>omega)
  ·obtain rfl:j=f.cols.length:=by omega
   have HR:=znd (show FRight f w from⟨hm,E1.out,E2.out,E3.out,E4.out,fun k h=>(HP.out k h (by rw[E1.out];exact h) (by rw[E2.out];exact h) h).1,fun k hl hh=>(HP.out k (by rw[←E1.out];exact hl) hl hh (by rw[←E1.out];exact hl)).2⟩)
   go_wp2_with fail
   exact bodyPost_ret (v:=.int .i64 0) (by simp[results,Tryz.results32,go_sem]) rfl ⟨zm5 HR.out,HE.out.bel⟩
theorem zcA (w:World) (n:Nat) (hn:n≤1000000000) (h1n:1≤n) (f:FoV) (h:FoD n f w) (hs:FSmall f) (hT:Tz w):Calls Tryz.prog 32 #[fA f] w fun e w'=>PRes (FRight f w) e∧Below w.heap.size w w':=by
 have key:∀{Q:Ending→World→Prop},¬FRight f w→(Calls Tryz.prog 32 #[.agg #[.int .i64 f.M,.slice f.Ac f.cols.length f.cc,.slice f.Al f.lo.length f.cl,.slice f.Ah f.hi.length f.ch,.slice f.Ak f.cost.length f.ck,.slice f.Ab f.b.length f.cb]] w fun e w'=>e=.returned (.int .i64 101)∧Below w.heap.size w w')→Calls Tryz.prog 32 #[.agg #[.int .i64 f.M,.slice f.Ac f.cols.length f.cc,.slice f.Al f.lo.length f.cl,.slice f.Ah f.hi.length f.ch,.slice f.Ak f.cost.length f.ck,.slice f.Ab f.b.length f.cb]] w fun e w'=>PRes (FRight f w) e∧Below w.heap.size w w':=fun{_} hn hc=>hc.mono fun e w' ⟨h1,h2⟩=>by subst h1;exact⟨zfU hn,h2⟩
 by_cases hm:f.M<0
 ·exact key (Q:=fun _ _=>True) (fun h'=>by have:=h'.M0;omega) (zkq w n hn h1n f h hs hT hm)
 ·by_cases e1:f.lo.length=f.cols.length
  ·by_cases e2:f.hi.length=f.cols.length
   ·by_cases e3:f.cost.length=f.cols.length
    ·by_cases e4:(f.b.length:Int)=f.M
     ·exact zjp w n hn h1n f h hs hT (by omega) e1 e2 e3 e4
     ·exact key (Q:=fun _ _=>True) (fun h'=>e4 h'.b) (zkB w n hn h1n f h hs hT (by omega) e1 e2 e3 e4)
    ·exact key (Q:=fun _ _=>True) (fun h'=>e3 h'.cost) (zfV w n hn h1n f h hs hT (by omega) e1 e2 e3)
   ·exact key (Q:=fun _ _=>True) (fun h'=>e2 h'.hi) (zj3 w n hn h1n f h hs hT (by omega) e1 e2)
  ·exact key (Q:=fun _ _=>True) (fun h'=>e1 h'.lo) (zij w n hn h1n f h hs hT (by omega) e1)

set_option maxRecDepth 100000 in
theorem Blk.old {w:World} {g:Nat} {t:TypeId} {cs:Array Value} (h:Blk w g t cs):Rests w (·<w.heap.size) (fun V=>Blk V g t cs):=⟨h,fun _ hw=>(hw g h.lt h.lt).trans h⟩
set_option maxRecDepth 100000 in
theorem znP (w:World) (g:Nat) (f:FoV) (n j:Nat) (hb:Blk w g 32 #[.int .i64 f.M,.slice f.Ac f.cols.length f.cc,.slice f.Al f.lo.length f.cl,.slice f.Ah f.hi.length f.ch,.slice f.Ak f.cost.length f.ck,.slice f.Ab f.b.length f.cb]) (h:FoD n f w) (hj:j<f.cost.length):
 Calls Tryz.prog 58 #[.int .i64 (j:Int),.pointer (some ⟨g,0,none⟩)] w fun e w'=>e=.returned (.agg #[.bool f.cost[j].1.num.neg,.slice f.cost[j].1.num.A f.cost[j].1.num.k f.cost[j].1.num.c,.bool f.cost[j].1.den.neg,.slice f.cost[j].1.den.A f.cost[j].1.den.k f.cost[j].1.den.c])∧Below w.heap.size w w':=by
 have slk:=h.cost.sl
 have hszr:=zal
 have hadd:=zaa
 have HC:=znd (fun(V:World) (h:FoD n f V)=>h.cost.rc j hj)
 obtain⟨p,hp⟩:∃p,p=f.cost[j]:=⟨_,rfl⟩
 rw[←hp]at HC⊢
 clear hp
 have HE:=znd (Env.start (hb.old.and h.old))
 clear hb h
 go_enter Tryz.func58,Tryz.ntmps58
 go_upto_region 1 with fail
 obtain⟨W1,g3,hW1,hg3,HE⟩:=Env.al HE.out 48 #[.bool false,.slice none 0 0,.bool false,.slice none 0 0]
 rw[hW1,hg3]
 clear hW1 hg3
 have c:=Env.c1 HE.out
 have cf:=Blk.cb HE.out.o.1
 have cc:=HC.out _ HE.out.o.2
 go_wp2_with fail
 exact bodyPost_ret (v:=.agg #[.bool p.1.num.neg,.slice p.1.num.A p.1.num.k p.1.num.c,.bool p.1.den.neg,.slice p.1.den.A p.1.den.k p.1.den.c]) (by simp[results,Tryz.results58,go_sem,Env.c1 (HE.out.put4 (.bool p.1.num.neg) (.slice p.1.num.A p.1.num.k p.1.num.c) (.bool p.1.den.neg) (.slice p.1.den.A p.1.den.k p.1.den.c))]) rfl ⟨rfl,(HE.out.put4 _ _ _ _).bel⟩
set_option maxRecDepth 100000 in
theorem RatD.zero_ (w:World) (n:Nat):RatD zeroR 0 n w:=⟨0,0,(zd9 w).int (Nat.zero_le _),(zd9 w).int (Nat.zero_le _),rfl⟩
set_option maxRecDepth 100000 in
theorem znR (w:World) (j:Int):
 Calls Tryz.prog 100 #[.int .i64 j] w fun e w'=>e=.returned (.agg #[.bool false,.slice none 0 0,.bool false,.slice none 0 0])∧Below w.heap.size w w':=by
 have HE:=znd (Env.start (Rests.pure trivial w (·<w.heap.size)))
 go_enter Tryz.func100,Tryz.ntmps100
 go_upto_region 1 with fail
 obtain⟨W1,g3,hW1,hg3,HE⟩:=Env.al HE.out 48 #[.bool false,.slice none 0 0,.bool false,.slice none 0 0]
 rw[hW1,hg3]
 clear hW1 hg3
 have c:=Env.c1 HE.out
 go_wp2_with fail
 exact bodyPost_ret (v:=.agg #[.bool false,.slice none 0 0,.bool false,.slice none 0 0]) (by simp[results,Tryz.results100,go_sem,Env.c1 (HE.out.put4 (.bool false) (.slice none 0 0) (.bool false) (.slice none 0 0))]) rfl ⟨rfl,(HE.out.put4 _ _ _ _).bel⟩
theorem RatD.mono9 {r:RV} {q:Rat} {n m:Nat} {w:World} (h:RatD r q n w) (hm:n≤m):RatD r q m w:=by
 obtain⟨x,d,hx,hd,hq⟩:=h.ex
 exact⟨x,d,hx.mono hm,hd.mono hm,hq⟩
set_option maxRecDepth 100000 in
theorem zoc (w:World) (n:Nat) (hn:n≤700000000) (h1n:1≤n) (f:FoV) (h:FoD n f w) (gk gp gf g2:Nat) (Ap:Option Addr) (cp:Nat) (ps:List TeV) (hgk:Blk w gk 101 #[.func (.func 58) #[] #[.pointer (some ⟨g2,0,none⟩)]]) (hgp:Blk w gp 25 #[.slice Ap ps.length cp]) (hgf:Blk w gf 32 #[.int .i64 f.M,.slice f.Ac f.cols.length f.cc,.slice f.Al f.lo.length f.cl,.slice f.Ah f.hi.length f.ch,.slice f.Ak f.cost.length f.ck,.slice f.Ab f.b.length f.cb]) (hg2:Blk w g2 32 #[.int .i64 f.M,.slice f.Ac f.cols.length f.cc,.slice f.Al f.lo.length f.cl,.slice f.Ah f.hi.length f.ch,.slice f.Ak f.cost.length f.ck,.slice f.Ab f.b.length f.cb]) (hp:LsR 5 tecells (teD n) Ap ps w) (hrp:Rise ps) (hlp:ps.length≤20)
 (j:Nat) (hj:j<f.cols.length) (hjlo:j<f.lo.length) (hjhi:j<f.hi.length) (hjk:j<f.cost.length) (hrv:Rise f.cols[j].ts) (hvl:f.cols[j].ts.length≤1000000) (hT:Tz w):
 Calls Tryz.prog 101 #[.int .i64 (j:Int),.pointer (some ⟨gk,0,none⟩),.pointer (some ⟨gp,0,none⟩),.pointer (some ⟨gf,0,none⟩)] w (RetR (if 0≤(f.cost[j].2-dotQ (ps.map plq) (f.cols[j].ts.map plq)).num.sign then(f.cost[j].2-dotQ (ps.map plq) (f.cols[j].ts.map plq))*f.lo[j].2 else(f.cost[j].2-dotQ (ps.map plq) (f.cols[j].ts.map plq))*f.hi[j].2) w):=by
 obtain⟨RES,hRES⟩:∃R,R=(if 0≤(f.cost[j].2-dotQ (ps.map plq) (f.cols[j].ts.map plq)).num.sign then(f.cost[j].2-dotQ (ps.map plq) (f.cols[j].ts.map plq))*f.lo[j].2 else(f.cost[j].2-dotQ (ps.map plq) (f.cols[j].ts.map plq))*f.hi[j].2):=⟨_,rfl⟩
 rw[←hRES]
 have HRES:=znd hRES
 clear hRES
 have slc:=h.cols.sl
 have sll:=h.lo.sl
 have slh:=h.hi.sl
 have hszc:=zaw
 have hszr:=zal
 have hadd:=zaa
 have HV:=znd (fun(V:World) (h:FoD n f V)=>h.cols.vc j hj)
 obtain⟨D,hD⟩:∃D,D=dotQ (ps.map plq) (f.cols[j].ts.map plq):=⟨_,rfl⟩
 obtain⟨N,hN⟩:∃N,N=1+20*(2*n+2):=⟨_,rfl⟩
 have hnN:n≤N:=by omega
 have hNb:N≤100000000000:=by omega
 have Hsd:=znd (show Sz D N by
  rw[hD,hN]
  refine(ziD hrv h1n (fun u hu=>RatD.sz ((h.cols.ok _ (List.getElem_mem hj)).ok u hu) h1n) ps (fun t ht=>RatD.sz (hp.ok t ht) h1n)).up ?_
  have:=Nat.mul_le_mul_right (2*n+2) hlp
  omega)
 have Hdd0:=hD.symm
 obtain⟨pc,hpc⟩:∃pc:RV×Rat,pc=f.cost[j]:=⟨_,rfl⟩
 have HPC:=znd (show∀V,FoD n f V→RatD pc.1 pc.2 n V from fun V h=>by rw[hpc];exact h.cost.ok _ (List.getElem_mem hjk))
 have Hss:=znd (show Sz (pc.2-D) (n+N+1)from Sz.sub (RatD.sz (HPC.out w h) h1n) Hsd.out)
 have HD:=znd (show pc.2-D=f.cost[j].2-dotQ (ps.map plq) (f.cols[j].ts.map plq) by rw[hD,hpc])
 have Hpc:=znd (show .agg #[.bool f.cost[j].1.num.neg,.slice f.cost[j].1.num.A f.cost[j].1.num.k f.cost[j].1.num.c,.bool f.cost[j].1.den.neg,.slice f.cost[j].1.den.A f.cost[j].1.den.k f.cost[j].1.den.c]=Value.agg #[.bool pc.1.num.neg,.slice pc.1.num.A pc.1.num.k pc.1.num.c,.bool pc.1.den.neg,.slice pc.1.den.A pc.1.den.k pc.1.den.c] by rw[hpc])
 obtain⟨v,hv⟩:∃v,v=f.cols[j]:=⟨_,rfl⟩
 have Hmv:=znd (show v∈f.cols by rw[hv];exact List.getElem_mem hj)
 rw[←hv]at HV hrv hvl hD Hdd0
 have Hdd:=znd Hdd0
 clear Hdd0
 have Hv:=znd hv.symm
 have HVE:=znd (show∀V,FoD n f V→LsR 5 tecells (teD n) v.A v.ts V from fun V h=>h.cols.ok v Hmv.out)
 have HD2:=znd (show pc.2-D=f.cost[j].2-dotQ (ps.map plq) (v.ts.map plq) by have h9:=HD.out;rwa [hv.symm]at h9)
 have Hrv:=znd hrv
 have Hvl:=znd hvl
 have Hrp:=znd hrp
 have HE:=znd (Env.start ((hgk.old.and ((hgp.old.and ((hgf.old.and (hg2.old.and (h.old.and ((hp.old zah).and hT.old))))))))))
 have HC:=znd (fun(V:World) (h:(fun V=>Blk V gk 101 #[.func (.func 58) #[] #[.pointer (some ⟨g2,0,none⟩)]]∧Blk V gp 25 #[.slice Ap ps.length cp]∧Blk V gf 32 #[.int .i64 f.M,.slice f.Ac f.cols.length f.cc,.slice f.Al f.lo.length f.cl,.slice f.Ah f.hi.length f.ch,.slice f.Ak f.cost.length f.ck,.slice f.Ab f.b.length f.cb]∧Blk V g2 32 #[.int .i64 f.M,.slice f.Ac f.cols.length f.cc,.slice f.Al f.lo.length f.cl,.slice f.Ah f.hi.length f.ch,.slice f.Ak f.cost.length f.ck,.slice f.Ab f.b.length f.cb]∧FoD n f V∧LsR 5 tecells (teD n) Ap ps V∧Tz V) V)=>And.intro (Blk.cb h.1) (And.intro (Blk.cb h.2.1) (And.intro (Blk.cb h.2.2.1) (HV.out V h.2.2.2.2.1))))
 clear hgk hgp hgf hg2 h hp hrp hrv hvl hT hv hpc hD hN
 go_enter Tryz.func101,Tryz.ntmps101
 go_upto_region 1 with fail
 obtain⟨W1,g5,hW1,hg5,HE⟩:=Env.al HE.out 48 #[.bool false,.slice none 0 0,.bool false,.slice none 0 0]
 rw[hW1,hg5]
 clear hW1 hg5
 go_cut [6] (fun v wx=>∃g6 ks,v=.pointer (some ⟨g6,0,none⟩)∧Hid (Env w [⟨g6,48,#[.bool ks.num.neg,.slice ks.num.A ks.num.k ks.num.c,.bool ks.den.neg,.slice ks.den.A ks.den.k ks.den.c]⟩,⟨g5,48,#[.bool false,.slice none 0 0,.bool false,.slice none 0 0]⟩] (fun V=>Blk V gk 101 #[.func (.func 58) #[] #[.pointer (some ⟨g2,0,none⟩)]]∧Blk V gp 25 #[.slice Ap ps.length cp]∧Blk V gf 32 #[.int .i64 f.M,.slice f.Ac f.cols.length f.cc,.slice f.Al f.lo.length f.cl,.slice f.Ah f.hi.length f.ch,.slice f.Ak f.cost.length f.ck,.slice f.Ab f.b.length f.cb]∧Blk V g2 32 #[.int .i64 f.M,.slice f.Ac f.cols.length f.cc,.slice f.Al f.lo.length f.cl,.slice f.Ah f.hi.length f.ch,.slice f.Ak f.cost.length f.ck,.slice f.Ab f.b.length f.cb]∧FoD n f V∧LsR 5 tecells (teD n) Ap ps V∧Tz V) (fun V=>RatN ks (pc.2-D) V) wx))
 case first=>
  have c:=HC.out _ HE.out.o
  go_region_held3 (fun W=>CB gk #[.func (.func 58) #[] #[.pointer (some ⟨g2,0,none⟩)]] W∧CB gp #[.slice Ap ps.length cp] W∧CB gf #[.int .i64 f.M,.slice f.Ac f.cols.length f.cc,.slice f.Al f.lo.length f.cl,.slice f.Ah f.hi.length f.ch,.slice f.Ak f.cost.length f.ck,.slice f.Ab f.b.length f.cb] W∧W.cell? (adr f.Ac j)=some (.slice v.A v.ts.length v.c)) (first|with_reducible exact c|with_reducible exact HC.out _ HE.out.o|with_reducible exact HC.out _ HE.out.drew.o|with_reducible exact HC.out _ (HE.out.nn _ _).o|with_reducible exact HC.out _ (HE.out.nn _ _).drew.o|with_reducible exact HC.out _ (HE.out.nd_ _ _).o|with_reducible exact HC.out _ (HE.out.put4 _ _ _ _).o|with_reducible exact HC.out _ (HE.out.drew.put4 _ _ _ _).o|((repeat' apply And.intro)<;>go_keep))
   (first
    |(go_at_call 58;go_must (refine(znP _ g2 f n j (by with_reducible first|exact HE.out.o.2.2.2.1|exact HE.out.drew.o.2.2.2.1|exact(HE.out.nn _ _).o.2.2.2.1|exact(HE.out.nd_ _ _).o.2.2.2.1|exact(HE.out.nn _ _).drew.o.2.2.2.1) (by with_reducible first|exact HE.out.o.2.2.2.2.1|exact HE.out.drew.o.2.2.2.2.1|exact(HE.out.nn _ _).o.2.2.2.2.1|exact(HE.out.nd_ _ _).o.2.2.2.2.1|exact(HE.out.nn _ _).drew.o.2.2.2.2.1) hjk).mono ?_;rintro e w1 ⟨rfl,hb⟩;(first|(with_reducible (replace HE:=znd (Env.call HE.out hb)))|(with_reducible (replace HE:=znd (Env.call HE.out.drew hb)))|(with_reducible (replace HE:=znd (Env.call (HE.out.nn 48 #[.bool false,.slice none 0 0,.bool false,.slice none 0 0]) hb)))|(with_reducible (replace HE:=znd (Env.call (HE.out.nd_ 48 #[.bool false,.slice none 0 0,.bool false,.slice none 0 0]) hb)))|(with_reducible (replace HE:=znd (Env.call (HE.out.nn 48 #[.bool false,.slice none 0 0,.bool false,.slice none 0 0]).drew hb))));replace c:=HC.out _ HE.out.o;(first|(have cb:=Env.c2 HE.out)|(have cb:=Env.c1 HE.out));clear hb;rw[Hpc.out]))
    |(go_at_call 42;go_must (refine(zjO _ n (by omega) h1n Ap v.A cp v.c ps v.ts (by with_reducible first|exact HE.out.o.2.2.2.2.2.1|exact HE.out.drew.o.2.2.2.2.2.1|exact(HE.out.nn _ _).o.2.2.2.2.2.1|exact(HE.out.nd_ _ _).o.2.2.2.2.2.1|exact(HE.out.nn _ _).drew.o.2.2.2.2.2.1) (HVE.out _ (by with_reducible first|exact HE.out.o.2.2.2.2.1|exact HE.out.drew.o.2.2.2.2.1|exact(HE.out.nn _ _).o.2.2.2.2.1|exact(HE.out.nd_ _ _).o.2.2.2.2.1|exact(HE.out.nn _ _).drew.o.2.2.2.2.1)) Hrp.out Hrv.out (by omega) Hvl.out (by with_reducible first|exact HE.out.o.2.2.2.2.2.2|exact HE.out.drew.o.2.2.2.2.2.2|exact(HE.out.nn _ _).o.2.2.2.2.2.2|exact(HE.out.nd_ _ _).o.2.2.2.2.2.2|exact(HE.out.nn _ _).drew.o.2.2.2.2.2.2)).mono ?_;rintro e w2 ⟨kd,rfl,hk,hb⟩;rw[Hdd.out]at hk;(first|(with_reducible (replace HE:=znd (Env.ret HE.out hk hb)))|(with_reducible (replace HE:=znd (Env.ret HE.out.drew hk hb)))|(with_reducible (replace HE:=znd (Env.ret (HE.out.nn 48 #[.bool false,.slice none 0 0,.bool false,.slice none 0 0]) hk hb)))|(with_reducible (replace HE:=znd (Env.ret (HE.out.nd_ 48 #[.bool false,.slice none 0 0,.bool false,.slice none 0 0]) hk hb)))|(with_reducible (replace HE:=znd (Env.ret (HE.out.nn 48 #[.bool false,.slice none 0 0,.bool false,.slice none 0 0]).drew hk hb))));replace c:=HC.out _ HE.out.o;(first|(have cb:=Env.c2 HE.out)|(have cb:=Env.c1 HE.out));clear hk hb))
    |(go_at_call 41;go_must (refine(zd0 _ pc.1 kd pc.2 D N (by omega) (by omega) (RatD.mono9 (HPC.out _ (by with_reducible first|exact HE.out.o.2.2.2.2.1|exact HE.out.drew.o.2.2.2.2.1|exact(HE.out.nn _ _).o.2.2.2.2.1|exact(HE.out.nd_ _ _).o.2.2.2.2.1|exact(HE.out.nn _ _).drew.o.2.2.2.2.1)) hnN) (RatN.rat (by with_reducible first|exact HE.out.n.1|exact HE.out.drew.n.1|exact(HE.out.nn _ _).n.1|exact(HE.out.nd_ _ _).n.1|exact(HE.out.nn _ _).drew.n.1) Hsd.out) (by with_reducible first|exact HE.out.o.2.2.2.2.2.2|exact HE.out.drew.o.2.2.2.2.2.2|exact(HE.out.nn _ _).o.2.2.2.2.2.2|exact(HE.out.nd_ _ _).o.2.2.2.2.2.2|exact(HE.out.nn _ _).drew.o.2.2.2.2.2.2)).mono ?_;rintro e w3 ⟨ks,rfl,hk,hb⟩;(first|(with_reducible (replace HE:=znd (Env.ret HE.out hk hb)))|(with_reducible (replace HE:=znd (Env.ret HE.out.drew hk hb)))|(with_reducible (replace HE:=znd (Env.ret (HE.out.nn 48 #[.bool false,.slice none 0 0,.bool false,.slice none 0 0]) hk hb)))|(with_reducible (replace HE:=znd (Env.ret (HE.out.nd_ 48 #[.bool false,.slice none 0 0,.bool false,.slice none 0 0]) hk hb)))|(with_reducible (replace HE:=znd (Env.ret (HE.out.nn 48 #[.bool false,.slice none 0 0,.bool false,.slice none 0 0]).drew hk hb))));replace c:=HC.out _ HE.out.o;(first|(have cb:=Env.c2 HE.out)|(have cb:=Env.c1 HE.out));clear hk hb)))
  all_goals
   go_wp2_with fail
   go_meet
   first
    |with_reducible exact⟨_,ks,rfl,znd ((HE.out.put4 _ _ _ _).imp (fun _ h=>h) (fun _ h=>h.1))⟩
    |with_reducible exact⟨_,ks,rfl,znd ((HE.out.drew.put4 _ _ _ _).imp (fun _ h=>h) (fun _ h=>h.1))⟩
    |with_reducible exact⟨_,ks,rfl,znd ((HE.out.nn _ _).imp (fun _ h=>h) (fun _ h=>h.1))⟩
    |with_reducible exact⟨_,ks,rfl,znd ((HE.out.nn _ _).drew.imp (fun _ h=>h) (fun _ h=>h.1))⟩
    |with_reducible exact⟨_,ks,rfl,znd ((HE.out.nd_ _ _).imp (fun _ h=>h) (fun _ h=>h.1))⟩
 case rest=>
  clear HE
  obtain⟨g6,ks,rfl,HE⟩:=hcut
  have cb:=Env.c2 HE.out
  go_wp2_with fail
  refine(zaV _ ks (pc.2-D) (n+N+1) (by omega) (RatN.rat HE.out.n Hss.out)).mono ?_
  rintro e w4 ⟨rfl,hb⟩
  replace HE:=znd (Env.call HE.out hb)
  clear hb cb
  obtain⟨SG,hSG⟩:∃SG,(pc.2-D).num.sign=SG:=⟨_,rfl⟩
  rw[hSG]
  have HSG:=znd hSG
  clear hSG
  by_cases hsg:0≤SG
  ·have Hsg:=znd (show 0≤(pc.2-D).num.sign by rw[HSG.out];exact hsg)
   go_upto_region 3 with fail
   have HL:=znd (fun(V:World) (h:FoD n f V)=>h.lo.rc j hjlo)
   obtain⟨p,hp⟩:∃p,p=f.lo[j]:=⟨_,rfl⟩
   have Hmp:=znd (show p∈f.lo by rw[hp];exact List.getElem_mem hjlo)
   rw[←hp]at HL
   have Hp:=znd hp
   clear hp
   have HC2:=znd (fun(V:World) (h:Env w [⟨g6,48,#[.bool ks.num.neg,.slice ks.num.A ks.num.k ks.num.c,.bool ks.den.neg,.slice ks.den.A ks.den.k ks.den.c]⟩,⟨g5,48,#[.bool false,.slice none 0 0,.bool false,.slice none 0 0]⟩] (fun V=>Blk V gk 101 #[.func (.func 58) #[] #[.pointer (some ⟨g2,0,none⟩)]]∧Blk V gp 25 #[.slice Ap ps.length cp]∧Blk V gf 32 #[.int .i64 f.M,.slice f.Ac f.cols.length f.cc,.slice f.Al f.lo.length f.cl,.slice f.Ah f.hi.length f.ch,.slice f.Ak f.cost.length f.ck,.slice f.Ab f.b.length f.cb]∧Blk V g2 32 #[.int .i64 f.M,.slice f.Ac f.cols.length f.cc,.slice f.Al f.lo.length f.cl,.slice f.Ah f.hi.length f.ch,.slice f.Ak f.cost.length f.ck,.slice f.Ab f.b.length f.cb]∧FoD n f V∧LsR 5 tecells (teD n) Ap ps V∧Tz V) (fun V=>RatN ks (pc.2-D) V) V)=>And.intro (Env.c2 h).1 (And.intro (Blk.cb h.o.2.2.1) (HL.out V h.o.2.2.2.2.1)))
   have c:=HC2.out _ HE.out
   have cb:=Env.c2 HE.out
   have HOK:=znd (show∀V,FoD n f V→RatD p.1 p.2 n V from fun V h=>h.lo.ok p Hmp.out)
   go_region_held3 (fun W=>CB g6 #[.bool ks.num.neg,.slice ks.num.A ks.num.k ks.num.c,.bool ks.den.neg,.slice ks.den.A ks.den.k ks.den.c] W∧CB gf #[.int .i64 f.M,.slice f.Ac f.cols.length f.cc,.slice f.Al f.lo.length f.cl,.slice f.Ah f.hi.length f.ch,.slice f.Ak f.cost.length f.ck,.slice f.Ab f.b.length f.cb] W∧RC f.Al j p W) (first|with_reducible exact c|with_reducible exact And.intro (Env.c2 (HE.out.put4_1 _ _ _ _)).1 (And.intro (Blk.cb (HE.out.put4_1 _ _ _ _).o.2.2.1) (HL.out _ (HE.out.put4_1 _ _ _ _).o.2.2.2.2.1))|with_reducible exact And.intro (Env.c2 (HE.out.drew.put4_1 _ _ _ _)).1 (And.intro (Blk.cb (HE.out.drew.put4_1 _ _ _ _).o.2.2.1) (HL.out _ (HE.out.drew.put4_1 _ _ _ _).o.2.2.2.2.1))|((repeat' apply And.intro)<;>go_keep))
    (first
     |(go_at_call 14;go_must (refine(zaN _ ks p.1 (pc.2-D) p.2 (n+N+1) (by omega) (by omega) (RatN.rat (by with_reducible first|exact HE.out.n|exact HE.out.drew.n) Hss.out) (RatD.mono9 (HOK.out _ (by with_reducible first|exact HE.out.o.2.2.2.2.1|exact HE.out.drew.o.2.2.2.2.1)) (by omega)) (by with_reducible first|exact HE.out.o.2.2.2.2.2.2|exact HE.out.drew.o.2.2.2.2.2.2)).mono ?_;rintro e w5 ⟨km,rfl,hk,hb⟩;replace HE:=znd (Env.ret (by with_reducible first|exact HE.out|exact HE.out.drew) hk hb);replace c:=HC2.out _ (HE.out.imp (fun _ h=>h) (fun _ h=>h.2));replace cb:=Env.c2 HE.out;clear hk hb)))
   all_goals
    go_wp2_with fail
    have hfin:(pc.2-D)*p.2=RES:=by
     rw[HRES.out,Hv.out,←HD2.out,Hp.out,if_pos (by have h9:=Hsg.out;omega)]
    first
     |exact bodyPost_ret (v:=.agg #[.bool km.num.neg,.slice km.num.A km.num.k km.num.c,.bool km.den.neg,.slice km.den.A km.den.k km.den.c]) (by simp[results,Tryz.results101,go_sem,Env.c2 (HE.out.put4_1 (.bool km.num.neg) (.slice km.num.A km.num.k km.num.c) (.bool km.den.neg) (.slice km.den.A km.den.k km.den.c))]) rfl ((HE.out.put4_1 _ _ _ _).retR' rfl fun _ h=>hfin▸h.1)
  ·have Hsg:=znd (show¬0≤(pc.2-D).num.sign by rw[HSG.out];exact hsg)
   go_upto_region 4 with fail
   have HL:=znd (fun(V:World) (h:FoD n f V)=>h.hi.rc j hjhi)
   obtain⟨p,hp⟩:∃p,p=f.hi[j]:=⟨_,rfl⟩
   have Hmp:=znd (show p∈f.hi by rw[hp];exact List.getElem_mem hjhi)
   rw[←hp]at HL
   have Hp:=znd hp
   clear hp
   have HC2:=znd (fun(V:World) (h:Env w [⟨g6,48,#[.bool ks.num.neg,.slice ks.num.A ks.num.k ks.num.c,.bool ks.den.neg,.slice ks.den.A ks.den.k ks.den.c]⟩,⟨g5,48,#[.bool false,.slice none 0 0,.bool false,.slice none 0 0]⟩] (fun V=>Blk V gk 101 #[.func (.func 58) #[] #[.pointer (some ⟨g2,0,none⟩)]]∧Blk V gp 25 #[.slice Ap ps.length cp]∧Blk V gf 32 #[.int .i64 f.M,.slice f.Ac f.cols.length f.cc,.slice f.Al f.lo.length f.cl,.slice f.Ah f.hi.length f.ch,.slice f.Ak f.cost.length f.ck,.slice f.Ab f.b.length f.cb]∧Blk V g2 32 #[.int .i64 f.M,.slice f.Ac f.cols.length f.cc,.slice f.Al f.lo.length f.cl,.slice f.Ah f.hi.length f.ch,.slice f.Ak f.cost.length f.ck,.slice f.Ab f.b.length f.cb]∧FoD n f V∧LsR 5 tecells (teD n) Ap ps V∧Tz V) (fun V=>RatN ks (pc.2-D) V) V)=>And.intro (Env.c2 h).1 (And.intro (Blk.cb h.o.2.2.1) (HL.out V h.o.2.2.2.2.1)))
   have c:=HC2.out _ HE.out
   have cb:=Env.c2 HE.out
   have HOK:=znd (show∀V,FoD n f V→RatD p.1 p.2 n V from fun V h=>h.hi.ok p Hmp.out)
   go_region_held3 (fun W=>CB g6 #[.bool ks.num.neg,.slice ks.num.A ks.num.k ks.num.c,.bool ks.den.neg,.slice ks.den.A ks.den.k ks.den.c] W∧CB gf #[.int .i64 f.M,.slice f.Ac f.cols.length f.cc,.slice f.Al f.lo.length f.cl,.slice f.Ah f.hi.length f.ch,.slice f.Ak f.cost.length f.ck,.slice f.Ab f.b.length f.cb] W∧RC f.Ah j p W) (first|with_reducible exact c|with_reducible exact And.intro (Env.c2 (HE.out.put4_1 _ _ _ _)).1 (And.intro (Blk.cb (HE.out.put4_1 _ _ _ _).o.2.2.1) (HL.out _ (HE.out.put4_1 _ _ _ _).o.2.2.2.2.1))|with_reducible exact And.intro (Env.c2 (HE.out.drew.put4_1 _ _ _ _)).1 (And.intro (Blk.cb (HE.out.drew.put4_1 _ _ _ _).o.2.2.1) (HL.out _ (HE.out.drew.put4_1 _ _ _ _).o.2.2.2.2.1))|((repeat' apply And.intro)<;>go_keep))
    (first
     |(go_at_call 14;go_must (refine(zaN _ ks p.1 (pc.2-D) p.2 (n+N+1) (by omega) (by omega) (RatN.rat (by with_reducible first|exact HE.out.n|exact HE.out.drew.n) Hss.out) (RatD.mono9 (HOK.out _ (by with_reducible first|exact HE.out.o.2.2.2.2.1|exact HE.out.drew.o.2.2.2.2.1)) (by omega)) (by with_reducible first|exact HE.out.o.2.2.2.2.2.2|exact HE.out.drew.o.2.2.2.2.2.2)).mono ?_;rintro e w5 ⟨km,rfl,hk,hb⟩;replace HE:=znd (Env.ret (by with_reducible first|exact HE.out|exact HE.out.drew) hk hb);replace c:=HC2.out _ (HE.out.imp (fun _ h=>h) (fun _ h=>h.2));replace cb:=Env.c2 HE.out;clear hk hb)))
   all_goals
    go_wp2_with fail
    have hfin:(pc.2-D)*p.2=RES:=by
     rw[HRES.out,Hv.out,←HD2.out,Hp.out,if_neg (by have h9:=Hsg.out;omega)]
    first
     |exact bodyPost_ret (v:=.agg #[.bool km.num.neg,.slice km.num.A km.num.k km.num.c,.bool km.den.neg,.slice km.den.A km.den.k km.den.c]) (by simp[results,Tryz.results101,go_sem,Env.c2 (HE.out.put4_1 (.bool km.num.neg) (.slice km.num.A km.num.k km.num.c) (.bool km.den.neg) (.slice km.den.A km.den.k km.den.c))]) rfl ((HE.out.put4_1 _ _ _ _).retR' rfl fun _ h=>hfin▸h.1)
set_option maxRecDepth 100000 in
theorem zo9 (w:World) (n:Nat) (hn:n≤700000000) (h1n:1≤n) (f:FoV) (h:FoD n f w) (gk gp gf:Nat) (Ap:Option Addr) (cp:Nat) (ps:List TeV) (hgk:Blk w gk 101 #[.func (.func 100) #[] #[]]) (hgp:Blk w gp 25 #[.slice Ap ps.length cp]) (hgf:Blk w gf 32 #[.int .i64 f.M,.slice f.Ac f.cols.length f.cc,.slice f.Al f.lo.length f.cl,.slice f.Ah f.hi.length f.ch,.slice f.Ak f.cost.length f.ck,.slice f.Ab f.b.length f.cb]) (hp:LsR 5 tecells (teD n) Ap ps w) (hrp:Rise ps) (hlp:ps.length≤20)
 (j:Nat) (hj:j<f.cols.length) (hjlo:j<f.lo.length) (hjhi:j<f.hi.length) (hrv:Rise f.cols[j].ts) (hvl:f.cols[j].ts.length≤1000000) (hT:Tz w):
 Calls Tryz.prog 101 #[.int .i64 (j:Int),.pointer (some ⟨gk,0,none⟩),.pointer (some ⟨gp,0,none⟩),.pointer (some ⟨gf,0,none⟩)] w (RetR (if 0≤((0:Rat)-dotQ (ps.map plq) (f.cols[j].ts.map plq)).num.sign then((0:Rat)-dotQ (ps.map plq) (f.cols[j].ts.map plq))*f.lo[j].2 else((0:Rat)-dotQ (ps.map plq) (f.cols[j].ts.map plq))*f.hi[j].2) w):=by
 obtain⟨RES,hRES⟩:∃R,R=(if 0≤((0:Rat)-dotQ (ps.map plq) (f.cols[j].ts.map plq)).num.sign then((0:Rat)-dotQ (ps.map plq) (f.cols[j].ts.map plq))*f.lo[j].2 else((0:Rat)-dotQ (ps.map plq) (f.cols[j].ts.map plq))*f.hi[j].2):=⟨_,rfl⟩
 rw[←hRES]
 have HRES:=znd hRES
 clear hRES
 have slc:=h.cols.sl
 have sll:=h.lo.sl
 have slh:=h.hi.sl
 have hszc:=zaw
 have hszr:=zal
 have hadd:=zaa
 have HV:=znd (fun(V:World) (h:FoD n f V)=>h.cols.vc j hj)
 obtain⟨D,hD⟩:∃D,D=dotQ (ps.map plq) (f.cols[j].ts.map plq):=⟨_,rfl⟩
 obtain⟨N,hN⟩:∃N,N=1+20*(2*n+2):=⟨_,rfl⟩
 have hnN:n≤N:=by omega
 have hNb:N≤100000000000:=by omega
 have Hsd:=znd (show Sz D N by
  rw[hD,hN]
  refine(ziD hrv h1n (fun u hu=>RatD.sz ((h.cols.ok _ (List.getElem_mem hj)).ok u hu) h1n) ps (fun t ht=>RatD.sz (hp.ok t ht) h1n)).up ?_
  have:=Nat.mul_le_mul_right (2*n+2) hlp
  omega)
 have Hdd0:=hD.symm
 obtain⟨pc,hpc⟩:∃pc:RV×Rat,pc=(zeroR,0):=⟨_,rfl⟩
 have HPC:=znd (show∀V,FoD n f V→RatD pc.1 pc.2 n V from fun V h=>by rw[hpc];exact RatD.zero_ V n)
 have Hss:=znd (show Sz (pc.2-D) (n+N+1)from Sz.sub (RatD.sz (HPC.out w h) h1n) Hsd.out)
 have HD:=znd (show pc.2-D=(0:Rat)-dotQ (ps.map plq) (f.cols[j].ts.map plq) by rw[hD,hpc])
 have Hpc:=znd (show .agg #[.bool false,.slice none 0 0,.bool false,.slice none 0 0]=Value.agg #[.bool pc.1.num.neg,.slice pc.1.num.A pc.1.num.k pc.1.num.c,.bool pc.1.den.neg,.slice pc.1.den.A pc.1.den.k pc.1.den.c] by rw[hpc];rfl)
 obtain⟨v,hv⟩:∃v,v=f.cols[j]:=⟨_,rfl⟩
 have Hmv:=znd (show v∈f.cols by rw[hv];exact List.getElem_mem hj)
 rw[←hv]at HV hrv hvl hD Hdd0
 have Hdd:=znd Hdd0
 clear Hdd0
 have Hv:=znd hv.symm
 have HVE:=znd (show∀V,FoD n f V→LsR 5 tecells (teD n) v.A v.ts V from fun V h=>h.cols.ok v Hmv.out)
 have HD2:=znd (show pc.2-D=(0:Rat)-dotQ (ps.map plq) (v.ts.map plq) by have h9:=HD.out;rwa [hv.symm]at h9)
 have Hrv:=znd hrv
 have Hvl:=znd hvl
 have Hrp:=znd hrp
 have HE:=znd (Env.start ((hgk.old.and ((hgp.old.and (hgf.old.and (h.old.and ((hp.old zah).and hT.old))))))))
 have HC:=znd (fun(V:World) (h:(fun V=>Blk V gk 101 #[.func (.func 100) #[] #[]]∧Blk V gp 25 #[.slice Ap ps.length cp]∧Blk V gf 32 #[.int .i64 f.M,.slice f.Ac f.cols.length f.cc,.slice f.Al f.lo.length f.cl,.slice f.Ah f.hi.length f.ch,.slice f.Ak f.cost.length f.ck,.slice f.Ab f.b.length f.cb]∧FoD n f V∧LsR 5 tecells (teD n) Ap ps V∧Tz V) V)=>And.intro (Blk.cb h.1) (And.intro (Blk.cb h.2.1) (And.intro (Blk.cb h.2.2.1) (HV.out V h.2.2.2.1))))
 clear hgk hgp hgf h hp hrp hrv hvl hT hv hpc hD hN
 go_enter Tryz.func101,Tryz.ntmps101
 go_upto_region 1 with fail
 obtain⟨W1,g5,hW1,hg5,HE⟩:=Env.al HE.out 48 #[.bool false,.slice none 0 0,.bool false,.slice none 0 0]
 rw[hW1,hg5]
 clear hW1 hg5
 go_cut [6] (fun v wx=>∃g6 ks,v=.pointer (some ⟨g6,0,none⟩)∧Hid (Env w [⟨g6,48,#[.bool ks.num.neg,.slice ks.num.A ks.num.k ks.num.c,.bool ks.den.neg,.slice ks.den.A ks.den.k ks.den.c]⟩,⟨g5,48,#[.bool false,.slice none 0 0,.bool false,.slice none 0 0]⟩] (fun V=>Blk V gk 101 #[.func (.func 100) #[] #[]]∧Blk V gp 25 #[.slice Ap ps.length cp]∧Blk V gf 32 #[.int .i64 f.M,.slice f.Ac f.cols.length f.cc,.slice f.Al f.lo.length f.cl,.slice f.Ah f.hi.length f.ch,.slice f.Ak f.cost.length f.ck,.slice f.Ab f.b.length f.cb]∧FoD n f V∧LsR 5 tecells (teD n) Ap ps V∧Tz V) (fun V=>RatN ks (pc.2-D) V) wx))
 case first=>
  have c:=HC.out _ HE.out.o
  go_region_held3 (fun W=>CB gk #[.func (.func 100) #[] #[]] W∧CB gp #[.slice Ap ps.length cp] W∧CB gf #[.int .i64 f.M,.slice f.Ac f.cols.length f.cc,.slice f.Al f.lo.length f.cl,.slice f.Ah f.hi.length f.ch,.slice f.Ak f.cost.length f.ck,.slice f.Ab f.b.length f.cb] W∧W.cell? (adr f.Ac j)=some (.slice v.A v.ts.length v.c)) (first|with_reducible exact c|with_reducible exact HC.out _ HE.out.o|with_reducible exact HC.out _ HE.out.drew.o|with_reducible exact HC.out _ (HE.out.nn _ _).o|with_reducible exact HC.out _ (HE.out.nn _ _).drew.o|with_reducible exact HC.out _ (HE.out.nd_ _ _).o|with_reducible exact HC.out _ (HE.out.put4 _ _ _ _).o|with_reducible exact HC.out _ (HE.out.drew.put4 _ _ _ _).o|((repeat' apply And.intro)<;>go_keep))
   (first
    |(go_at_call 100;go_must (refine(znR _ (j:Int)).mono ?_;rintro e w1 ⟨rfl,hb⟩;(first|(with_reducible (replace HE:=znd (Env.call HE.out hb)))|(with_reducible (replace HE:=znd (Env.call HE.out.drew hb)))|(with_reducible (replace HE:=znd (Env.call (HE.out.nn 48 #[.bool false,.slice none 0 0,.bool false,.slice none 0 0]) hb)))|(with_reducible (replace HE:=znd (Env.call (HE.out.nd_ 48 #[.bool false,.slice none 0 0,.bool false,.slice none 0 0]) hb)))|(with_reducible (replace HE:=znd (Env.call (HE.out.nn 48 #[.bool false,.slice none 0 0,.bool false,.slice none 0 0]).drew hb))));replace c:=HC.out _ HE.out.o;(first|(have cb:=Env.c2 HE.out)|(have cb:=Env.c1 HE.out));clear hb;rw[Hpc.out]))
    |(go_at_call 42;go_must (refine(zjO _ n (by omega) h1n Ap v.A cp v.c ps v.ts (by with_reducible first|exact HE.out.o.2.2.2.2.1|exact HE.out.drew.o.2.2.2.2.1|exact(HE.out.nn _ _).o.2.2.2.2.1|exact(HE.out.nd_ _ _).o.2.2.2.2.1|exact(HE.out.nn _ _).drew.o.2.2.2.2.1) (HVE.out _ (by with_reducible first|exact HE.out.o.2.2.2.1|exact HE.out.drew.o.2.2.2.1|exact(HE.out.nn _ _).o.2.2.2.1|exact(HE.out.nd_ _ _).o.2.2.2.1|exact(HE.out.nn _ _).drew.o.2.2.2.1)) Hrp.out Hrv.out (by omega) Hvl.out (by with_reducible first|exact HE.out.o.2.2.2.2.2|exact HE.out.drew.o.2.2.2.2.2|exact(HE.out.nn _ _).o.2.2.2.2.2|exact(HE.out.nd_ _ _).o.2.2.2.2.2|exact(HE.out.nn _ _).drew.o.2.2.2.2.2)).mono ?_;rintro e w2 ⟨kd,rfl,hk,hb⟩;rw[Hdd.out]at hk;(first|(with_reducible (replace HE:=znd (Env.ret HE.out hk hb)))|(with_reducible (replace HE:=znd (Env.ret HE.out.drew hk hb)))|(with_reducible (replace HE:=znd (Env.ret (HE.out.nn 48 #[.bool false,.slice none 0 0,.bool false,.slice none 0 0]) hk hb)))|(with_reducible (replace HE:=znd (Env.ret (HE.out.nd_ 48 #[.bool false,.slice none 0 0,.bool false,.slice none 0 0]) hk hb)))|(with_reducible (replace HE:=znd (Env.ret (HE.out.nn 48 #[.bool false,.slice none 0 0,.bool false,.slice none 0 0]).drew hk hb))));replace c:=HC.out _ HE.out.o;(first|(have cb:=Env.c2 HE.out)|(have cb:=Env.c1 HE.out));clear hk hb))
    |(go_at_call 41;go_must (refine(zd0 _ pc.1 kd pc.2 D N (by omega) (by omega) (RatD.mono9 (HPC.out _ (by with_reducible first|exact HE.out.o.2.2.2.1|exact HE.out.drew.o.2.2.2.1|exact(HE.out.nn _ _).o.2.2.2.1|exact(HE.out.nd_ _ _).o.2.2.2.1|exact(HE.out.nn _ _).drew.o.2.2.2.1)) hnN) (RatN.rat (by with_reducible first|exact HE.out.n.1|exact HE.out.drew.n.1|exact(HE.out.nn _ _).n.1|exact(HE.out.nd_ _ _).n.1|exact(HE.out.nn _ _).drew.n.1) Hsd.out) (by with_reducible first|exact HE.out.o.2.2.2.2.2|exact HE.out.drew.o.2.2.2.2.2|exact(HE.out.nn _ _).o.2.2.2.2.2|exact(HE.out.nd_ _ _).o.2.2.2.2.2|exact(HE.out.nn _ _).drew.o.2.2.2.2.2)).mono ?_;rintro e w3 ⟨ks,rfl,hk,hb⟩;(first|(with_reducible (replace HE:=znd (Env.ret HE.out hk hb)))|(with_reducible (replace HE:=znd (Env.ret HE.out.drew hk hb)))|(with_reducible (replace HE:=znd (Env.ret (HE.out.nn 48 #[.bool false,.slice none 0 0,.bool false,.slice none 0 0]) hk hb)))|(with_reducible (replace HE:=znd (Env.ret (HE.out.nd_ 48 #[.bool false,.slice none 0 0,.bool false,.slice none 0 0]) hk hb)))|(with_reducible (replace HE:=znd (Env.ret (HE.out.nn 48 #[.bool false,.slice none 0 0,.bool false,.slice none 0 0]).drew hk hb))));replace c:=HC.out _ HE.out.o;(first|(have cb:=Env.c2 HE.out)|(have cb:=Env.c1 HE.out));clear hk hb)))
  all_goals
   go_wp2_with fail
   go_meet
   first
    |with_reducible exact⟨_,ks,rfl,znd ((HE.out.put4 _ _ _ _).imp (fun _ h=>h) (fun _ h=>h.1))⟩
    |with_reducible exact⟨_,ks,rfl,znd ((HE.out.drew.put4 _ _ _ _).imp (fun _ h=>h) (fun _ h=>h.1))⟩
    |with_reducible exact⟨_,ks,rfl,znd ((HE.out.nn _ _).imp (fun _ h=>h) (fun _ h=>h.1))⟩
    |with_reducible exact⟨_,ks,rfl,znd ((HE.out.nn _ _).drew.imp (fun _ h=>h) (fun _ h=>h.1))⟩
    |with_reducible exact⟨_,ks,rfl,znd ((HE.out.nd_ _ _).imp (fun _ h=>h) (fun _ h=>h.1))⟩
 case rest=>
  clear HE
  obtain⟨g6,ks,rfl,HE⟩:=hcut
  have cb:=Env.c2 HE.out
  go_wp2_with fail
  refine(zaV _ ks (pc.2-D) (n+N+1) (by omega) (RatN.rat HE.out.n Hss.out)).mono ?_
  rintro e w4 ⟨rfl,hb⟩
  replace HE:=znd (Env.call HE.out hb)
  clear hb cb
  obtain⟨SG,hSG⟩:∃SG,(pc.2-D).num.sign=SG:=⟨_,rfl⟩
  rw[hSG]
  have HSG:=znd hSG
  clear hSG
  by_cases hsg:0≤SG
  ·have Hsg:=znd (show 0≤(pc.2-D).num.sign by rw[HSG.out];exact hsg)
   go_upto_region 3 with fail
   have HL:=znd (fun(V:World) (h:FoD n f V)=>h.lo.rc j hjlo)
   obtain⟨p,hp⟩:∃p,p=f.lo[j]:=⟨_,rfl⟩
   have Hmp:=znd (show p∈f.lo by rw[hp];exact List.getElem_mem hjlo)
   rw[←hp]at HL
   have Hp:=znd hp
   clear hp
   have HC2:=znd (fun(V:World) (h:Env w [⟨g6,48,#[.bool ks.num.neg,.slice ks.num.A ks.num.k ks.num.c,.bool ks.den.neg,.slice ks.den.A ks.den.k ks.den.c]⟩,⟨g5,48,#[.bool false,.slice none 0 0,.bool false,.slice none 0 0]⟩] (fun V=>Blk V gk 101 #[.func (.func 100) #[] #[]]∧Blk V gp 25 #[.slice Ap ps.length cp]∧Blk V gf 32 #[.int .i64 f.M,.slice f.Ac f.cols.length f.cc,.slice f.Al f.lo.length f.cl,.slice f.Ah f.hi.length f.ch,.slice f.Ak f.cost.length f.ck,.slice f.Ab f.b.length f.cb]∧FoD n f V∧LsR 5 tecells (teD n) Ap ps V∧Tz V) (fun V=>RatN ks (pc.2-D) V) V)=>And.intro (Env.c2 h).1 (And.intro (Blk.cb h.o.2.2.1) (HL.out V h.o.2.2.2.1)))
   have c:=HC2.out _ HE.out
   have cb:=Env.c2 HE.out
   have HOK:=znd (show∀V,FoD n f V→RatD p.1 p.2 n V from fun V h=>h.lo.ok p Hmp.out)
   go_region_held3 (fun W=>CB g6 #[.bool ks.num.neg,.slice ks.num.A ks.num.k ks.num.c,.bool ks.den.neg,.slice ks.den.A ks.den.k ks.den.c] W∧CB gf #[.int .i64 f.M,.slice f.Ac f.cols.length f.cc,.slice f.Al f.lo.length f.cl,.slice f.Ah f.hi.length f.ch,.slice f.Ak f.cost.length f.ck,.slice f.Ab f.b.length f.cb] W∧RC f.Al j p W) (first|with_reducible exact c|with_reducible exact And.intro (Env.c2 (HE.out.put4_1 _ _ _ _)).1 (And.intro (Blk.cb (HE.out.put4_1 _ _ _ _).o.2.2.1) (HL.out _ (HE.out.put4_1 _ _ _ _).o.2.2.2.1))|with_reducible exact And.intro (Env.c2 (HE.out.drew.put4_1 _ _ _ _)).1 (And.intro (Blk.cb (HE.out.drew.put4_1 _ _ _ _).o.2.2.1) (HL.out _ (HE.out.drew.put4_1 _ _ _ _).o.2.2.2.1))|((repeat' apply And.intro)<;>go_keep))
    (first
     |(go_at_call 14;go_must (refine(zaN _ ks p.1 (pc.2-D) p.2 (n+N+1) (by omega) (by omega) (RatN.rat (by with_reducible first|exact HE.out.n|exact HE.out.drew.n) Hss.out) (RatD.mono9 (HOK.out _ (by with_reducible first|exact HE.out.o.2.2.2.1|exact HE.out.drew.o.2.2.2.1)) (by omega)) (by with_reducible first|exact HE.out.o.2.2.2.2.2|exact HE.out.drew.o.2.2.2.2.2)).mono ?_;rintro e w5 ⟨km,rfl,hk,hb⟩;replace HE:=znd (Env.ret (by with_reducible first|exact HE.out|exact HE.out.drew) hk hb);replace c:=HC2.out _ (HE.out.imp (fun _ h=>h) (fun _ h=>h.2));replace cb:=Env.c2 HE.out;clear hk hb)))
   all_goals
    go_wp2_with fail
    have hfin:(pc.2-D)*p.2=RES:=by
     rw[HRES.out,Hv.out,←HD2.out,Hp.out,if_pos (by have h9:=Hsg.out;omega)]
    first
     |exact bodyPost_ret (v:=.agg #[.bool km.num.neg,.slice km.num.A km.num.k km.num.c,.bool km.den.neg,.slice km.den.A km.den.k km.den.c]) (by simp[results,Tryz.results101,go_sem,Env.c2 (HE.out.put4_1 (.bool km.num.neg) (.slice km.num.A km.num.k km.num.c) (.bool km.den.neg) (.slice km.den.A km.den.k km.den.c))]) rfl ((HE.out.put4_1 _ _ _ _).retR' rfl fun _ h=>hfin▸h.1)
  ·have Hsg:=znd (show¬0≤(pc.2-D).num.sign by rw[HSG.out];exact hsg)
   go_upto_region 4 with fail
   have HL:=znd (fun(V:World) (h:FoD n f V)=>h.hi.rc j hjhi)
   obtain⟨p,hp⟩:∃p,p=f.hi[j]:=⟨_,rfl⟩
   have Hmp:=znd (show p∈f.hi by rw[hp];exact List.getElem_mem hjhi)
   rw[←hp]at HL
   have Hp:=znd hp
   clear hp
   have HC2:=znd (fun(V:World) (h:Env w [⟨g6,48,#[.bool ks.num.neg,.slice ks.num.A ks.num.k ks.num.c,.bool ks.den.neg,.slice ks.den.A ks.den.k ks.den.c]⟩,⟨g5,48,#[.bool false,.slice none 0 0,.bool false,.slice none 0 0]⟩] (fun V=>Blk V gk 101 #[.func (.func 100) #[] #[]]∧Blk V gp 25 #[.slice Ap ps.length cp]∧Blk V gf 32 #[.int .i64 f.M,.slice f.Ac f.cols.length f.cc,.slice f.Al f.lo.length f.cl,.slice f.Ah f.hi.length f.ch,.slice f.Ak f.cost.length f.ck,.slice f.Ab f.b.length f.cb]∧FoD n f V∧LsR 5 tecells (teD n) Ap ps V∧Tz V) (fun V=>RatN ks (pc.2-D) V) V)=>And.intro (Env.c2 h).1 (And.intro (Blk.cb h.o.2.2.1) (HL.out V h.o.2.2.2.1)))
   have c:=HC2.out _ HE.out
   have cb:=Env.c2 HE.out
   have HOK:=znd (show∀V,FoD n f V→RatD p.1 p.2 n V from fun V h=>h.hi.ok p Hmp.out)
   go_region_held3 (fun W=>CB g6 #[.bool ks.num.neg,.slice ks.num.A ks.num.k ks.num.c,.bool ks.den.neg,.slice ks.den.A ks.den.k ks.den.c] W∧CB gf #[.int .i64 f.M,.slice f.Ac f.cols.length f.cc,.slice f.Al f.lo.length f.cl,.slice f.Ah f.hi.length f.ch,.slice f.Ak f.cost.length f.ck,.slice f.Ab f.b.length f.cb] W∧RC f.Ah j p W) (first|with_reducible exact c|with_reducible exact And.intro (Env.c2 (HE.out.put4_1 _ _ _ _)).1 (And.intro (Blk.cb (HE.out.put4_1 _ _ _ _).o.2.2.1) (HL.out _ (HE.out.put4_1 _ _ _ _).o.2.2.2.1))|with_reducible exact And.intro (Env.c2 (HE.out.drew.put4_1 _ _ _ _)).1 (And.intro (Blk.cb (HE.out.drew.put4_1 _ _ _ _).o.2.2.1) (HL.out _ (HE.out.drew.put4_1 _ _ _ _).o.2.2.2.1))|((repeat' apply And.intro)<;>go_keep))
    (first
     |(go_at_call 14;go_must (refine(zaN _ ks p.1 (pc.2-D) p.2 (n+N+1) (by omega) (by omega) (RatN.rat (by with_reducible first|exact HE.out.n|exact HE.out.drew.n) Hss.out) (RatD.mono9 (HOK.out _ (by with_reducible first|exact HE.out.o.2.2.2.1|exact HE.out.drew.o.2.2.2.1)) (by omega)) (by with_reducible first|exact HE.out.o.2.2.2.2.2|exact HE.out.drew.o.2.2.2.2.2)).mono ?_;rintro e w5 ⟨km,rfl,hk,hb⟩;replace HE:=znd (Env.ret (by with_reducible first|exact HE.out|exact HE.out.drew) hk hb);replace c:=HC2.out _ (HE.out.imp (fun _ h=>h) (fun _ h=>h.2));replace cb:=Env.c2 HE.out;clear hk hb)))
   all_goals
    go_wp2_with fail
    have hfin:(pc.2-D)*p.2=RES:=by
     rw[HRES.out,Hv.out,←HD2.out,Hp.out,if_neg (by have h9:=Hsg.out;omega)]
    first
     |exact bodyPost_ret (v:=.agg #[.bool km.num.neg,.slice km.num.A km.num.k km.num.c,.bool km.den.neg,.slice km.den.A km.den.k km.den.c]) (by simp[results,Tryz.results101,go_sem,Env.c2 (HE.out.put4_1 (.bool km.num.neg) (.slice km.num.A km.num.k km.num.c) (.bool km.den.neg) (.slice km.den.A km.den.k km.den.c))]) rfl ((HE.out.put4_1 _ _ _ _).retR' rfl fun _ h=>hfin▸h.1)

instance:Inhabited VeV:=⟨⟨none,0,[]⟩⟩
def lstQ (c D lo hi:Rat):Rat:=if 0≤(c-D).num.sign then(c-D)*lo else(c-D)*hi
def bndQ (f:FoV) (P:List (Int×Rat)) (s0:Rat) (cq:Nat→Rat):Nat→Rat
 |0=>s0
 |k+1=>bndQ f P s0 cq k+lstQ (cq k) (dotQ P ((f.cols[k]!).ts.map plq)) (f.lo[k]!).2 (f.hi[k]!).2
def vecL (ys:List (RV×Rat)):List (Int×Rat):=((ofT ys).map plq).filter nzP
theorem zfT {ys:List (RV×Rat)} {ps:List TeV} (h:ps.map plq=vecL ys):Rise ps:=zcY h ((zcZ ys).map.filter _)
theorem zgG {ys:List (RV×Rat)} {ps:List TeV} (h:ps.map plq=vecL ys):ps.length≤ys.length:=by
 have h1:=congrArg List.length h
 rw[List.length_map]at h1
 have h2:=List.length_filter_le nzP ((ofT ys).map plq)
 rw[List.length_map,zbw]at h2
 unfold vecL at h1
 omega
theorem zfQ {ys:List (RV×Rat)} {ps:List TeV} {n:Nat} (h:ps.map plq=vecL ys) (hy:∀p∈ys,Sz p.2 n):∀t∈ps,Sz t.q n:=zfy h fun p hp=>by
 obtain⟨t,ht,rfl⟩:=List.mem_map.1 (List.mem_filter.1 hp).1
 obtain⟨x,hx,rfl⟩:=List.mem_map.1 ht
 obtain⟨j,hj,e⟩:=List.mem_iff_getElem.1 hx
 have hj':j<ys.length:=by simpa using hj
 have e2:x.1=ys[j]:=by rw[←e];simp
 show Sz x.1.2 n
 rw[e2]
 exact hy _ (List.getElem_mem hj')
theorem znD {c D lo hi:Rat} {n N:Nat} (hc:Sz c n) (hD:Sz D N) (hl:Sz lo n) (hh:Sz hi n):Sz (lstQ c D lo hi) (2*n+N+2):=by
 have h1:=Sz.sub hc hD
 unfold lstQ
 split
 ·exact(Sz.mul h1 hl).up (by omega)
 ·exact(Sz.mul h1 hh).up (by omega)
theorem znF {f:FoV} {P:List (Int×Rat)} {s0:Rat} {cq:Nat→Rat} {n N:Nat} (h0:Sz s0 N):∀j,(∀i,i<j→Sz (cq i) n∧Sz (dotQ P ((f.cols[i]!).ts.map plq)) N∧Sz (f.lo[i]!).2 n∧Sz (f.hi[i]!).2 n)→Sz (bndQ f P s0 cq j) (N+j*(2*n+N+3)):=by
 intro j
 induction j with
 |zero=>intro _;exact h0.up (by omega)
 |succ j ih=>
  intro h
  have h1:=ih fun i hi=>h i (by omega)
  obtain⟨a,b,c,d⟩:=h j (by omega)
  have h2:=Sz.add h1 (znD a b c d)
  refine h2.up ?_
  rw[Nat.add_mul];omega
set_option maxRecDepth 100000 in
theorem zo7 (w:World) (n:Nat) (hn:n≤700000000) (h1n:1≤n) (f:FoV) (h:FoD n f w) (hs:FSmall f) (hR:FRight f w) (Ay:Option Addr) (cy:Nat) (ys:List (RV×Rat)) (hy:LsR 4 za0 (roD n) Ay ys w) (hyl:ys.length≤30) (hyc:ys.length≤cy) (g2:Nat) (hg2:Blk w g2 32 #[.int .i64 f.M,.slice f.Ac f.cols.length f.cc,.slice f.Al f.lo.length f.cl,.slice f.Ah f.hi.length f.ch,.slice f.Ak f.cost.length f.ck,.slice f.Ab f.b.length f.cb]) (hT:Tz w):
 Calls Tryz.prog 57 #[fA f,.slice Ay ys.length cy,.func (.func 58) #[] #[.pointer (some ⟨g2,0,none⟩)]] w (RetR (bndQ f (vecL (ys.take (min ys.length f.b.length))) (dotQ (vecL (ys.take (min ys.length f.b.length))) (vecL f.b)) (fun i=>(f.cost[i]!).2) f.cols.length) w):=by
 have Hs:=znd hs
 have HR:=znd hR
 obtain⟨K,hK⟩:∃K,K=min ys.length f.b.length:=⟨_,rfl⟩
 have hM:=hR.b
 have slb:=h.b.sl
 have sly:=hy.sl
 have hszr:=zal
 have hszc:=zaw
 have hadd:=zaa
 have hmin:min (ys.length:Int) f.M=(K:Int):=by rw[hK];omega
 have HM:=znd hM
 have hKy:K≤ys.length:=by omega
 have hKc:(K:Int)≤(cy:Int):=by omega
 have hK20:K≤20:=by have:=hs.b;omega
 have HFB:=znd (fun(V:World) (h:FoD n f V)=>h.b)
 have Hsb:=znd (show∀p∈f.b,Sz p.2 n from fun p hp=>RatD.sz (h.b.ok p hp) h1n)
 have Hsy:=znd (show∀p∈ys.take K,Sz p.2 n from fun p hp=>RatD.sz (hy.ok p (List.mem_of_mem_take hp)) h1n)
 clear hM
 obtain⟨W0,hW0⟩:∃W0,W0=(((w.alloc (.cells #[.int .i64 f.M,.slice f.Ac f.cols.length f.cc,.slice f.Al f.lo.length f.cl,.slice f.Ah f.hi.length f.ch,.slice f.Ak f.cost.length f.ck,.slice f.Ab f.b.length f.cb] 32)).alloc (.cells #[.func (.func 58) #[] #[.pointer (some ⟨g2,0,none⟩)]] 101)).alloc (.cells #[.bool false,.slice none 0 0,.bool false,.slice none 0 0] 48)):=⟨_,rfl⟩
 have HE:=znd (Env.lay3 (Env.start ((h.old).and (((hy.old zbQ)).and ((hT.old).and (hg2.old))))) hW0)
 subst hW0
 have c:=Env.c3 HE.out
 have dd:=Env.d3 HE.out
 rw[←hK]
 clear h hs hR hy hT hK hg2
 unfold fA
 go_enter Tryz.func57,Tryz.ntmps57
 go_wp2_with fail
 refine(show Calls Tryz.prog 35 #[.slice Ay K cy] _ _ from by have h9:=zdY _ n (by omega) h1n Ay cy (ys.take K) (HE.out.o.2.1.take K) (by simp;omega) HE.out.o.2.2.1;rw[List.length_take,Nat.min_eq_left hKy]at h9;exact h9).mono ?_
 rintro e w1 ⟨Ap,cp,ps,rfl,hcp,hps,hk,hb⟩
 have Hps:=znd (show ps.map plq=vecL (ys.take K)from hps)
 replace HE:=znd (Env.ret HE.out hk hb)
 clear hk hb hps hcp c
 go_upto_region 2 with fail
 obtain⟨W1,g7,hW1,hg7,HE⟩:=Env.al HE.out 25 #[.slice Ap ps.length cp]
 rw[hW1,hg7]
 clear hW1 hg7
 go_upto_region 3 with fail
 have HC1:=znd (fun(V:World) (new:World→Prop) (h:Hid (Env w [⟨g7,25,#[.slice Ap ps.length cp]⟩,⟨w.heap.size+1+1,48,#[.bool false,.slice none 0 0,.bool false,.slice none 0 0]⟩,⟨w.heap.size+1,101,#[.func (.func 58) #[] #[.pointer (some ⟨g2,0,none⟩)]]⟩,⟨w.heap.size,32,#[.int .i64 f.M,.slice f.Ac f.cols.length f.cc,.slice f.Al f.lo.length f.cl,.slice f.Ah f.hi.length f.ch,.slice f.Ak f.cost.length f.ck,.slice f.Ab f.b.length f.cb]⟩] (fun V=>FoD n f V∧LsR 4 za0 (roD n) Ay ys V∧Tz V∧Blk V g2 32 #[.int .i64 f.M,.slice f.Ac f.cols.length f.cc,.slice f.Al f.lo.length f.cl,.slice f.Ah f.hi.length f.ch,.slice f.Ak f.cost.length f.ck,.slice f.Ab f.b.length f.cb]) (fun V=>new V) V))=>And.intro (Env.c4 h.out).1 (Env.c4 h.out).2.2.2)
 have HC2:=znd (fun(V:World) (cs:Array Value) (g:Nat) (new:World→Prop) (h:Hid (Env w [⟨g,48,cs⟩,⟨g7,25,#[.slice Ap ps.length cp]⟩,⟨w.heap.size+1+1,48,#[.bool false,.slice none 0 0,.bool false,.slice none 0 0]⟩,⟨w.heap.size+1,101,#[.func (.func 58) #[] #[.pointer (some ⟨g2,0,none⟩)]]⟩,⟨w.heap.size,32,#[.int .i64 f.M,.slice f.Ac f.cols.length f.cc,.slice f.Al f.lo.length f.cl,.slice f.Ah f.hi.length f.ch,.slice f.Ak f.cost.length f.ck,.slice f.Ab f.b.length f.cb]⟩] (fun V=>FoD n f V∧LsR 4 za0 (roD n) Ay ys V∧Tz V∧Blk V g2 32 #[.int .i64 f.M,.slice f.Ac f.cols.length f.cc,.slice f.Al f.lo.length f.cl,.slice f.Ah f.hi.length f.ch,.slice f.Ak f.cost.length f.ck,.slice f.Ab f.b.length f.cb]) new V))=>And.intro (Env.c5 h.out).2.1 (Env.c5 h.out).2.2.2.2)
 have HPD:=znd (show∀V,LsR 5 tecells teN Ap ps V→LsR 5 tecells (teD n) Ap ps V from fun V h=>h.imp fun t ht hn=>RatN.rat hn (zfQ Hps.out Hsy.out t ht))
 go_cut [9] (fun v wx=>∃g9 k,v=.pointer (some ⟨g9,0,none⟩)∧Hid (Env w [⟨g9,48,#[.bool k.num.neg,.slice k.num.A k.num.k k.num.c,.bool k.den.neg,.slice k.den.A k.den.k k.den.c]⟩,⟨g7,25,#[.slice Ap ps.length cp]⟩,⟨w.heap.size+1+1,48,#[.bool false,.slice none 0 0,.bool false,.slice none 0 0]⟩,⟨w.heap.size+1,101,#[.func (.func 58) #[] #[.pointer (some ⟨g2,0,none⟩)]]⟩,⟨w.heap.size,32,#[.int .i64 f.M,.slice f.Ac f.cols.length f.cc,.slice f.Al f.lo.length f.cl,.slice f.Ah f.hi.length f.ch,.slice f.Ak f.cost.length f.ck,.slice f.Ab f.b.length f.cb]⟩] (fun V=>FoD n f V∧LsR 4 za0 (roD n) Ay ys V∧Tz V∧Blk V g2 32 #[.int .i64 f.M,.slice f.Ac f.cols.length f.cc,.slice f.Al f.lo.length f.cl,.slice f.Ah f.hi.length f.ch,.slice f.Ak f.cost.length f.ck,.slice f.Ab f.b.length f.cb]) (fun V=>RatN k (dotQ (vecL (ys.take K)) (vecL f.b)) V∧LsR 5 tecells teN Ap ps V) wx))
 case first=>
  have c:=HC1.out _ _ HE
  go_region_held3 (fun W=>CB g7 #[.slice Ap ps.length cp] W∧CB (w.heap.size) #[.int .i64 f.M,.slice f.Ac f.cols.length f.cc,.slice f.Al f.lo.length f.cl,.slice f.Ah f.hi.length f.ch,.slice f.Ak f.cost.length f.ck,.slice f.Ab f.b.length f.cb] W) (first|with_reducible exact c|with_reducible exact HC1.out _ _ (znd HE.out)|with_reducible exact HC1.out _ _ (znd HE.out.drew)|with_reducible exact HC2.out _ _ _ _ (znd (HE.out.nn _ _))|with_reducible exact HC2.out _ _ _ _ (znd (HE.out.nn _ _).drew)|with_reducible exact HC2.out _ _ _ _ (znd (HE.out.nd_ _ _))|with_reducible exact HC2.out _ _ _ _ (znd (HE.out.put4 _ _ _ _))|with_reducible exact HC2.out _ _ _ _ (znd (HE.out.drew.put4 _ _ _ _))|((repeat' apply And.intro)<;>go_keep))
   (first
    |(go_at_call 35;go_must (refine(zdY _ n (by omega) h1n f.Ab f.cb f.b (HFB.out _ (by with_reducible first|exact HE.out.o.1|exact HE.out.drew.o.1|exact(HE.out.nn _ _).o.1|exact(HE.out.nd_ _ _).o.1|exact(HE.out.nn _ _).drew.o.1)) Hs.out.b (by with_reducible first|exact HE.out.o.2.2.1|exact HE.out.drew.o.2.2.1|exact(HE.out.nn _ _).o.2.2.1|exact(HE.out.nd_ _ _).o.2.2.1|exact(HE.out.nn _ _).drew.o.2.2.1)).mono ?_;rintro e w2 ⟨Aq,cq,qs,rfl,hcq,hqs,hk,hb⟩;(first|(with_reducible (replace HE:=znd (Env.ret HE.out hk hb)))|(with_reducible (replace HE:=znd (Env.ret HE.out.drew hk hb)))|(with_reducible (replace HE:=znd (Env.ret (HE.out.nn 48 #[.bool false,.slice none 0 0,.bool false,.slice none 0 0]) hk hb)))|(with_reducible (replace HE:=znd (Env.ret (HE.out.nd_ 48 #[.bool false,.slice none 0 0,.bool false,.slice none 0 0]) hk hb)))|(with_reducible (replace HE:=znd (Env.ret (HE.out.nn 48 #[.bool false,.slice none 0 0,.bool false,.slice none 0 0]).drew hk hb))));(first|(replace c:=HC1.out _ _ HE)|(replace c:=HC2.out _ _ _ _ HE));(first|(have cb:=Env.c5 HE.out)|(have cb:=Env.c4 HE.out));have Hqs:=znd (show qs.map plq=vecL f.b from hqs);clear hk hb hqs hcq))
    |(go_at_call 42;go_must (refine(zjO _ n (by omega) h1n Ap Aq cp cq ps qs (HPD.out _ (by with_reducible first|exact HE.out.n.2.1|exact HE.out.drew.n.2.1|exact(HE.out.nn _ _).n.2.1|exact(HE.out.nd_ _ _).n.2.1|exact(HE.out.nn _ _).drew.n.2.1)) ((show∀V,LsR 5 tecells teN Aq qs V→LsR 5 tecells (teD n) Aq qs V from fun V h=>h.imp fun t ht hn=>RatN.rat hn (zfQ Hqs.out Hsb.out t ht)) _ (by with_reducible first|exact HE.out.n.1|exact HE.out.drew.n.1|exact(HE.out.nn _ _).n.1|exact(HE.out.nd_ _ _).n.1|exact(HE.out.nn _ _).drew.n.1)) (zfT Hps.out) (zfT Hqs.out) (by have:=zgG Hps.out;simp at this;omega) (by have:=zgG Hqs.out;have:=Hs.out.b;omega) (by with_reducible first|exact HE.out.o.2.2.1|exact HE.out.drew.o.2.2.1|exact(HE.out.nn _ _).o.2.2.1|exact(HE.out.nd_ _ _).o.2.2.1|exact(HE.out.nn _ _).drew.o.2.2.1)).mono ?_;rintro e w3 ⟨kd,rfl,hk,hb⟩;rw[Hps.out,Hqs.out]at hk;(first|(with_reducible (replace HE:=znd (Env.ret HE.out hk hb)))|(with_reducible (replace HE:=znd (Env.ret HE.out.drew hk hb)))|(with_reducible (replace HE:=znd (Env.ret (HE.out.nn 48 #[.bool false,.slice none 0 0,.bool false,.slice none 0 0]) hk hb)))|(with_reducible (replace HE:=znd (Env.ret (HE.out.nd_ 48 #[.bool false,.slice none 0 0,.bool false,.slice none 0 0]) hk hb)))|(with_reducible (replace HE:=znd (Env.ret (HE.out.nn 48 #[.bool false,.slice none 0 0,.bool false,.slice none 0 0]).drew hk hb))));(first|(replace c:=HC1.out _ _ HE)|(replace c:=HC2.out _ _ _ _ HE));(first|(have cb:=Env.c5 HE.out)|(have cb:=Env.c4 HE.out));clear hk hb)))
  all_goals
   go_wp2_with fail
   go_meet
   first
    |with_reducible exact⟨_,kd,rfl,znd ((HE.out.put4 _ _ _ _).imp (fun _ h=>h) (fun _ h=>⟨h.1,h.2.2.1⟩))⟩
    |with_reducible exact⟨_,kd,rfl,znd ((HE.out.drew.put4 _ _ _ _).imp (fun _ h=>h) (fun _ h=>⟨h.1,h.2.2.1⟩))⟩
    |with_reducible exact⟨_,kd,rfl,znd ((HE.out.nn _ _).imp (fun _ h=>h) (fun _ h=>⟨h.1,h.2.2.1⟩))⟩
    |with_reducible exact⟨_,kd,rfl,znd ((HE.out.nn _ _).drew.imp (fun _ h=>h) (fun _ h=>⟨h.1,h.2.2.1⟩))⟩
    |with_reducible exact⟨_,kd,rfl,znd ((HE.out.nd_ _ _).imp (fun _ h=>h) (fun _ h=>⟨h.1,h.2.2.1⟩))⟩
 case rest=>
  clear HE
  obtain⟨g9,k,rfl,HE⟩:=hcut
  have c:=Env.c5 HE.out
  obtain⟨N,hN⟩:∃N,N=1+20*(2*n+2):=⟨_,rfl⟩
  obtain⟨T,hT⟩:∃T,T=N+12*(2*n+N+3):=⟨_,rfl⟩
  have hTb:T≤390000000000:=by omega
  have hT1:1≤T:=by omega
  have HN:=znd hN
  have HTT:=znd hT
  clear hN hT
  have HSA:=znd (show∀i,i<f.cols.length→Sz ((fun i=>(f.cost[i]!).2) i) n∧Sz (dotQ (vecL (ys.take K)) ((f.cols[i]!).ts.map plq)) N∧Sz (f.lo[i]!).2 n∧Sz (f.hi[i]!).2 n from fun i hi=>by
   have hil:i<f.lo.length:=by rw[HR.out.lo];exact hi
   have hih:i<f.hi.length:=by rw[HR.out.hi];exact hi
   have hik:i<f.cost.length:=by rw[HR.out.cost];exact hi
   rw[getElem!_pos f.cols i hi,getElem!_pos f.lo i hil,getElem!_pos f.hi i hih]
   refine⟨by show Sz (f.cost[i]!).2 n;rw[getElem!_pos f.cost i hik];exact RatD.sz (HE.out.o.1.cost.ok _ (List.getElem_mem hik)) h1n,?_,RatD.sz (HE.out.o.1.lo.ok _ (List.getElem_mem hil)) h1n,RatD.sz (HE.out.o.1.hi.ok _ (List.getElem_mem hih)) h1n⟩
   rw[←Hps.out,HN.out]
   refine(ziD (HR.out.col i hi).rise h1n (fun u hu=>RatD.sz ((HE.out.o.1.cols.ok _ (List.getElem_mem hi)).ok u hu) h1n) ps (zfQ Hps.out Hsy.out)).up ?_
   have h9:=zgG Hps.out
   have h10:=Nat.mul_le_mul_right (2*n+2) (show ps.length≤20 by simp at h9;omega)
   omega)
  have HS0:=znd (show Sz (dotQ (vecL (ys.take K)) (vecL f.b)) N from by
   obtain⟨qs,hqs⟩:∃qs:List TeV,qs.map plq=vecL f.b:=⟨(ofT f.b).filter nzT,filter_plq _⟩
   rw[←Hps.out,←hqs,HN.out]
   refine(ziD (zfT hqs) h1n (zfQ hqs Hsb.out) ps (zfQ Hps.out Hsy.out)).up ?_
   have h9:=zgG Hps.out
   have h10:=Nat.mul_le_mul_right (2*n+2) (show ps.length≤20 by simp at h9;omega)
   omega)
  go_wp2_with fail
  go_loopw [28] (fun jv wr=>∃(j:Nat) (k:RV),jv=.int .i64 (j:Int)∧j≤f.cols.length∧Hid (Env w [⟨g9,48,#[.bool k.num.neg,.slice k.num.A k.num.k k.num.c,.bool k.den.neg,.slice k.den.A k.den.k k.den.c]⟩,⟨g7,25,#[.slice Ap ps.length cp]⟩,⟨w.heap.size+1+1,48,#[.bool false,.slice none 0 0,.bool false,.slice none 0 0]⟩,⟨w.heap.size+1,101,#[.func (.func 58) #[] #[.pointer (some ⟨g2,0,none⟩)]]⟩,⟨w.heap.size,32,#[.int .i64 f.M,.slice f.Ac f.cols.length f.cc,.slice f.Al f.lo.length f.cl,.slice f.Ah f.hi.length f.ch,.slice f.Ak f.cost.length f.ck,.slice f.Ab f.b.length f.cb]⟩] (fun V=>FoD n f V∧LsR 4 za0 (roD n) Ay ys V∧Tz V∧Blk V g2 32 #[.int .i64 f.M,.slice f.Ac f.cols.length f.cc,.slice f.Al f.lo.length f.cl,.slice f.Ah f.hi.length f.ch,.slice f.Ak f.cost.length f.ck,.slice f.Ab f.b.length f.cb]) (fun V=>RatN k (bndQ f (vecL (ys.take K)) (dotQ (vecL (ys.take K)) (vecL f.b)) (fun i=>(f.cost[i]!).2) j) V∧LsR 5 tecells teN Ap ps V) wr)) (fun jv _=>f.cols.length-(intOf jv).toNat)
  case atStart=>exact⟨0,k,rfl,Nat.zero_le _,HE⟩
  case round=>
   clear HE c
   obtain⟨j,k,rfl,hj,HE⟩:=hrel
   by_cases hlt:j<f.cols.length
   ·have hc12:=Hs.out.cols
    have hjlo:j<f.lo.length:=by rw[HR.out.lo];exact hlt
    have hjhi:j<f.hi.length:=by rw[HR.out.hi];exact hlt
    have hjk:j<f.cost.length:=by rw[HR.out.cost];exact hlt
    have HRj:=znd (HR.out.col j hlt).rise
    have HLj:=znd (show f.cols[j].ts.length≤1000000 by have:=Hs.out.col _ (List.getElem_mem hlt);omega)
    obtain⟨L,hL⟩:∃L,(if 0≤(f.cost[j].2-dotQ (ps.map plq) (f.cols[j].ts.map plq)).num.sign then(f.cost[j].2-dotQ (ps.map plq) (f.cols[j].ts.map plq))*f.lo[j].2 else(f.cost[j].2-dotQ (ps.map plq) (f.cols[j].ts.map plq))*f.hi[j].2)=L:=⟨_,rfl⟩
    have HL:=znd hL
    have HNx:=znd (show(bndQ f (vecL (ys.take K)) (dotQ (vecL (ys.take K)) (vecL f.b)) (fun i=>(f.cost[i]!).2) (j+1))=(bndQ f (vecL (ys.take K)) (dotQ (vecL (ys.take K)) (vecL f.b)) (fun i=>(f.cost[i]!).2) j)+L from by
     rw[←hL]
     show(bndQ f (vecL (ys.take K)) (dotQ (vecL (ys.take K)) (vecL f.b)) (fun i=>(f.cost[i]!).2) j)+lstQ ((f.cost[j]!).2) _ _ _=_
     rw[getElem!_pos f.cols j hlt,getElem!_pos f.lo j hjlo,getElem!_pos f.hi j hjhi,getElem!_pos f.cost j hjk,Hps.out]
     rfl)
    clear hL
    have HSj:=znd (show Sz (bndQ f (vecL (ys.take K)) (dotQ (vecL (ys.take K)) (vecL f.b)) (fun i=>(f.cost[i]!).2) j) T from(znF HS0.out j (fun i hi=>HSA.out i (by omega))).up (by
     have h9:=Nat.mul_le_mul_right (2*n+N+3) (show j≤12 by have:=Hs.out.cols;omega)
     rw[HTT.out];omega))
    have HSl:=znd (show Sz L T from by
     obtain⟨a1,a2,a3,a4⟩:=HSA.out j hlt
     have h9:Sz (lstQ ((f.cost[j]!).2) _ _ _) _:=znD a1 a2 a3 a4
     rw[getElem!_pos f.cols j hlt,getElem!_pos f.lo j hjlo,getElem!_pos f.hi j hjhi,←Hps.out,getElem!_pos f.cost j hjk]at h9
     rw[←HL.out]
     exact h9.up (by rw[HTT.out];omega))
    go_upto_region 7 with fail
    have c:=Env.c5 HE.out
    go_region_with (first
     |(go_at_call 101;go_must (refine(zoc _ n hn h1n f (by with_reducible first|exact HE.out.o.1|exact HE.out.drew.o.1) (w.heap.size+1) g7 (w.heap.size) g2 Ap cp ps (by first|exact HE.out.bx ⟨w.heap.size+1,101,#[.func (.func 58) #[] #[.pointer (some ⟨g2,0,none⟩)]]⟩ (by simp)|exact HE.out.drew.bx ⟨w.heap.size+1,101,#[.func (.func 58) #[] #[.pointer (some ⟨g2,0,none⟩)]]⟩ (by simp)) (by first|exact HE.out.bx ⟨g7,25,#[.slice Ap ps.length cp]⟩ (by simp)|exact HE.out.drew.bx ⟨g7,25,#[.slice Ap ps.length cp]⟩ (by simp)) (by first|exact HE.out.bx ⟨w.heap.size,32,#[.int .i64 f.M,.slice f.Ac f.cols.length f.cc,.slice f.Al f.lo.length f.cl,.slice f.Ah f.hi.length f.ch,.slice f.Ak f.cost.length f.ck,.slice f.Ab f.b.length f.cb]⟩ (by simp)|exact HE.out.drew.bx ⟨w.heap.size,32,#[.int .i64 f.M,.slice f.Ac f.cols.length f.cc,.slice f.Al f.lo.length f.cl,.slice f.Ah f.hi.length f.ch,.slice f.Ak f.cost.length f.ck,.slice f.Ab f.b.length f.cb]⟩ (by simp)) (by with_reducible first|exact HE.out.o.2.2.2|exact HE.out.drew.o.2.2.2) (HPD.out _ (by with_reducible first|exact HE.out.n.2|exact HE.out.drew.n.2)) (zfT Hps.out) (by have:=zgG Hps.out;simp at this;omega) j hlt hjlo hjhi hjk HRj.out HLj.out (by with_reducible first|exact HE.out.o.2.2.1|exact HE.out.drew.o.2.2.1)).mono ?_;rintro e w4 ⟨kl,rfl,hk,hb⟩;rw[HL.out]at hk;(first|(with_reducible (replace HE:=znd (Env.ret HE.out hk hb)))|(with_reducible (replace HE:=znd (Env.ret HE.out.drew hk hb))));replace c:=Env.c5 HE.out;clear hk hb))
     |(go_at_call 13;go_must (refine(zbL _ k kl (bndQ f (vecL (ys.take K)) (dotQ (vecL (ys.take K)) (vecL f.b)) (fun i=>(f.cost[i]!).2) j) L T (by omega) (by omega) (RatN.rat (by with_reducible first|exact HE.out.n.2.1|exact HE.out.drew.n.2.1) HSj.out) (RatN.rat (by with_reducible first|exact HE.out.n.1|exact HE.out.drew.n.1) HSl.out) (by with_reducible first|exact HE.out.o.2.2.1|exact HE.out.drew.o.2.2.1)).mono ?_;rintro e w5 ⟨k2,rfl,hk,hb⟩;(first|(with_reducible (replace HE:=znd (Env.ret HE.out hk hb)))|(with_reducible (replace HE:=znd (Env.ret HE.out.drew hk hb))));replace c:=Env.c5 HE.out;clear hk hb)))
    all_goals
     go_wp2_with fail
     go_roundw
     case rel=>
      refine⟨j+1,k2,by go_num,by omega,?_⟩
      rw[HNx.out]
      first
       |with_reducible exact znd ((HE.out.put4 _ _ _ _).imp (fun _ h=>h) (fun _ h=>⟨h.1,h.2.2.2⟩))
       |with_reducible exact znd ((HE.out.drew.put4 _ _ _ _).imp (fun _ h=>h) (fun _ h=>⟨h.1,h.2.2.2⟩))
     case measure=>(simp[intOf]<;>omega)
   ·obtain rfl:j=f.cols.length:=by omega
    have c:=Env.c5 HE.out
    go_wp2_with fail
    exact bodyPost_ret (v:=.agg #[.bool k.num.neg,.slice k.num.A k.num.k k.num.c,.bool k.den.neg,.slice k.den.A k.den.k k.den.c]) (by simp[results,Tryz.results57,go_sem,Env.c5 (HE.out.put4_2 (.bool k.num.neg) (.slice k.num.A k.num.k k.num.c) (.bool k.den.neg) (.slice k.den.A k.den.k k.den.c))]) rfl ((HE.out.put4_2 _ _ _ _).retR' rfl fun _ h=>h.1)
set_option maxRecDepth 100000 in
theorem zoe (w:World) (n:Nat) (hn:n≤700000000) (h1n:1≤n) (f:FoV) (h:FoD n f w) (hs:FSmall f) (hR:FRight f w) (Ay:Option Addr) (cy:Nat) (ys:List (RV×Rat)) (hy:LsR 4 za0 (roD n) Ay ys w) (hyl:ys.length≤30) (hyc:ys.length≤cy) (hT:Tz w):
 Calls Tryz.prog 57 #[fA f,.slice Ay ys.length cy,.func (.func 100) #[] #[]] w (RetR (bndQ f (vecL (ys.take (min ys.length f.b.length))) (dotQ (vecL (ys.take (min ys.length f.b.length))) (vecL f.b)) (fun _=>(0:Rat)) f.cols.length) w):=by
 have Hs:=znd hs
 have HR:=znd hR
 obtain⟨K,hK⟩:∃K,K=min ys.length f.b.length:=⟨_,rfl⟩
 have hM:=hR.b
 have slb:=h.b.sl
 have sly:=hy.sl
 have hszr:=zal
 have hszc:=zaw
 have hadd:=zaa
 have hmin:min (ys.length:Int) f.M=(K:Int):=by rw[hK];omega
 have HM:=znd hM
 have hKy:K≤ys.length:=by omega
 have hKc:(K:Int)≤(cy:Int):=by omega
 have hK20:K≤20:=by have:=hs.b;omega
 have HFB:=znd (fun(V:World) (h:FoD n f V)=>h.b)
 have Hsb:=znd (show∀p∈f.b,Sz p.2 n from fun p hp=>RatD.sz (h.b.ok p hp) h1n)
 have Hsy:=znd (show∀p∈ys.take K,Sz p.2 n from fun p hp=>RatD.sz (hy.ok p (List.mem_of_mem_take hp)) h1n)
 clear hM
 obtain⟨W0,hW0⟩:∃W0,W0=(((w.alloc (.cells #[.int .i64 f.M,.slice f.Ac f.cols.length f.cc,.slice f.Al f.lo.length f.cl,.slice f.Ah f.hi.length f.ch,.slice f.Ak f.cost.length f.ck,.slice f.Ab f.b.length f.cb] 32)).alloc (.cells #[.func (.func 100) #[] #[]] 101)).alloc (.cells #[.bool false,.slice none 0 0,.bool false,.slice none 0 0] 48)):=⟨_,rfl⟩
 have HE:=znd (Env.lay3 (Env.start ((h.old).and (((hy.old zbQ)).and (hT.old)))) hW0)
 subst hW0
 have c:=Env.c3 HE.out
 have dd:=Env.d3 HE.out
 rw[←hK]
 clear h hs hR hy hT hK
 unfold fA
 go_enter Tryz.func57,Tryz.ntmps57
 go_wp2_with fail
 refine(show Calls Tryz.prog 35 #[.slice Ay K cy] _ _ from by have h9:=zdY _ n (by omega) h1n Ay cy (ys.take K) (HE.out.o.2.1.take K) (by simp;omega) HE.out.o.2.2;rw[List.length_take,Nat.min_eq_left hKy]at h9;exact h9).mono ?_
 rintro e w1 ⟨Ap,cp,ps,rfl,hcp,hps,hk,hb⟩
 have Hps:=znd (show ps.map plq=vecL (ys.take K)from hps)
 replace HE:=znd (Env.ret HE.out hk hb)
 clear hk hb hps hcp c
 go_upto_region 2 with fail
 obtain⟨W1,g7,hW1,hg7,HE⟩:=Env.al HE.out 25 #[.slice Ap ps.length cp]
 rw[hW1,hg7]
 clear hW1 hg7
 go_upto_region 3 with fail
 have HC1:=znd (fun(V:World) (new:World→Prop) (h:Hid (Env w [⟨g7,25,#[.slice Ap ps.length cp]⟩,⟨w.heap.size+1+1,48,#[.bool false,.slice none 0 0,.bool false,.slice none 0 0]⟩,⟨w.heap.size+1,101,#[.func (.func 100) #[] #[]]⟩,⟨w.heap.size,32,#[.int .i64 f.M,.slice f.Ac f.cols.length f.cc,.slice f.Al f.lo.length f.cl,.slice f.Ah f.hi.length f.ch,.slice f.Ak f.cost.length f.ck,.slice f.Ab f.b.length f.cb]⟩] (fun V=>FoD n f V∧LsR 4 za0 (roD n) Ay ys V∧Tz V) (fun V=>new V) V))=>And.intro (Env.c4 h.out).1 (Env.c4 h.out).2.2.2)
 have HC2:=znd (fun(V:World) (cs:Array Value) (g:Nat) (new:World→Prop) (h:Hid (Env w [⟨g,48,cs⟩,⟨g7,25,#[.slice Ap ps.length cp]⟩,⟨w.heap.size+1+1,48,#[.bool false,.slice none 0 0,.bool false,.slice none 0 0]⟩,⟨w.heap.size+1,101,#[.func (.func 100) #[] #[]]⟩,⟨w.heap.size,32,#[.int .i64 f.M,.slice f.Ac f.cols.length f.cc,.slice f.Al f.lo.length f.cl,.slice f.Ah f.hi.length f.ch,.slice f.Ak f.cost.length f.ck,.slice f.Ab f.b.length f.cb]⟩] (fun V=>FoD n f V∧LsR 4 za0 (roD n) Ay ys V∧Tz V) new V))=>And.intro (Env.c5 h.out).2.1 (Env.c5 h.out).2.2.2.2)
 have HPD:=znd (show∀V,LsR 5 tecells teN Ap ps V→LsR 5 tecells (teD n) Ap ps V from fun V h=>h.imp fun t ht hn=>RatN.rat hn (zfQ Hps.out Hsy.out t ht))
 go_cut [9] (fun v wx=>∃g9 k,v=.pointer (some ⟨g9,0,none⟩)∧Hid (Env w [⟨g9,48,#[.bool k.num.neg,.slice k.num.A k.num.k k.num.c,.bool k.den.neg,.slice k.den.A k.den.k k.den.c]⟩,⟨g7,25,#[.slice Ap ps.length cp]⟩,⟨w.heap.size+1+1,48,#[.bool false,.slice none 0 0,.bool false,.slice none 0 0]⟩,⟨w.heap.size+1,101,#[.func (.func 100) #[] #[]]⟩,⟨w.heap.size,32,#[.int .i64 f.M,.slice f.Ac f.cols.length f.cc,.slice f.Al f.lo.length f.cl,.slice f.Ah f.hi.length f.ch,.slice f.Ak f.cost.length f.ck,.slice f.Ab f.b.length f.cb]⟩] (fun V=>FoD n f V∧LsR 4 za0 (roD n) Ay ys V∧Tz V) (fun V=>RatN k (dotQ (vecL (ys.take K)) (vecL f.b)) V∧LsR 5 tecells teN Ap ps V) wx))
 case first=>
  have c:=HC1.out _ _ HE
  go_region_held3 (fun W=>CB g7 #[.slice Ap ps.length cp] W∧CB (w.heap.size) #[.int .i64 f.M,.slice f.Ac f.cols.length f.cc,.slice f.Al f.lo.length f.cl,.slice f.Ah f.hi.length f.ch,.slice f.Ak f.cost.length f.ck,.slice f.Ab f.b.length f.cb] W) (first|with_reducible exact c|with_reducible exact HC1.out _ _ (znd HE.out)|with_reducible exact HC1.out _ _ (znd HE.out.drew)|with_reducible exact HC2.out _ _ _ _ (znd (HE.out.nn _ _))|with_reducible exact HC2.out _ _ _ _ (znd (HE.out.nn _ _).drew)|with_reducible exact HC2.out _ _ _ _ (znd (HE.out.nd_ _ _))|with_reducible exact HC2.out _ _ _ _ (znd (HE.out.put4 _ _ _ _))|with_reducible exact HC2.out _ _ _ _ (znd (HE.out.drew.put4 _ _ _ _))|((repeat' apply And.intro)<;>go_keep))
   (first
    |(go_at_call 35;go_must (refine(zdY _ n (by omega) h1n f.Ab f.cb f.b (HFB.out _ (by with_reducible first|exact HE.out.o.1|exact HE.out.drew.o.1|exact(HE.out.nn _ _).o.1|exact(HE.out.nd_ _ _).o.1|exact(HE.out.nn _ _).drew.o.1)) Hs.out.b (by with_reducible first|exact HE.out.o.2.2|exact HE.out.drew.o.2.2|exact(HE.out.nn _ _).o.2.2|exact(HE.out.nd_ _ _).o.2.2|exact(HE.out.nn _ _).drew.o.2.2)).mono ?_;rintro e w2 ⟨Aq,cq,qs,rfl,hcq,hqs,hk,hb⟩;(first|(with_reducible (replace HE:=znd (Env.ret HE.out hk hb)))|(with_reducible (replace HE:=znd (Env.ret HE.out.drew hk hb)))|(with_reducible (replace HE:=znd (Env.ret (HE.out.nn 48 #[.bool false,.slice none 0 0,.bool false,.slice none 0 0]) hk hb)))|(with_reducible (replace HE:=znd (Env.ret (HE.out.nd_ 48 #[.bool false,.slice none 0 0,.bool false,.slice none 0 0]) hk hb)))|(with_reducible (replace HE:=znd (Env.ret (HE.out.nn 48 #[.bool false,.slice none 0 0,.bool false,.slice none 0 0]).drew hk hb))));(first|(replace c:=HC1.out _ _ HE)|(replace c:=HC2.out _ _ _ _ HE));(first|(have cb:=Env.c5 HE.out)|(have cb:=Env.c4 HE.out));have Hqs:=znd (show qs.map plq=vecL f.b from hqs);clear hk hb hqs hcq))
    |(go_at_call 42;go_must (refine(zjO _ n (by omega) h1n Ap Aq cp cq ps qs (HPD.out _ (by with_reducible first|exact HE.out.n.2.1|exact HE.out.drew.n.2.1|exact(HE.out.nn _ _).n.2.1|exact(HE.out.nd_ _ _).n.2.1|exact(HE.out.nn _ _).drew.n.2.1)) ((show∀V,LsR 5 tecells teN Aq qs V→LsR 5 tecells (teD n) Aq qs V from fun V h=>h.imp fun t ht hn=>RatN.rat hn (zfQ Hqs.out Hsb.out t ht)) _ (by with_reducible first|exact HE.out.n.1|exact HE.out.drew.n.1|exact(HE.out.nn _ _).n.1|exact(HE.out.nd_ _ _).n.1|exact(HE.out.nn _ _).drew.n.1)) (zfT Hps.out) (zfT Hqs.out) (by have:=zgG Hps.out;simp at this;omega) (by have:=zgG Hqs.out;have:=Hs.out.b;omega) (by with_reducible first|exact HE.out.o.2.2|exact HE.out.drew.o.2.2|exact(HE.out.nn _ _).o.2.2|exact(HE.out.nd_ _ _).o.2.2|exact(HE.out.nn _ _).drew.o.2.2)).mono ?_;rintro e w3 ⟨kd,rfl,hk,hb⟩;rw[Hps.out,Hqs.out]at hk;(first|(with_reducible (replace HE:=znd (Env.ret HE.out hk hb)))|(with_reducible (replace HE:=znd (Env.ret HE.out.drew hk hb)))|(with_reducible (replace HE:=znd (Env.ret (HE.out.nn 48 #[.bool false,.slice none 0 0,.bool false,.slice none 0 0]) hk hb)))|(with_reducible (replace HE:=znd (Env.ret (HE.out.nd_ 48 #[.bool false,.slice none 0 0,.bool false,.slice none 0 0]) hk hb)))|(with_reducible (replace HE:=znd (Env.ret (HE.out.nn 48 #[.bool false,.slice none 0 0,.bool false,.slice none 0 0]).drew hk hb))));(first|(replace c:=HC1.out _ _ HE)|(replace c:=HC2.out _ _ _ _ HE));(first|(have cb:=Env.c5 HE.out)|(have cb:=Env.c4 HE.out));clear hk hb)))
  all_goals
   go_wp2_with fail
   go_meet
   first
    |with_reducible exact⟨_,kd,rfl,znd ((HE.out.put4 _ _ _ _).imp (fun _ h=>h) (fun _ h=>⟨h.1,h.2.2.1⟩))⟩
    |with_reducible exact⟨_,kd,rfl,znd ((HE.out.drew.put4 _ _ _ _).imp (fun _ h=>h) (fun _ h=>⟨h.1,h.2.2.1⟩))⟩
    |with_reducible exact⟨_,kd,rfl,znd ((HE.out.nn _ _).imp (fun _ h=>h) (fun _ h=>⟨h.1,h.2.2.1⟩))⟩
    |with_reducible exact⟨_,kd,rfl,znd ((HE.out.nn _ _).drew.imp (fun _ h=>h) (fun _ h=>⟨h.1,h.2.2.1⟩))⟩
    |with_reducible exact⟨_,kd,rfl,znd ((HE.out.nd_ _ _).imp (fun _ h=>h) (fun _ h=>⟨h.1,h.2.2.1⟩))⟩
 case rest=>
  clear HE
  obtain⟨g9,k,rfl,HE⟩:=hcut
  have c:=Env.c5 HE.out
  obtain⟨N,hN⟩:∃N,N=1+20*(2*n+2):=⟨_,rfl⟩
  obtain⟨T,hT⟩:∃T,T=N+12*(2*n+N+3):=⟨_,rfl⟩
  have hTb:T≤390000000000:=by omega
  have hT1:1≤T:=by omega
  have HN:=znd hN
  have HTT:=znd hT
  clear hN hT
  have HSA:=znd (show∀i,i<f.cols.length→Sz ((fun _=>(0:Rat)) i) n∧Sz (dotQ (vecL (ys.take K)) ((f.cols[i]!).ts.map plq)) N∧Sz (f.lo[i]!).2 n∧Sz (f.hi[i]!).2 n from fun i hi=>by
   have hil:i<f.lo.length:=by rw[HR.out.lo];exact hi
   have hih:i<f.hi.length:=by rw[HR.out.hi];exact hi
   have hik:i<f.cost.length:=by rw[HR.out.cost];exact hi
   rw[getElem!_pos f.cols i hi,getElem!_pos f.lo i hil,getElem!_pos f.hi i hih]
   refine⟨zaM.up h1n,?_,RatD.sz (HE.out.o.1.lo.ok _ (List.getElem_mem hil)) h1n,RatD.sz (HE.out.o.1.hi.ok _ (List.getElem_mem hih)) h1n⟩
   rw[←Hps.out,HN.out]
   refine(ziD (HR.out.col i hi).rise h1n (fun u hu=>RatD.sz ((HE.out.o.1.cols.ok _ (List.getElem_mem hi)).ok u hu) h1n) ps (zfQ Hps.out Hsy.out)).up ?_
   have h9:=zgG Hps.out
   have h10:=Nat.mul_le_mul_right (2*n+2) (show ps.length≤20 by simp at h9;omega)
   omega)
  have HS0:=znd (show Sz (dotQ (vecL (ys.take K)) (vecL f.b)) N from by
   obtain⟨qs,hqs⟩:∃qs:List TeV,qs.map plq=vecL f.b:=⟨(ofT f.b).filter nzT,filter_plq _⟩
   rw[←Hps.out,←hqs,HN.out]
   refine(ziD (zfT hqs) h1n (zfQ hqs Hsb.out) ps (zfQ Hps.out Hsy.out)).up ?_
   have h9:=zgG Hps.out
   have h10:=Nat.mul_le_mul_right (2*n+2) (show ps.length≤20 by simp at h9;omega)
   omega)
  go_wp2_with fail
  go_loopw [28] (fun jv wr=>∃(j:Nat) (k:RV),jv=.int .i64 (j:Int)∧j≤f.cols.length∧Hid (Env w [⟨g9,48,#[.bool k.num.neg,.slice k.num.A k.num.k k.num.c,.bool k.den.neg,.slice k.den.A k.den.k k.den.c]⟩,⟨g7,25,#[.slice Ap ps.length cp]⟩,⟨w.heap.size+1+1,48,#[.bool false,.slice none 0 0,.bool false,.slice none 0 0]⟩,⟨w.heap.size+1,101,#[.func (.func 100) #[] #[]]⟩,⟨w.heap.size,32,#[.int .i64 f.M,.slice f.Ac f.cols.length f.cc,.slice f.Al f.lo.length f.cl,.slice f.Ah f.hi.length f.ch,.slice f.Ak f.cost.length f.ck,.slice f.Ab f.b.length f.cb]⟩] (fun V=>FoD n f V∧LsR 4 za0 (roD n) Ay ys V∧Tz V) (fun V=>RatN k (bndQ f (vecL (ys.take K)) (dotQ (vecL (ys.take K)) (vecL f.b)) (fun _=>(0:Rat)) j) V∧LsR 5 tecells teN Ap ps V) wr)) (fun jv _=>f.cols.length-(intOf jv).toNat)
  case atStart=>exact⟨0,k,rfl,Nat.zero_le _,HE⟩
  case round=>
   clear HE c
   obtain⟨j,k,rfl,hj,HE⟩:=hrel
   by_cases hlt:j<f.cols.length
   ·have hc12:=Hs.out.cols
    have hjlo:j<f.lo.length:=by rw[HR.out.lo];exact hlt
    have hjhi:j<f.hi.length:=by rw[HR.out.hi];exact hlt
    have HRj:=znd (HR.out.col j hlt).rise
    have HLj:=znd (show f.cols[j].ts.length≤1000000 by have:=Hs.out.col _ (List.getElem_mem hlt);omega)
    obtain⟨L,hL⟩:∃L,(if 0≤((0:Rat)-dotQ (ps.map plq) (f.cols[j].ts.map plq)).num.sign then((0:Rat)-dotQ (ps.map plq) (f.cols[j].ts.map plq))*f.lo[j].2 else((0:Rat)-dotQ (ps.map plq) (f.cols[j].ts.map plq))*f.hi[j].2)=L:=⟨_,rfl⟩
    have HL:=znd hL
    have HNx:=znd (show(bndQ f (vecL (ys.take K)) (dotQ (vecL (ys.take K)) (vecL f.b)) (fun _=>(0:Rat)) (j+1))=(bndQ f (vecL (ys.take K)) (dotQ (vecL (ys.take K)) (vecL f.b)) (fun _=>(0:Rat)) j)+L from by
     rw[←hL]
     show(bndQ f (vecL (ys.take K)) (dotQ (vecL (ys.take K)) (vecL f.b)) (fun _=>(0:Rat)) j)+lstQ 0 _ _ _=_
     rw[getElem!_pos f.cols j hlt,getElem!_pos f.lo j hjlo,getElem!_pos f.hi j hjhi,Hps.out]
     rfl)
    clear hL
    have HSj:=znd (show Sz (bndQ f (vecL (ys.take K)) (dotQ (vecL (ys.take K)) (vecL f.b)) (fun _=>(0:Rat)) j) T from(znF HS0.out j (fun i hi=>HSA.out i (by omega))).up (by
     have h9:=Nat.mul_le_mul_right (2*n+N+3) (show j≤12 by have:=Hs.out.cols;omega)
     rw[HTT.out];omega))
    have HSl:=znd (show Sz L T from by
     obtain⟨a1,a2,a3,a4⟩:=HSA.out j hlt
     have h9:Sz (lstQ 0 _ _ _) _:=znD a1 a2 a3 a4
     rw[getElem!_pos f.cols j hlt,getElem!_pos f.lo j hjlo,getElem!_pos f.hi j hjhi,←Hps.out]at h9
     rw[←HL.out]
     exact h9.up (by rw[HTT.out];omega))
    go_upto_region 7 with fail
    have c:=Env.c5 HE.out
    go_region_with (first
     |(go_at_call 101;go_must (refine(zo9 _ n hn h1n f (by with_reducible first|exact HE.out.o.1|exact HE.out.drew.o.1) (w.heap.size+1) g7 (w.heap.size) Ap cp ps (by first|exact HE.out.bx ⟨w.heap.size+1,101,#[.func (.func 100) #[] #[]]⟩ (by simp)|exact HE.out.drew.bx ⟨w.heap.size+1,101,#[.func (.func 100) #[] #[]]⟩ (by simp)) (by first|exact HE.out.bx ⟨g7,25,#[.slice Ap ps.length cp]⟩ (by simp)|exact HE.out.drew.bx ⟨g7,25,#[.slice Ap ps.length cp]⟩ (by simp)) (by first|exact HE.out.bx ⟨w.heap.size,32,#[.int .i64 f.M,.slice f.Ac f.cols.length f.cc,.slice f.Al f.lo.length f.cl,.slice f.Ah f.hi.length f.ch,.slice f.Ak f.cost.length f.ck,.slice f.Ab f.b.length f.cb]⟩ (by simp)|exact HE.out.drew.bx ⟨w.heap.size,32,#[.int .i64 f.M,.slice f.Ac f.cols.length f.cc,.slice f.Al f.lo.length f.cl,.slice f.Ah f.hi.length f.ch,.slice f.Ak f.cost.length f.ck,.slice f.Ab f.b.length f.cb]⟩ (by simp)) (HPD.out _ (by with_reducible first|exact HE.out.n.2|exact HE.out.drew.n.2)) (zfT Hps.out) (by have:=zgG Hps.out;simp at this;omega) j hlt hjlo hjhi HRj.out HLj.out (by with_reducible first|exact HE.out.o.2.2|exact HE.out.drew.o.2.2)).mono ?_;rintro e w4 ⟨kl,rfl,hk,hb⟩;rw[HL.out]at hk;(first|(with_reducible (replace HE:=znd (Env.ret HE.out hk hb)))|(with_reducible (replace HE:=znd (Env.ret HE.out.drew hk hb))));replace c:=Env.c5 HE.out;clear hk hb))
     |(go_at_call 13;go_must (refine(zbL _ k kl (bndQ f (vecL (ys.take K)) (dotQ (vecL (ys.take K)) (vecL f.b)) (fun _=>(0:Rat)) j) L T (by omega) (by omega) (RatN.rat (by with_reducible first|exact HE.out.n.2.1|exact HE.out.drew.n.2.1) HSj.out) (RatN.rat (by with_reducible first|exact HE.out.n.1|exact HE.out.drew.n.1) HSl.out) (by with_reducible first|exact HE.out.o.2.2|exact HE.out.drew.o.2.2)).mono ?_;rintro e w5 ⟨k2,rfl,hk,hb⟩;(first|(with_reducible (replace HE:=znd (Env.ret HE.out hk hb)))|(with_reducible (replace HE:=znd (Env.ret HE.out.drew hk hb))));replace c:=Env.c5 HE.out;clear hk hb)))
    all_goals
     go_wp2_with fail
     go_roundw
     case rel=>
      refine⟨j+1,k2,by go_num,by omega,?_⟩
      rw[HNx.out]
      first
       |with_reducible exact znd ((HE.out.put4 _ _ _ _).imp (fun _ h=>h) (fun _ h=>⟨h.1,h.2.2.2⟩))
       |with_reducible exact znd ((HE.out.drew.put4 _ _ _ _).imp (fun _ h=>h) (fun _ h=>⟨h.1,h.2.2.2⟩))
     case measure=>(simp[intOf]<;>omega)
   ·obtain rfl:j=f.cols.length:=by omega
    have c:=Env.c5 HE.out
    go_wp2_with fail
    exact bodyPost_ret (v:=.agg #[.bool k.num.neg,.slice k.num.A k.num.k k.num.c,.bool k.den.neg,.slice k.den.A k.den.k k.den.c]) (by simp[results,Tryz.results57,go_sem,Env.c5 (HE.out.put4_2 (.bool k.num.neg) (.slice k.num.A k.num.k k.num.c) (.bool k.den.neg) (.slice k.den.A k.den.k k.den.c))]) rfl ((HE.out.put4_2 _ _ _ _).retR' rfl fun _ h=>h.1)

theorem FRight.same {n:Nat} {f:FoV} {w W:World} (h:FoD n f w) (hb:Below w.heap.size w W):FRight f W↔FRight f w:=by
 constructor
 ·rintro⟨h1,h2,h3,h4,h5,h6,h7⟩
  exact⟨h1,h2,h3,h4,h5,fun j hj=>(RightP.same (h.cols.ok _ (List.getElem_mem hj)) hb).1 (h6 j hj),h7⟩
 ·rintro⟨h1,h2,h3,h4,h5,h6,h7⟩
  exact⟨h1,h2,h3,h4,h5,fun j hj=>(RightP.same (h.cols.ok _ (List.getElem_mem hj)) hb).2 (h6 j hj),h7⟩
set_option maxRecDepth 100000 in
theorem zns (w:World) (n:Nat) (hn:n≤700000000) (h1n:1≤n) (f:FoV) (h:FoD n f w) (hs:FSmall f) (Ay:Option Addr) (cy:Nat) (ys:List (RV×Rat)) (hy:LsR 4 za0 (roD n) Ay ys w) (hyl:ys.length≤30) (hyc:ys.length≤cy) (hT:Tz w) (hR:FRight f w):
 Calls Tryz.prog 20 #[fA f,.slice Ay ys.length cy] w (RetR (bndQ f (vecL (ys.take (min ys.length f.b.length))) (dotQ (vecL (ys.take (min ys.length f.b.length))) (vecL f.b)) (fun i=>(f.cost[i]!).2) f.cols.length) w):=by
 have Hs:=znd hs
 have HR:=znd hR
 have Hf:=znd h
 obtain⟨Q,hQ⟩:∃Q,(bndQ f (vecL (ys.take (min ys.length f.b.length))) (dotQ (vecL (ys.take (min ys.length f.b.length))) (vecL f.b)) (fun i=>(f.cost[i]!).2) f.cols.length)=Q:=⟨_,rfl⟩
 have HQ:=znd hQ
 rw[hQ]
 have HE:=znd (lyFZ f ((h.old).and (((hy.old zbQ)).and (hT.old))))
 have c:=Env.c2 HE.out
 have dd:=Env.d2 HE.out
 clear h hs hR hy hT hQ
 unfold fA
 go_enter Tryz.func20,Tryz.ntmps20
 go_wp2_with fail
 refine(zcA _ n (by omega) h1n f HE.out.o.1 Hs.out HE.out.o.2.2).mono ?_
 rintro e w1 ⟨⟨z,rfl,hz⟩,hb⟩
 have hR1:=FRight.same Hf.out HE.out.bel
 replace HE:=znd (Env.call HE.out hb)
 replace c:=Env.c2 HE.out
 clear hb
 obtain⟨rfl,-⟩:z=0∧True:=by
  rcases hz with⟨h9,-⟩|⟨-,h9⟩
  ·exact⟨h9,trivial⟩
  ·exact absurd (hR1.2 HR.out) h9
 clear hz hR1
 go_wp2_with fail
 refine(zo7 _ n hn h1n f HE.out.o.1 Hs.out ((FRight.same Hf.out HE.out.bel).2 HR.out) Ay cy ys HE.out.o.2.1 hyl hyc (w.heap.size) (HE.out.bx ⟨w.heap.size,32,#[.int .i64 f.M,.slice f.Ac f.cols.length f.cc,.slice f.Al f.lo.length f.cl,.slice f.Ah f.hi.length f.ch,.slice f.Ak f.cost.length f.ck,.slice f.Ab f.b.length f.cb]⟩ (by simp)) HE.out.o.2.2).mono ?_
 rintro e w2 ⟨k,rfl,hk,hb⟩
 rw[HQ.out]at hk
 replace HE:=znd (Env.ret HE.out hk hb)
 replace c:=Env.c2 HE.out
 clear hk hb
 go_wp2_with fail
 exact bodyPost_ret (v:=.agg #[.bool k.num.neg,.slice k.num.A k.num.k k.num.c,.bool k.den.neg,.slice k.den.A k.den.k k.den.c]) (by simp[results,Tryz.results20,go_sem,Env.c2 (HE.out.put4 (.bool k.num.neg) (.slice k.num.A k.num.k k.num.c) (.bool k.den.neg) (.slice k.den.A k.den.k k.den.c))]) rfl ((HE.out.put4 _ _ _ _).retR' rfl fun _ h=>h.1)
def bndT (n:Nat):Nat:=(1+20*(2*n+2))+12*(2*n+(1+20*(2*n+2))+3)
theorem znQ {n:Nat} (hn:n≤700000000):bndT n≤390000000000:=by unfold bndT;omega
theorem zo2 (n:Nat):1≤bndT n:=by unfold bndT;omega
theorem zo4 {n:Nat} {f:FoV} {w:World} {Ay:Option Addr} {ys:List (RV×Rat)} {cq:Nat→Rat} (h1n:1≤n) (h:FoD n f w) (hs:FSmall f) (hR:FRight f w) (hy:LsR 4 za0 (roD n) Ay ys w) {K:Nat} (hK:K≤20) (hc:∀i,i<f.cols.length→Sz (cq i) n):
 Sz (bndQ f (vecL (ys.take K)) (dotQ (vecL (ys.take K)) (vecL f.b)) cq f.cols.length) (bndT n):=by
 obtain⟨ps,hps⟩:∃ps:List TeV,ps.map plq=vecL (ys.take K):=⟨(ofT (ys.take K)).filter nzT,filter_plq _⟩
 obtain⟨qs,hqs⟩:∃qs:List TeV,qs.map plq=vecL f.b:=⟨(ofT f.b).filter nzT,filter_plq _⟩
 have hsy:∀p∈ys.take K,Sz p.2 n:=fun p hp=>RatD.sz (hy.ok p (List.mem_of_mem_take hp)) h1n
 have hsb:∀p∈f.b,Sz p.2 n:=fun p hp=>RatD.sz (h.b.ok p hp) h1n
 have hlp:ps.length*(2*n+2)≤20*(2*n+2):=Nat.mul_le_mul_right _ (by have:=zgG hps;simp at this;omega)
 have h0:Sz (dotQ (vecL (ys.take K)) (vecL f.b)) (1+20*(2*n+2)):=by
  rw[←hps,←hqs]
  exact(ziD (zfT hqs) h1n (zfQ hqs hsb) ps (zfQ hps hsy)).up (by omega)
 refine(znF (n:=n) h0 f.cols.length fun i hi=>?_).up ?_
 ·have hil:i<f.lo.length:=by rw[hR.lo];exact hi
  have hih:i<f.hi.length:=by rw[hR.hi];exact hi
  rw[getElem!_pos f.cols i hi,getElem!_pos f.lo i hil,getElem!_pos f.hi i hih]
  refine⟨hc i hi,?_,RatD.sz (h.lo.ok _ (List.getElem_mem hil)) h1n,RatD.sz (h.hi.ok _ (List.getElem_mem hih)) h1n⟩
  rw[←hps]
  exact(ziD (hR.col i hi).rise h1n (fun u hu=>RatD.sz ((h.cols.ok _ (List.getElem_mem hi)).ok u hu) h1n) ps (zfQ hps hsy)).up (by omega)
 ·unfold bndT
  have:=Nat.mul_le_mul_right (2*n+(1+20*(2*n+2))+3) hs.cols
  omega
set_option maxRecDepth 100000 in
theorem znC (w:World) (n:Nat) (hn:n≤700000000) (h1n:1≤n) (f:FoV) (h:FoD n f w) (hs:FSmall f) (Ay:Option Addr) (cy:Nat) (ys:List (RV×Rat)) (hy:LsR 4 za0 (roD n) Ay ys w) (hyl:ys.length≤30) (hyc:ys.length≤cy) (hT:Tz w) (hR:FRight f w):
 Calls Tryz.prog 56 #[fA f,.slice Ay ys.length cy] w fun e w'=>zaR (FRight f w∧0<(bndQ f (vecL (ys.take (min ys.length f.b.length))) (dotQ (vecL (ys.take (min ys.length f.b.length))) (vecL f.b)) (fun _=>(0:Rat)) f.cols.length).num.sign) e∧Below w.heap.size w w':=by
 have hsz:=zo4 h1n h hs hR hy (K:=min ys.length f.b.length) (by have:=hs.b;omega) (cq:=fun _=>(0:Rat)) (fun _ _=>zaM.up h1n)
 have Hs:=znd hs
 have HR:=znd hR
 have Hf:=znd h
 obtain⟨Q,hQ⟩:∃Q,(bndQ f (vecL (ys.take (min ys.length f.b.length))) (dotQ (vecL (ys.take (min ys.length f.b.length))) (vecL f.b)) (fun _=>(0:Rat)) f.cols.length)=Q:=⟨_,rfl⟩
 have HQ:=znd hQ
 rw[hQ]at hsz
 rw[hQ]
 have Hsz:=znd hsz
 obtain⟨B,hB⟩:∃B:Bool,decide (0<Q.num.sign)=B:=⟨_,rfl⟩
 have HB:=znd hB
 have HE:=znd (lyF f ((h.old).and (((hy.old zbQ)).and (hT.old))))
 have c:=Env.c1 HE.out
 clear h hs hR hy hT hQ hsz hB
 unfold fA
 go_enter Tryz.func56,Tryz.ntmps56
 go_wp2_with fail
 refine(zcA _ n (by omega) h1n f HE.out.o.1 Hs.out HE.out.o.2.2).mono ?_
 rintro e w1 ⟨⟨z,rfl,hz⟩,hb⟩
 have hR1:=FRight.same Hf.out HE.out.bel
 replace HE:=znd (Env.call HE.out hb)
 replace c:=Env.c1 HE.out
 clear hb
 obtain⟨rfl,-⟩:z=0∧True:=by
  rcases hz with⟨h9,-⟩|⟨-,h9⟩
  ·exact⟨h9,trivial⟩
  ·exact absurd (hR1.2 HR.out) h9
 clear hz hR1
 go_wp2_with fail
 refine(zoe _ n hn h1n f HE.out.o.1 Hs.out ((FRight.same Hf.out HE.out.bel).2 HR.out) Ay cy ys HE.out.o.2.1 hyl hyc HE.out.o.2.2).mono ?_
 rintro e w2 ⟨k,rfl,hk,hb⟩
 rw[HQ.out]at hk
 replace HE:=znd (Env.ret HE.out hk hb)
 replace c:=Env.c1 HE.out
 clear hk hb
 go_wp2_with fail
 refine(zaV _ k Q (bndT n) (by have:=znQ hn;omega) (RatN.rat HE.out.n.1 Hsz.out)).mono ?_
 rintro e w3 ⟨rfl,hb⟩
 replace HE:=znd (Env.call HE.out hb)
 replace c:=Env.c1 HE.out
 clear hb
 go_wp2_with fail
 exact bodyPost_ret (v:=.bool B) (by simp[results,Tryz.results56,go_sem,←HB.out]) rfl ⟨za7 B ⟨fun h9=>⟨HR.out,by have h8:=HB.out;rw[h9]at h8;exact of_decide_eq_true h8⟩,fun h9=>by rw[←HB.out];exact decide_eq_true h9.2⟩,HE.out.bel⟩
set_option maxRecDepth 100000 in
theorem znM (w:World) (n:Nat) (hn:n≤700000000) (h1n:1≤n) (f:FoV) (h:FoD n f w) (hs:FSmall f) (Ay:Option Addr) (cy:Nat) (ys:List (RV×Rat)) (hy:LsR 4 za0 (roD n) Ay ys w) (_hyl:ys.length≤30) (_hyc:ys.length≤cy) (hT:Tz w) (hR:¬FRight f w):
 Calls Tryz.prog 56 #[fA f,.slice Ay ys.length cy] w fun e w'=>zaR (FRight f w∧0<(bndQ f (vecL (ys.take (min ys.length f.b.length))) (dotQ (vecL (ys.take (min ys.length f.b.length))) (vecL f.b)) (fun _=>(0:Rat)) f.cols.length).num.sign) e∧Below w.heap.size w w':=by
 have Hs:=znd hs
 have HR:=znd hR
 have Hf:=znd h
 have HE:=znd (lyF f ((h.old).and (((hy.old zbQ)).and (hT.old))))
 have c:=Env.c1 HE.out
 clear h hs hR hy hT
 unfold fA
 go_enter Tryz.func56,Tryz.ntmps56
 go_wp2_with fail
 refine(zcA _ n (by omega) h1n f HE.out.o.1 Hs.out HE.out.o.2.2).mono ?_
 rintro e w1 ⟨⟨z,rfl,hz⟩,hb⟩
 have hR1:=FRight.same Hf.out HE.out.bel
 replace HE:=znd (Env.call HE.out hb)
 replace c:=Env.c1 HE.out
 clear hb
 obtain⟨rfl,-⟩:z=101∧True:=by
  rcases hz with⟨-,h9⟩|⟨h9,-⟩
  ·exact absurd (hR1.1 h9) HR.out
  ·exact⟨h9,trivial⟩
 clear hz hR1
 go_wp2_with fail
 exact bodyPost_ret (v:=.bool false) (by simp[results,Tryz.results56,go_sem]) rfl ⟨za7 false ⟨fun h9=>absurd h9 (by decide),fun h9=>absurd h9.1 HR.out⟩,HE.out.bel⟩
theorem znq (w:World) (n:Nat) (hn:n≤700000000) (h1n:1≤n) (f:FoV) (h:FoD n f w) (hs:FSmall f) (Ay:Option Addr) (cy:Nat) (ys:List (RV×Rat)) (hy:LsR 4 za0 (roD n) Ay ys w) (hyl:ys.length≤30) (hyc:ys.length≤cy) (hT:Tz w):
 Calls Tryz.prog 56 #[fA f,.slice Ay ys.length cy] w fun e w'=>zaR (FRight f w∧0<(bndQ f (vecL (ys.take (min ys.length f.b.length))) (dotQ (vecL (ys.take (min ys.length f.b.length))) (vecL f.b)) (fun _=>(0:Rat)) f.cols.length).num.sign) e∧Below w.heap.size w w':=by
 by_cases hR:FRight f w
 ·exact znC w n hn h1n f h hs Ay cy ys hy hyl hyc hT hR
 ·exact znM w n hn h1n f h hs Ay cy ys hy hyl hyc hT hR

def AddRes (F:Int→Rat) (N L g:Nat) (w:World) (e:Ending) (w':World):Prop:=
 ∃W1 A c ts,e=.returned (.tuple #[])∧w'=W1.setCell ⟨g,0,none⟩ (.slice A (List.length ts) c)∧Rise ts∧(∀t∈ts,nzT t=true∧Sz t.q N)∧ts.length≤L∧(∀a,getQ (ts.map plq) a=F a)∧Rests W1 (w.heap.size≤·) (LsR 5 tecells teN A ts)∧Below w.heap.size w W1
theorem RetC.open {F:Int→Rat} {N L:Nat} {w:World} {e:Ending} {w':World} (h:RetC F N L w e w'):∃A c ts,e=.returned (.slice A (List.length ts) c)∧(Rise ts∧(∀t∈ts,nzT t=true∧Sz t.q N)∧ts.length≤L∧(∀a,getQ (ts.map plq) a=F a))∧Rests w' (w.heap.size≤·) (LsR 5 tecells teN A ts)∧Below w.heap.size w w':=by
 obtain⟨us,h1,h2,h3,h4,A,c,ts,rfl,_,hts,hk,hb⟩:=h
 subst hts
 exact⟨A,c,ts,rfl,⟨zcY rfl h1,fun t ht=>h2 _ (List.mem_map_of_mem ht),by simpa using h3,h4⟩,hk,hb⟩
theorem AddRes.mk {w W1:World} {old nw:World→Prop} {A:Option Addr} {c N L g:Nat} {ts:List TeV} {F:Int→Rat} (HE:Env w [] old (fun V=>LsR 5 tecells teN A ts V∧nw V) W1) (H:Rise ts∧(∀t∈ts,nzT t=true∧Sz t.q N)∧ts.length≤L∧(∀a,getQ (ts.map plq) a=F a)):AddRes F N L g w (.returned (.tuple #[])) (W1.setCell ⟨g,0,none⟩ (.slice A (List.length ts) c)):=
 ⟨W1,A,c,ts,rfl,rfl,H.1,H.2.1,H.2.2.1,H.2.2.2,(HE.rsn.imp fun _ h=>h.1).mono fun _ h=>h.1,HE.bel⟩
set_option maxRecDepth 100000 in
theorem zje (w:World) (n m:Nat) (hn:n≤49000000000) (hm:m≤1000000000) (h1n:1≤n) (h1m:1≤m) (f:FoV) (gs gx gf:Nat) (As Ax:Option Addr) (cs cx:Nat) (ss:List TeV) (xs:List (RV×Rat)) (hgs:Blk w gs 25 #[.slice As ss.length cs]) (hgx:Blk w gx 30 #[.slice Ax xs.length cx]) (hgf:Blk w gf 32 #[.int .i64 f.M,.slice f.Ac f.cols.length f.cc,.slice f.Al f.lo.length f.cl,.slice f.Ah f.hi.length f.ch,.slice f.Ak f.cost.length f.ck,.slice f.Ab f.b.length f.cb]) (h:FoD m f w) (hx:LsR 4 za0 (roD m) Ax xs w) (hss:LsR 5 tecells (teD n) As ss w) (hrs:Rise ss) (hls:ss.length≤20)
 (j:Nat) (hj:j<f.cols.length) (hjx:j<xs.length) (hrv:Rise f.cols[j].ts) (hvl:f.cols[j].ts.length≤1000) (hT:Tz w):
 Calls Tryz.prog 59 #[.int .i64 (j:Int),.pointer (some ⟨gs,0,none⟩),.pointer (some ⟨gx,0,none⟩),.pointer (some ⟨gf,0,none⟩)] w (AddRes (fun a=>getQ (ss.map plq) a+xs[j].2*getQ (f.cols[j].ts.map plq) a) (n+(2*m+1)+1) (ss.length+f.cols[j].ts.length) gs w):=by
 have slc:=h.cols.sl
 have slx:=hx.sl
 have hszc:=zaw
 have hszr:=zal
 have hadd:=zaa
 have cv0:=h.cols.vc j hj
 have cx0:=hx.rc j hjx
 obtain⟨v,hv⟩:∃v,v=f.cols[j]:=⟨_,rfl⟩
 have Hmv:=znd (show v∈f.cols by rw[hv];exact List.getElem_mem hj)
 obtain⟨p,hp⟩:∃p,p=xs[j]:=⟨_,rfl⟩
 have Hmp:=znd (show p∈xs by rw[hp];exact List.getElem_mem hjx)
 rw[←hv]at cv0 hrv hvl⊢
 rw[←hp]at cx0⊢
 have HVE:=znd (show∀V,FoD m f V→LsR 5 tecells (teD m) v.A v.ts V from fun V h=>h.cols.ok v Hmv.out)
 have HXE:=znd (show∀V,LsR 4 za0 (roD m) Ax xs V→RatD p.1 p.2 m V from fun V h=>h.ok p Hmp.out)
 have Hrv:=znd hrv
 have Hrs:=znd hrs
 have Hls:=znd hls
 have Hvl:=znd hvl
 have cs0:=Blk.cb hgs
 have cg0:=Blk.cb hgx
 have cf0:=Blk.cb hgf
 have HE:=znd (Env.start (hgs.old.and (hgx.old.and (hgf.old.and (h.old.and ((hx.old zbQ).and ((hss.old zah).and hT.old)))))))
 clear hgs hgx hgf h hx hss hT hv hp hrv hrs hvl hls
 go_enter Tryz.func59,Tryz.ntmps59
 go_wp2_with fail
 go_region_with (first
  |(go_at_call 12;go_must (refine(zdp _ n m hn (by omega) h1n h1m As v.A cs v.c ss v.ts p.1 p.2 (by with_reducible first|exact HE.out.o.2.2.2.2.2.1|exact HE.out.drew.o.2.2.2.2.2.1) (HVE.out _ (by with_reducible first|exact HE.out.o.2.2.2.1|exact HE.out.drew.o.2.2.2.1)) (HXE.out _ (by with_reducible first|exact HE.out.o.2.2.2.2.1|exact HE.out.drew.o.2.2.2.2.1)) Hrs.out Hrv.out Hls.out Hvl.out (by with_reducible first|exact HE.out.o.2.2.2.2.2.2|exact HE.out.drew.o.2.2.2.2.2.2)).mono ?_;rintro e w1 hret;obtain⟨A,c,ts,rfl,hres,hk,hb⟩:=RetC.open hret;clear hret;replace HE:=znd (Env.ret (by with_reducible first|exact HE.out|exact HE.out.drew) hk hb);have Hres:=znd hres;have cs1:=Blk.cb HE.out.o.1;clear hk hb hres)))
 all_goals
  go_wp2_with fail
  refine bodyPost_ret (v:=.tuple #[]) ?_ rfl ?_
  ·simp[results,Tryz.results59,go_sem]
  ·first
    |with_reducible exact AddRes.mk HE.out Hres.out
    |with_reducible exact AddRes.mk HE.out.drew Hres.out

theorem zaO (p:Int×Rat) (l:List (Int×Rat)) (a:Int):getQ (p::l) a=(if p.1=a then p.2 else 0)+getQ l a:=by
 rw[←List.singleton_append,zaB,zaY]
theorem zfs {p:Int×Rat} (h:nzP p=true):p.2≠0:=by
 intro e
 unfold nzP at h
 rw[e]at h
 exact absurd h (by decide)
theorem zaW {l:List (Int×Rat)} {a:Int} (h:∀p∈l,a<p.1):getQ l a=0:=zan fun p hp e=>by have:=h p hp;omega
theorem zgX:∀{P Q:List (Int×Rat)},P.Pairwise (fun p q=>p.1<q.1)→Q.Pairwise (fun p q=>p.1<q.1)→(∀p∈P,nzP p=true)→(∀p∈Q,nzP p=true)→(∀a,getQ P a=getQ Q a)→P=Q
 |[],[],_,_,_,_,_=>rfl
 |[],q::Q,_,hq,_,nq,h=>by
  exfalso
  have h1:=h q.1
  rw[zaO,if_pos rfl,zaW (List.pairwise_cons.1 hq).1,Rat.add_zero]at h1
  exact zfs (nq q (List.mem_cons_self ..)) h1.symm
 |p::P,[],hp,_,np,_,h=>by
  exfalso
  have h1:=h p.1
  rw[zaO,if_pos rfl,zaW (List.pairwise_cons.1 hp).1,Rat.add_zero]at h1
  exact zfs (np p (List.mem_cons_self ..)) h1
 |p::P,q::Q,hp,hq,np,nq,h=>by
  have hp':=List.pairwise_cons.1 hp
  have hq':=List.pairwise_cons.1 hq
  have e:p.1=q.1:=by
   by_cases h1:p.1<q.1
   ·have h2:=h p.1
    rw[zaO,if_pos rfl,zaW hp'.1,Rat.add_zero,zaO,if_neg (by omega),zaW fun x hx=>by have:=hq'.1 x hx;omega,Rat.add_zero]at h2
    exact absurd h2 (zfs (np p (List.mem_cons_self ..)))
   ·by_cases h3:q.1<p.1
    ·have h2:=h q.1
     rw[zaO,if_neg (by omega),zaW fun x hx=>by have:=hp'.1 x hx;omega,zaO,if_pos rfl,zaW hq'.1,Rat.add_zero,Rat.add_zero]at h2
     exact absurd h2.symm (zfs (nq q (List.mem_cons_self ..)))
    ·omega
  have e2:p.2=q.2:=by
   have h2:=h p.1
   rw[zaO,if_pos rfl,zaW hp'.1,zaO,if_pos e.symm,zaW fun x hx=>by rw[e];exact hq'.1 x hx,Rat.add_zero,Rat.add_zero]at h2
   exact h2
  have e3:p=q:=Prod.ext e e2
  subst e3
  rw[zgX hp'.2 hq'.2 (fun x hx=>np x (List.mem_cons_of_mem _ hx)) (fun x hx=>nq x (List.mem_cons_of_mem _ hx)) fun a=>by
   have h2:=h a
   rw[zaO,zaO]at h2
   exact Rat.add_left_cancel _ h2]
theorem zbK (ys:List (RV×Rat)) (i:Nat) (hi:i<ys.length):getQ ((ofT ys).map plq) (i:Int)=ys[i].2:=by
 have h1:i<(ofT ys).length:=by rw[zbw];exact hi
 have h2:=(zcZ ys).get_at h1
 rw[zem ys i hi]at h2
 exact h2
theorem zce (ys:List (RV×Rat)) (a:Int) (h:a<0∨(ys.length:Int)≤a):getQ ((ofT ys).map plq) a=0:=zan fun p hp=>by
 obtain⟨t,ht,rfl⟩:=List.mem_map.1 hp
 obtain⟨j,hj,rfl⟩:=List.mem_iff_getElem.1 ht
 have hj':j<ys.length:=by rwa [zbw]at hj
 rw[zem ys j hj']
 show(j:Int)≠a
 omega
theorem zbY (ys:List (RV×Rat)) (a:Int):getQ (vecL ys) a=getQ ((ofT ys).map plq) a:=by
 unfold vecL;rw[zbB]
theorem zdu:∀{l:List TeV} {lo hi:Int},Rise l→(∀t∈l,lo≤t.pl∧t.pl<hi)→l.length≤(hi-lo).toNat
 |[],_,_,_,_=>Nat.zero_le _
 |t::l,lo,hi,hr,h=>by
  have hr':=List.pairwise_cons.1 hr
  have h1:=zdu (l:=l) (lo:=t.pl+1) (hi:=hi) hr'.2 fun u hu=>⟨by have:=hr'.1 u hu;omega,(h u (List.mem_cons_of_mem _ hu)).2⟩
  have h2:=h t (List.mem_cons_self ..)
  rw[List.length_cons]
  omega
theorem zdI {ts:List TeV} {M a:Int} (h:∀t∈ts,0≤t.pl∧t.pl<M) (ha:a<0∨M≤a):getQ (ts.map plq) a=0:=zan fun p hp=>by
 obtain⟨t,ht,rfl⟩:=List.mem_map.1 hp
 have:=h t ht
 show t.pl≠a
 omega
theorem zkP {ts:List TeV} {M:Int} (hr:Rise ts) (hz:∀t∈ts,nzT t=true) (h:∀a,(a<0∨M≤a)→getQ (ts.map plq) a=0):∀t∈ts,0≤t.pl∧t.pl<M:=fun t ht=>by
 obtain⟨j,hj,rfl⟩:=List.mem_iff_getElem.1 ht
 have h1:=hr.get_at hj
 by_cases h2:ts[j].pl<0∨M≤ts[j].pl
 ·rw[h _ h2]at h1
  exact absurd h1.symm (zfs (p:=plq ts[j]) (hz _ ht))
 ·omega
def sumQ (f:FoV) (xs:List (RV×Rat)) (a:Int):Nat→Rat
 |0=>0
 |k+1=>sumQ f xs a k+(xs[k]!).2*getQ ((f.cols[k]!).ts.map plq) a
structure FeasP (f:FoV) (xs:List (RV×Rat)) (w:World):Prop where
 right:FRight f w
 len:xs.length=f.cols.length
 lo:∀j (h:j<xs.length) (h':j<f.lo.length),¬cmpQ xs[j].2 f.lo[j].2<0
 hi:∀j (h:j<xs.length) (h':j<f.hi.length),¬0<cmpQ xs[j].2 f.hi[j].2
 eq:∀i (h:i<f.b.length),sumQ f xs (i:Int) f.cols.length=f.b[i].2
structure FI (n:Nat) (f:FoV) (xs:List (RV×Rat)) (j:Nat) (ss:List TeV):Prop where
 rise:Rise ss
 nz:∀t∈ss,nzT t=true
 sz:∀t∈ss,Sz t.q (1+j*(2*n+2))
 rng:∀t∈ss,0≤t.pl∧t.pl<f.M
 get:∀a,getQ (ss.map plq) a=sumQ f xs a j
 lo:∀k (h:k<xs.length) (h':k<f.lo.length),k<j→¬cmpQ xs[k].2 f.lo[k].2<0
 hi:∀k (h:k<xs.length) (h':k<f.hi.length),k<j→¬0<cmpQ xs[k].2 f.hi[k].2
theorem FI.start (n:Nat) (f:FoV) (xs:List (RV×Rat)):FI n f xs 0 []:=⟨.nil,by simp,by simp,by simp,fun _=>rfl,fun _ _ _ h=>absurd h (Nat.not_lt_zero _),fun _ _ _ h=>absurd h (Nat.not_lt_zero _)⟩
theorem FI.len {n:Nat} {f:FoV} {xs:List (RV×Rat)} {j:Nat} {ss:List TeV} (h:FI n f xs j ss) (hM:f.M≤5):ss.length≤5:=by
 have:=zdu h.rise h.rng
 omega
theorem FI.next {n:Nat} {f:FoV} {xs:List (RV×Rat)} {j:Nat} {ss us:List TeV} {w:World} (h:FI n f xs j ss) (hR:FRight f w) (hj:j<f.cols.length) (hjx:j<xs.length) (hjl:j<f.lo.length) (hjh:j<f.hi.length)
 (h1:Rise us) (h2:∀t∈us,nzT t=true∧Sz t.q ((1+j*(2*n+2))+(2*n+1)+1)) (h3:∀a,getQ (us.map plq) a=getQ (ss.map plq) a+xs[j].2*getQ (f.cols[j].ts.map plq) a) (h4:¬cmpQ xs[j].2 f.lo[j].2<0) (h5:¬0<cmpQ xs[j].2 f.hi[j].2):FI n f xs (j+1) us:=by
 refine⟨h1,fun t ht=>(h2 t ht).1,fun t ht=>(h2 t ht).2.up ?_,zkP h1 (fun t ht=>(h2 t ht).1) fun a ha=>?_,fun a=>?_,fun k hk hk' hkj=>?_,fun k hk hk' hkj=>?_⟩
 ·rw[Nat.add_mul];omega
 ·rw[h3,zdI h.rng ha,zdI (hR.col j hj).rng ha,Rat.mul_zero,Rat.add_zero]
 ·rw[h3,h.get]
  show _=sumQ f xs a j+(xs[j]!).2*getQ ((f.cols[j]!).ts.map plq) a
  rw[getElem!_pos xs j hjx,getElem!_pos f.cols j hj]
 ·rcases Nat.lt_succ_iff_lt_or_eq.1 hkj with e|e
  ·exact h.lo k hk hk' e
  ·subst e;exact h4
 ·rcases Nat.lt_succ_iff_lt_or_eq.1 hkj with e|e
  ·exact h.hi k hk hk' e
  ·subst e;exact h5
theorem zgg {f:FoV} {xs:List (RV×Rat)} {w:World} (hR:FRight f w) {a:Int} (ha:a<0∨f.M≤a):∀j,j≤f.cols.length→sumQ f xs a j=0
 |0,_=>rfl
 |j+1,h=>by
  show sumQ f xs a j+(xs[j]!).2*getQ ((f.cols[j]!).ts.map plq) a=0
  rw[zgg hR ha j (by omega),getElem!_pos f.cols j (by omega),zdI (hR.col j (by omega)).rng ha,Rat.mul_zero,Rat.add_zero]
theorem FI.done {n:Nat} {f:FoV} {xs:List (RV×Rat)} {ss us:List TeV} {w:World} (h:FI n f xs f.cols.length ss) (hR:FRight f w) (hl:xs.length=f.cols.length) (hu:us.map plq=vecL f.b):(ss.map plq).filter nzP=(us.map plq).filter nzP↔FeasP f xs w:=by
 have hb:=hR.b
 have hfs:(ss.map plq).filter nzP=ss.map plq:=List.filter_eq_self.2 fun p hp=>by
  obtain⟨t,ht,rfl⟩:=List.mem_map.1 hp
  exact h.nz t ht
 rw[hfs,hu]
 have hfb:(vecL f.b).filter nzP=vecL f.b:=by unfold vecL;rw[List.filter_filter];simp
 rw[hfb]
 constructor
 ·intro e
  refine⟨hR,hl,fun j hj hj'=>h.lo j hj hj' (by omega),fun j hj hj'=>h.hi j hj hj' (by omega),fun i hi=>?_⟩
  rw[←h.get,e,zbY,zbK _ _ hi]
 ·intro hF
  refine zgX h.rise.map ((zcZ f.b).map.filter _) (fun p hp=>?_) (fun p hp=>(List.mem_filter.1 hp).2) fun a=>?_
  ·obtain⟨t,ht,rfl⟩:=List.mem_map.1 hp
   exact h.nz t ht
  ·rw[h.get]
   show _=getQ (vecL f.b) a
   rw[zbY]
   by_cases ha:a<0∨f.M≤a
   ·rw[zgg hR ha _ (Nat.le_refl _),zce _ _ (by omega)]
   ·obtain⟨i,rfl⟩:∃i:Nat,a=(i:Int):=⟨a.toNat,by omega⟩
    rw[zbK _ i (by omega)]
    exact hF.eq i (by omega)

theorem zlO {a b:Rat} (h:¬cmpQ a b<0):cmpQ a b=0∨cmpQ a b=1:=by
 unfold cmpQ at h⊢
 by_cases h1:a<b
 ·rw[if_pos h1]at h;omega
 ·rw[if_neg h1]
  by_cases h2:a=b
  ·rw[if_pos h2];exact .inl rfl
  ·rw[if_neg h2];exact .inr rfl
theorem zl6 {a b:Rat} (h:cmpQ a b<0):cmpQ a b=-1:=by
 unfold cmpQ at h⊢
 by_cases h1:a<b
 ·rw[if_pos h1]
 ·rw[if_neg h1]at h
  by_cases h2:a=b
  ·rw[if_pos h2]at h;omega
  ·rw[if_neg h2]at h;omega
set_option maxRecDepth 100000 in
theorem zm3 (w:World) (n:Nat) (hn:n≤1000000000) (h1n:1≤n) (f:FoV) (h:FoD n f w) (hs:FSmall f) (Ax:Option Addr) (cx:Nat) (xs:List (RV×Rat)) (hx:LsR 4 za0 (roD n) Ax xs w) (hT:Tz w) (hR:¬FRight f w):
 Calls Tryz.prog 22 #[fA f,.slice Ax xs.length cx] w fun e w'=>zaR (FeasP f xs w) e∧Below w.heap.size w w':=by
 have Hs:=znd hs
 have HR:=znd hR
 have Hf:=znd h
 have HE:=znd (lyFS f Ax xs.length cx ((h.old).and (((hx.old zbQ)).and (hT.old))))
 have c:=Env.c2 HE.out
 have dd:=Env.d2 HE.out
 clear h hs hR hx hT
 unfold fA
 go_enter Tryz.func22,Tryz.ntmps22
 go_wp2_with fail
 refine(zcA _ n (by omega) h1n f HE.out.o.1 Hs.out HE.out.o.2.2).mono ?_
 rintro e w1 ⟨⟨z,rfl,hz⟩,hb⟩
 have hR1:=FRight.same Hf.out HE.out.bel
 replace HE:=znd (Env.call HE.out hb)
 replace c:=Env.c2 HE.out
 clear hb
 obtain⟨rfl,-⟩:z=101∧True:=by
  rcases hz with⟨-,h9⟩|⟨h9,-⟩
  ·exact absurd (hR1.1 h9) HR.out
  ·exact⟨h9,trivial⟩
 clear hz hR1
 go_wp2_with fail
 exact bodyPost_ret (v:=.bool false) (by simp[results,Tryz.results22,go_sem]) rfl ⟨za7 false ⟨fun h9=>absurd h9 (by decide),fun h9=>absurd h9.right HR.out⟩,HE.out.bel⟩
set_option maxRecDepth 100000 in
theorem zkJ (w:World) (n:Nat) (hn:n≤1000000000) (h1n:1≤n) (f:FoV) (h:FoD n f w) (hs:FSmall f) (Ax:Option Addr) (cx:Nat) (xs:List (RV×Rat)) (hx:LsR 4 za0 (roD n) Ax xs w) (hT:Tz w) (hR:FRight f w) (hl:xs.length≠f.cols.length):
 Calls Tryz.prog 22 #[fA f,.slice Ax xs.length cx] w fun e w'=>zaR (FeasP f xs w) e∧Below w.heap.size w w':=by
 have Hs:=znd hs
 have HR:=znd hR
 have Hf:=znd h
 have kl:((xs.length:Int) != (f.cols.length:Int))=true:=by simp;omega
 have HL:=znd hl
 clear hl
 have HE:=znd (lyFS f Ax xs.length cx ((h.old).and (((hx.old zbQ)).and (hT.old))))
 have c:=Env.c2 HE.out
 have dd:=Env.d2 HE.out
 clear h hs hR hx hT
 unfold fA
 go_enter Tryz.func22,Tryz.ntmps22
 go_wp2_with fail
 refine(zcA _ n (by omega) h1n f HE.out.o.1 Hs.out HE.out.o.2.2).mono ?_
 rintro e w1 ⟨⟨z,rfl,hz⟩,hb⟩
 have hR1:=FRight.same Hf.out HE.out.bel
 replace HE:=znd (Env.call HE.out hb)
 replace c:=Env.c2 HE.out
 clear hb
 obtain⟨rfl,-⟩:z=0∧True:=by
  rcases hz with⟨h9,-⟩|⟨-,h9⟩
  ·exact⟨h9,trivial⟩
  ·exact absurd (hR1.2 HR.out) h9
 clear hz hR1
 go_wp2_with fail
 exact bodyPost_ret (v:=.bool false) (by simp[results,Tryz.results22,go_sem]) rfl ⟨za7 false ⟨fun h9=>absurd h9 (by decide),fun h9=>absurd h9.len HL.out⟩,HE.out.bel⟩
set_option maxRecDepth 100000 in
theorem zlN (w:World) (n:Nat) (hn:n≤1000000000) (h1n:1≤n) (f:FoV) (h:FoD n f w) (hs:FSmall f) (Ax:Option Addr) (cx:Nat) (xs:List (RV×Rat)) (hx:LsR 4 za0 (roD n) Ax xs w) (hT:Tz w) (hR:FRight f w) (hl:xs.length=f.cols.length):
 Calls Tryz.prog 22 #[fA f,.slice Ax xs.length cx] w fun e w'=>zaR (FeasP f xs w) e∧Below w.heap.size w w':=by
 have Hs:=znd hs
 have HR:=znd hR
 have Hf:=znd h
 have kl:((xs.length:Int) != (f.cols.length:Int))=false:=by simp;omega
 have HL:=znd hl
 have hc12:=hs.cols
 have slc:=h.cols.sl
 have sll:=h.lo.sl
 have slh:=h.hi.sl
 have slx:=hx.sl
 have slb:=h.b.sl
 have hszr:=zal
 have hszc:=zaw
 have hadd:=zaa
 have HFB:=znd (fun(V:World) (h:FoD n f V)=>h.b)
 have Hsb:=znd (show∀p∈f.b,Sz p.2 n from fun p hp=>RatD.sz (h.b.ok p hp) h1n)
 clear hl
 have HE:=znd (lyFS f Ax xs.length cx ((h.old).and (((hx.old zbQ)).and (hT.old))))
 have c:=Env.c2 HE.out
 have dd:=Env.d2 HE.out
 clear h hs hR hx hT
 unfold fA
 go_enter Tryz.func22,Tryz.ntmps22
 go_wp2_with fail
 refine(zcA _ n (by omega) h1n f HE.out.o.1 Hs.out HE.out.o.2.2).mono ?_
 rintro e w1 ⟨⟨z,rfl,hz⟩,hb⟩
 have hR1:=FRight.same Hf.out HE.out.bel
 replace HE:=znd (Env.call HE.out hb)
 replace c:=Env.c2 HE.out
 clear hb
 obtain⟨rfl,-⟩:z=0∧True:=by
  rcases hz with⟨h9,-⟩|⟨-,h9⟩
  ·exact⟨h9,trivial⟩
  ·exact absurd (hR1.2 HR.out) h9
 clear hz hR1
 clear c
 have c:=Env.c2 HE.out
 go_upto_region 4 with fail
 obtain⟨W1,g5,hW1,hg5,HE⟩:=Env.al HE.out 25 #[.slice none 0 0]
 rw[hW1,hg5]
 clear hW1 hg5 c
 have c:=Env.c3 HE.out
 go_wp2_with fail
 clear c
 go_loopw [23] (fun jv wr=>∃(j:Nat) (As:Option Addr) (cs:Nat) (ss:List TeV),jv=.int .i64 (j:Int)∧j≤f.cols.length∧Hid (FI n f xs j ss)∧Hid (Env w [⟨g5,25,#[.slice As ss.length cs]⟩,⟨w.heap.size+1,30,#[.slice Ax xs.length cx]⟩,⟨w.heap.size,32,#[.int .i64 f.M,.slice f.Ac f.cols.length f.cc,.slice f.Al f.lo.length f.cl,.slice f.Ah f.hi.length f.ch,.slice f.Ak f.cost.length f.ck,.slice f.Ab f.b.length f.cb]⟩] (fun V=>FoD n f V∧LsR 4 za0 (roD n) Ax xs V∧Tz V) (fun V=>LsR 5 tecells teN As ss V) wr)) (fun jv _=>f.cols.length-(intOf jv).toNat)
 case atStart=>exact⟨0,none,0,[],rfl,Nat.zero_le _,znd (FI.start n f xs),znd (HE.out.imp (fun _ h=>h) (fun V _=>LsR.nil_ _))⟩
 case round=>
  clear HE
  obtain⟨j,As,cs,ss,rfl,hj,HF,HE⟩:=hrel
  by_cases hlt:j<f.cols.length
  ·have hjx:j<xs.length:=by rw[HL.out];exact hlt
   have hjl:j<f.lo.length:=by rw[HR.out.lo];exact hlt
   have hjh:j<f.hi.length:=by rw[HR.out.hi];exact hlt
   have HQ:=znd (fun(V:World) (h:FoD n f V)=>h.lo.rc j hjl)
   have HH:=znd (fun(V:World) (h:FoD n f V)=>h.hi.rc j hjh)
   have cx0:=HE.out.o.2.1.rc j hjx
   have HLO:=znd (show FeasP f xs w→¬cmpQ xs[j].2 f.lo[j].2<0 from fun h=>h.lo j hjx hjl)
   have HHI:=znd (show FeasP f xs w→¬0<cmpQ xs[j].2 f.hi[j].2 from fun h=>h.hi j hjx hjh)
   have HNX:=znd (fun(us:List TeV) h1 h2 h3 h4 h5=>FI.next (us:=us) HF.out HR.out hlt hjx hjl hjh h1 h2 h3 h4 h5)
   obtain⟨p,hp⟩:∃p,p=xs[j]:=⟨_,rfl⟩
   obtain⟨q,hq⟩:∃q,q=f.lo[j]:=⟨_,rfl⟩
   obtain⟨r,hr⟩:∃r,r=f.hi[j]:=⟨_,rfl⟩
   have Hmp:=znd (show p∈xs by rw[hp];exact List.getElem_mem hjx)
   have Hmq:=znd (show q∈f.lo by rw[hq];exact List.getElem_mem hjl)
   have Hmr:=znd (show r∈f.hi by rw[hr];exact List.getElem_mem hjh)
   rw[←hq]at HQ HLO HNX
   rw[←hr]at HH HHI HNX
   rw[←hp]at cx0 HLO HHI HNX
   have Hp:=znd hp
   clear hp hq hr
   have HXE:=znd (show∀V,LsR 4 za0 (roD n) Ax xs V→RatD p.1 p.2 n V from fun V h=>h.ok p Hmp.out)
   have HQE:=znd (show∀V,FoD n f V→RatD q.1 q.2 n V from fun V h=>h.lo.ok q Hmq.out)
   have HRE:=znd (show∀V,FoD n f V→RatD r.1 r.2 n V from fun V h=>h.hi.ok r Hmr.out)
   have c:=Env.c3 HE.out
   go_upto_region 8 with fail
   obtain⟨W2,gv,hW2,hgv,HE⟩:=Env.al HE.out 48 #[.bool p.1.num.neg,.slice p.1.num.A p.1.num.k p.1.num.c,.bool p.1.den.neg,.slice p.1.den.A p.1.den.k p.1.den.c]
   rw[hW2,hgv]
   clear hW2 hgv c cx0
   have HC:=znd (fun(V:World) (h:Env w [⟨gv,48,#[.bool p.1.num.neg,.slice p.1.num.A p.1.num.k p.1.num.c,.bool p.1.den.neg,.slice p.1.den.A p.1.den.k p.1.den.c]⟩,⟨g5,25,#[.slice As ss.length cs]⟩,⟨w.heap.size+1,30,#[.slice Ax xs.length cx]⟩,⟨w.heap.size,32,#[.int .i64 f.M,.slice f.Ac f.cols.length f.cc,.slice f.Al f.lo.length f.cl,.slice f.Ah f.hi.length f.ch,.slice f.Ak f.cost.length f.ck,.slice f.Ab f.b.length f.cb]⟩] (fun V=>FoD n f V∧LsR 4 za0 (roD n) Ax xs V∧Tz V) (fun V=>LsR 5 tecells teN As ss V) V)=>And.intro (Env.c4 h).1 (And.intro (Env.c4 h).2.2.2 (And.intro (HQ.out V h.o.1) (HH.out V h.o.1))))
   have c:=HC.out _ HE.out
   by_cases hlo:cmpQ p.2 q.2<0
   ·have HR9:=znd (show¬FeasP f xs w from fun h=>HLO.out h hlo)
    have HM1:=znd (zl6 hlo)
    refine wp_region_noPanic ?_
    refine wp_region_held_drew (S:=(fun W=>CB gv #[.bool p.1.num.neg,.slice p.1.num.A p.1.num.k p.1.num.c,.bool p.1.den.neg,.slice p.1.den.A p.1.den.k p.1.den.c] W∧CB (w.heap.size) #[.int .i64 f.M,.slice f.Ac f.cols.length f.cc,.slice f.Al f.lo.length f.cl,.slice f.Ah f.hi.length f.ch,.slice f.Ak f.cost.length f.ck,.slice f.Ab f.b.length f.cb] W∧RC f.Al j q W∧RC f.Ah j r W)) (by kernel_rfl) (by first|exact HC.out _ HE.out|exact HC.out _ HE.out.drew) (fun hHeld=>?_)
    refine hT 0 28 hHeld ?_
    refine hT 1 29 hHeld ?_
    refine hT 2 30 hHeld ?_
    refine hT 3 31 hHeld ?_
    refine hT 4 32 hHeld ?_
    refine hT 5 33 hHeld ?_
    refine za8 (i:=6) rfl (by kernel_rfl) (by rfl) (fun K hK=>?_)
    clear hHeld
    simp only[q1,q2,q3]
    go_simp
    refine(zbb _ p.1 q.1 p.2 q.2 n (by omega) h1n (HXE.out _ (by with_reducible first|exact HE.out.o.2.1|exact HE.out.drew.o.2.1)) (HQE.out _ (by with_reducible first|exact HE.out.o.1|exact HE.out.drew.o.1))).mono ?_
    rintro e w2 ⟨rfl,hb⟩
    rw[HM1.out]
    replace HE:=znd (Env.call (by with_reducible first|exact HE.out|exact HE.out.drew) hb)
    clear hb
    (try(go_wp2_with fail))
    refine hK.out _ _ (by first|exact HC.out _ HE.out|exact HC.out _ HE.out.drew) (fun hHeld=>?_)
    clear hK K
    try simp only[p1,p2,p3,p4]
    refine hT 7 35 hHeld ?_
    refine hT 8 36 hHeld ?_
    refine za2 (i:=9) (v:=undef) (some 37) rfl rfl (by kernel_rfl) (by kernel_rfl) (by kernel_rfl) (fun _ _ _ h=>h) (Or.inr ⟨by rfl,rfl⟩) hHeld ?_
    try simp only[p1,p2,p3,p4]
    refine za2 (i:=10) (v:=undef) (some 38) rfl rfl (by kernel_rfl) (by kernel_rfl) (by kernel_rfl) (fun _ _ _ h=>h) (Or.inr ⟨by rfl,rfl⟩) hHeld ?_
    try simp only[p1,p2,p3,p4]
    refine za2 (i:=11) (v:=undef) (some 39) rfl rfl (by kernel_rfl) (by kernel_rfl) (by kernel_rfl) (fun _ _ _ h=>h) (Or.inr ⟨by rfl,rfl⟩) hHeld ?_
    try simp only[p1,p2,p3,p4]
    refine za2 (i:=12) (v:=undef) (some 40) rfl rfl (by kernel_rfl) (by kernel_rfl) (by kernel_rfl) (fun _ _ _ h=>h) (Or.inr ⟨by rfl,rfl⟩) hHeld ?_
    try simp only[p1,p2,p3,p4]
    refine za2 (i:=13) (v:=undef) (some 41) rfl rfl (by kernel_rfl) (by kernel_rfl) (by kernel_rfl) (fun _ _ _ h=>h) (Or.inr ⟨by rfl,rfl⟩) hHeld ?_
    try simp only[p1,p2,p3,p4]
    refine za2 (i:=14) (v:=undef) (some 42) rfl rfl (by kernel_rfl) (by kernel_rfl) (by kernel_rfl) (fun _ _ _ h=>h) (Or.inr ⟨by rfl,rfl⟩) hHeld ?_
    try simp only[p1,p2,p3,p4]
    refine zf1 (i:=15) (some 43) rfl rfl (by kernel_rfl) (by rfl) hHeld ?_
    try simp only[p1,p2,p3,p4]
    refine za2 (i:=16) (v:=undef) (some 44) rfl rfl (by kernel_rfl) (by kernel_rfl) (by kernel_rfl) (fun _ _ _ h=>h) (Or.inr ⟨by rfl,rfl⟩) hHeld ?_
    try simp only[p1,p2,p3,p4]
    refine hT 17 45 hHeld ?_
    refine wpAnyH_done (by kernel_rfl) ?_ _
    refine NoPanic.normal ?_
    go_wp2_with fail
    first
     |exact bodyPost_ret (v:=.bool false) (by simp[results,Tryz.results22,go_sem]) rfl ⟨za7 false ⟨fun h9=>absurd h9 (by decide),fun h9=>absurd h9 HR9.out⟩,HE.out.bel⟩
     |exact bodyPost_ret (v:=.bool false) (by simp[results,Tryz.results22,go_sem]) rfl ⟨za7 false ⟨fun h9=>absurd h9 (by decide),fun h9=>absurd h9 HR9.out⟩,HE.out.drew.bel⟩
   ·have HNLo:=znd hlo
    have hC0:∃C:Int,cmpQ p.2 q.2=C∧(C=0∨C=1):=⟨_,rfl,zlO hlo⟩
    obtain⟨C,hC1,hC2⟩:=hC0
    rcases hC2 with rfl|rfl
    all_goals
     have HCC:=znd hC1
     clear hC1 hlo
     go_region_held3 (fun W=>CB gv #[.bool p.1.num.neg,.slice p.1.num.A p.1.num.k p.1.num.c,.bool p.1.den.neg,.slice p.1.den.A p.1.den.k p.1.den.c] W∧CB (w.heap.size) #[.int .i64 f.M,.slice f.Ac f.cols.length f.cc,.slice f.Al f.lo.length f.cl,.slice f.Ah f.hi.length f.ch,.slice f.Ak f.cost.length f.ck,.slice f.Ab f.b.length f.cb] W∧RC f.Al j q W∧RC f.Ah j r W) (first|with_reducible exact c|with_reducible exact HC.out _ HE.out.drew|((repeat' apply And.intro)<;>go_keep))
      (first
       |(go_at_call_of 53 (#[.agg #[.bool p.1.num.neg,.slice p.1.num.A p.1.num.k p.1.num.c,.bool p.1.den.neg,.slice p.1.den.A p.1.den.k p.1.den.c],.agg #[.bool q.1.num.neg,.slice q.1.num.A q.1.num.k q.1.num.c,.bool q.1.den.neg,.slice q.1.den.A q.1.den.k q.1.den.c]]:Array Value);go_must (refine(zbb _ p.1 q.1 p.2 q.2 n (by omega) h1n (HXE.out _ (by with_reducible first|exact HE.out.o.2.1|exact HE.out.drew.o.2.1)) (HQE.out _ (by with_reducible first|exact HE.out.o.1|exact HE.out.drew.o.1))).mono ?_;rintro e w2 ⟨rfl,hb⟩;rw[HCC.out];replace HE:=znd (Env.call (by with_reducible first|exact HE.out|exact HE.out.drew) hb);replace c:=HC.out _ HE.out;clear hb))
       |(go_at_call_of 53 (#[.agg #[.bool p.1.num.neg,.slice p.1.num.A p.1.num.k p.1.num.c,.bool p.1.den.neg,.slice p.1.den.A p.1.den.k p.1.den.c],.agg #[.bool r.1.num.neg,.slice r.1.num.A r.1.num.k r.1.num.c,.bool r.1.den.neg,.slice r.1.den.A r.1.den.k r.1.den.c]]:Array Value);go_must (refine(zbb _ p.1 r.1 p.2 r.2 n (by omega) h1n (HXE.out _ (by with_reducible first|exact HE.out.o.2.1|exact HE.out.drew.o.2.1)) (HRE.out _ (by with_reducible first|exact HE.out.o.1|exact HE.out.drew.o.1))).mono ?_;rintro e w2 ⟨rfl,hb⟩;replace HE:=znd (Env.call (by with_reducible first|exact HE.out|exact HE.out.drew) hb);replace c:=HC.out _ HE.out;clear hb)))
     all_goals
     by_cases hhi:0<cmpQ p.2 r.2
     ·have HR9:=znd (show¬FeasP f xs w from fun h=>by have:=HHI.out h;omega)
      go_wp2_with fail
      first
       |exact bodyPost_ret (v:=.bool false) (by simp[results,Tryz.results22,go_sem]) rfl ⟨za7 false ⟨fun h9=>absurd h9 (by decide),fun h9=>absurd h9 HR9.out⟩,HE.out.bel⟩
       |exact bodyPost_ret (v:=.bool false) (by simp[results,Tryz.results22,go_sem]) rfl ⟨za7 false ⟨fun h9=>absurd h9 (by decide),fun h9=>absurd h9 HR9.out⟩,HE.out.drew.bel⟩
     ·have HNH:=znd hhi
      clear c
      replace HE:=znd (show(Env w [⟨g5,25,#[.slice As ss.length cs]⟩,⟨w.heap.size+1,30,#[.slice Ax xs.length cx]⟩,⟨w.heap.size,32,#[.int .i64 f.M,.slice f.Ac f.cols.length f.cc,.slice f.Al f.lo.length f.cl,.slice f.Ah f.hi.length f.ch,.slice f.Ak f.cost.length f.ck,.slice f.Ab f.b.length f.cb]⟩] (fun V=>FoD n f V∧LsR 4 za0 (roD n) Ax xs V∧Tz V) (fun V=>LsR 5 tecells teN As ss V) _)from(by with_reducible first|exact HE.out.drop|exact HE.out.drew.drop))
      have c:=Env.c3 HE.out
      go_wp2_with fail
      have hNJ:1+j*(2*n+2)≤49000000000:=by have:=Nat.mul_le_mul (show j≤12 by omega) (show 2*n+2≤2000000002 by omega);omega
      refine(zje _ (1+j*(2*n+2)) n hNJ hn (by omega) h1n f g5 (w.heap.size+1) (w.heap.size) As Ax cs cx ss xs (HE.out.bx ⟨g5,25,#[.slice As ss.length cs]⟩ (by simp)) (HE.out.bx ⟨w.heap.size+1,30,#[.slice Ax xs.length cx]⟩ (by simp)) (HE.out.bx ⟨w.heap.size,32,#[.int .i64 f.M,.slice f.Ac f.cols.length f.cc,.slice f.Al f.lo.length f.cl,.slice f.Ah f.hi.length f.ch,.slice f.Ak f.cost.length f.ck,.slice f.Ab f.b.length f.cb]⟩ (by simp)) HE.out.o.1 HE.out.o.2.1 (HE.out.n.imp fun t ht hn=>RatN.rat hn (HF.out.sz t ht)) HF.out.rise (by have:=HF.out.len Hs.out.M;omega) j hlt hjx (HR.out.col j hlt).rise (by have:=Hs.out.col _ (List.getElem_mem hlt);omega) HE.out.o.2.2).mono ?_
      rintro e w3 ⟨W1,A,c2,us,rfl,rfl,h1,h2,-,h3,hk,hb⟩
      have HF2:=znd (HNX.out us h1 h2 (by rw[Hp.out];exact h3) (by have:=HNLo.out;omega) (by have:=HNH.out;omega))
      replace HE:=znd (show(Env w [⟨g5,25,#[.slice A us.length c2]⟩,⟨w.heap.size+1,30,#[.slice Ax xs.length cx]⟩,⟨w.heap.size,32,#[.int .i64 f.M,.slice f.Ac f.cols.length f.cc,.slice f.Al f.lo.length f.cl,.slice f.Ah f.hi.length f.ch,.slice f.Ak f.cost.length f.ck,.slice f.Ab f.b.length f.cb]⟩] (fun V=>FoD n f V∧LsR 4 za0 (roD n) Ax xs V∧Tz V) (fun V=>LsR 5 tecells teN A us V) _)from(((Env.ret HE.out hk hb).put 0 (.slice A us.length c2)).imp (fun _ h=>h) (fun _ h=>h.1)))
      clear h1 h2 h3 hk hb c
      go_wp2_with fail
      go_roundw
      case rel=>exact⟨j+1,A,c2,us,by go_num,by omega,HF2,HE⟩
      case measure=>(simp[intOf]<;>omega)
  ·obtain rfl:j=f.cols.length:=by omega
   have c:=Env.c3 HE.out
   have hnu:¬f.cols.length<xs.length:=by rw[HL.out];omega
   have hNJ:n+(1+f.cols.length*(2*n+2))≤100000000000:=by have:=Nat.mul_le_mul (show f.cols.length≤12 by omega) (show 2*n+2≤2000000002 by omega);omega
   go_upto_region 12 with fail
   go_region_held3 (fun W=>CB g5 #[.slice As ss.length cs] W∧CB (w.heap.size) #[.int .i64 f.M,.slice f.Ac f.cols.length f.cc,.slice f.Al f.lo.length f.cl,.slice f.Ah f.hi.length f.ch,.slice f.Ak f.cost.length f.ck,.slice f.Ab f.b.length f.cb] W) (first|with_reducible exact And.intro c.1 c.2.2|with_reducible exact And.intro (Env.c3 HE.out.drew).1 (Env.c3 HE.out.drew).2.2|((repeat' apply And.intro)<;>go_keep))
    (first
     |(go_at_call 35;go_must (refine(zdY _ n (by omega) h1n f.Ab f.cb f.b (HFB.out _ (by with_reducible first|exact HE.out.o.1|exact HE.out.drew.o.1)) Hs.out.b (by with_reducible first|exact HE.out.o.2.2|exact HE.out.drew.o.2.2)).mono ?_;rintro e w2 ⟨Aq,cq,qs,rfl,hcq,hqs,hk,hb⟩;replace HE:=znd (Env.ret (by with_reducible first|exact HE.out|exact HE.out.drew) hk hb);replace c:=Env.c3 HE.out;have Hqs:=znd (show qs.map plq=vecL f.b from hqs);clear hk hb hqs hcq))
     |(go_at_call 60;go_must (refine(zkf _ (n+(1+f.cols.length*(2*n+2))) (by omega) (by omega) As Aq cs cq ss qs ((show∀V,LsR 5 tecells teN As ss V→LsR 5 tecells (teD (n+(1+f.cols.length*(2*n+2)))) As ss V from fun V h=>h.imp fun t ht hn=>RatN.rat hn ((HF.out.sz t ht).up (by omega))) _ (by with_reducible first|exact HE.out.n.2|exact HE.out.drew.n.2)) ((show∀V,LsR 5 tecells teN Aq qs V→LsR 5 tecells (teD (n+(1+f.cols.length*(2*n+2)))) Aq qs V from fun V h=>h.imp fun t ht hn=>RatN.rat hn ((zfQ Hqs.out Hsb.out t ht).up (by omega))) _ (by with_reducible first|exact HE.out.n.1|exact HE.out.drew.n.1)) HF.out.rise (zfT Hqs.out) (by have:=HF.out.len Hs.out.M;omega) (by have:=zgG Hqs.out;have:=Hs.out.b;omega) (by with_reducible first|exact HE.out.o.2.2|exact HE.out.drew.o.2.2)).mono ?_;rintro e w3 ⟨⟨B,rfl,hB⟩,hb⟩;replace HE:=znd (Env.call (by with_reducible first|exact HE.out|exact HE.out.drew) hb);replace c:=Env.c3 HE.out;have HB:=znd (hB.trans (FI.done HF.out HR.out HL.out Hqs.out));clear hb hB)))
   all_goals
    go_wp2_with fail
    first
     |exact bodyPost_ret (v:=.bool B) (by simp[results,Tryz.results22,go_sem]) rfl ⟨za7 B HB.out,HE.out.bel⟩
     |exact bodyPost_ret (v:=.bool B) (by simp[results,Tryz.results22,go_sem]) rfl ⟨za7 B HB.out,HE.out.drew.bel⟩
theorem zgN (w:World) (n:Nat) (hn:n≤1000000000) (h1n:1≤n) (f:FoV) (h:FoD n f w) (hs:FSmall f) (Ax:Option Addr) (cx:Nat) (xs:List (RV×Rat)) (hx:LsR 4 za0 (roD n) Ax xs w) (hT:Tz w):
 Calls Tryz.prog 22 #[fA f,.slice Ax xs.length cx] w fun e w'=>zaR (FeasP f xs w) e∧Below w.heap.size w w':=by
 by_cases hR:FRight f w
 ·by_cases hl:xs.length=f.cols.length
  ·exact zlN w n hn h1n f h hs Ax cx xs hx hT hR hl
  ·exact zkJ w n hn h1n f h hs Ax cx xs hx hT hR hl
 ·exact zm3 w n hn h1n f h hs Ax cx xs hx hT hR
end Go.Proofs.YtfdmajmhmligpaaGreatDoor
