/-
 tripwirekit.LongRat, tripwirelaw17.great. tripwirelaw17.num, plain.
-/
import Derived.Test.YtfdmajmhmligpaaGreatDoorKM
namespace Go.Proofs.YtfdmajmhmligpaaGreatDoor
set_option maxHeartbeats 8000000
open Go.RowKit

theorem zjZ (w:World):(sizeOf (Tryz.prog.elem 99)).run Tryz.prog w=.ok 1 w:=by kernel_rfl
def zdN (p:RV×Rat):Prop:=p.1.num.k≤4∧p.1.den.k≤4
set_option maxRecDepth 100000 in
theorem zjk (w:World) (r:RV) (h1:4<r.num.k):Calls Tryz.prog 27 #[rA r,.int .i64 4] w fun e w'=>e=.returned (.bool true)∧Below w.heap.size w w':=by
 have HE:=znd (lyR r (Rests.pure trivial w _))
 have c:=Env.c1 HE.out
 have k1:(4:Int)<(r.num.k:Int):=by omega
 clear h1
 unfold rA
 go_enter Tryz.func27,Tryz.ntmps27
 go_wp2_with fail
 exact bodyPost_ret (v:=.bool true) (by simp[results,Tryz.results27,go_sem]) rfl ⟨rfl,HE.out.bel⟩
set_option maxRecDepth 100000 in
theorem ziM (w:World) (r:RV) (h1:¬4<r.num.k) (h2:4<r.den.k):Calls Tryz.prog 27 #[rA r,.int .i64 4] w fun e w'=>e=.returned (.bool true)∧Below w.heap.size w w':=by
 have HE:=znd (lyR r (Rests.pure trivial w _))
 have c:=Env.c1 HE.out
 have k1:¬(4:Int)<(r.num.k:Int):=by omega
 have k2:(4:Int)<(r.den.k:Int):=by omega
 clear h1 h2
 unfold rA
 go_enter Tryz.func27,Tryz.ntmps27
 go_wp2_with fail
 exact bodyPost_ret (v:=.bool true) (by simp[results,Tryz.results27,go_sem]) rfl ⟨rfl,HE.out.bel⟩
set_option maxRecDepth 100000 in
theorem ziR (w:World) (r:RV) (h1:¬4<r.num.k) (h2:¬4<r.den.k):Calls Tryz.prog 27 #[rA r,.int .i64 4] w fun e w'=>e=.returned (.bool false)∧Below w.heap.size w w':=by
 have HE:=znd (lyR r (Rests.pure trivial w _))
 have c:=Env.c1 HE.out
 have k1:¬(4:Int)<(r.num.k:Int):=by omega
 have k2:¬(4:Int)<(r.den.k:Int):=by omega
 clear h1 h2
 unfold rA
 go_enter Tryz.func27,Tryz.ntmps27
 go_wp2_with fail
 exact bodyPost_ret (v:=.bool false) (by simp[results,Tryz.results27,go_sem]) rfl ⟨rfl,HE.out.bel⟩
theorem zgd (w:World) (p:RV×Rat):Calls Tryz.prog 27 #[.agg #[.bool p.1.num.neg,.slice p.1.num.A p.1.num.k p.1.num.c,.bool p.1.den.neg,.slice p.1.den.A p.1.den.k p.1.den.c],.int .i64 4] w fun e w'=>(∃B:Bool,e=.returned (.bool B)∧(B=false→zdN p))∧Below w.heap.size w w':=by
 by_cases h1:4<p.1.num.k
 ·exact(zjk w p.1 h1).mono fun e w' h=>⟨⟨true,h.1,fun h=>absurd h (by decide)⟩,h.2⟩
 ·by_cases h2:4<p.1.den.k
  ·exact(ziM w p.1 h1 h2).mono fun e w' h=>⟨⟨true,h.1,fun h=>absurd h (by decide)⟩,h.2⟩
  ·exact(ziR w p.1 h1 h2).mono fun e w' h=>⟨⟨false,h.1,fun _=>⟨by omega,by omega⟩⟩,h.2⟩
theorem zc4 {P:Program} {a:Act} {w w':World} {K:Act→World→Prop} {Q:Exit→Act→World→Prop} {o:Oper} (s x:Operand) (t:TypeId) {v y v':Value} (ho:o.op=.call {callee:=.builtin .append,args:=#[s,x],argTypes:=#[t,t]}) (hs:a.eval s=v) (hx:a.eval x=y)
 (hrun:(Builtin.append_ #[t,t] o.type #[v,y]).run P w=.ok v' w') (h:K (a.put o.dst v') w'):Oper.wp P o a w K Q:=by
 unfold Oper.wp execOp
 simp only[ho,resolve,invoke,builtin,Sem.run_bind,Sem.run_pure,Result.andThen_ok,List.map_toArray,List.map_cons,List.map_nil,hs,hx,hrun]
 exact h
theorem zfN {P:Program} {W:World} {B:Nat} {t e:TypeId} {sz bytes:Nat} {v z:Value} {cs:List (Array Value)} (ht:P.underlying t=some (.slice e)) (hinfo:(P.info? e).map (fun i=>(i.zero,i.size,i.bytes))=some (some z,sz,bytes)) (hown:OwnE W B e sz v cs) (A:Option Addr) (c:Nat):
 (Builtin.append_ #[t,t] t #[v,.slice A 0 c]).run P W=.ok v W:=by
 obtain⟨i0,hi0,-,-,-⟩:=info_parts hinfo
 rcases hown.2.2 with⟨rfl,-⟩|⟨g,cap,cur,rfl,-,-,hnc,-⟩
 ·cases A<;>simp[Builtin.append_,run_underlying ht,sizeOf,typeInfo,hi0,Builtin.lenOf,Builtin.firstCells,loadCells,loadCellsFrom]
 ·cases A<;>simp[Builtin.append_,run_underlying ht,sizeOf,typeInfo,hi0,Builtin.lenOf,Builtin.firstCells,hnc,storeCells,loadCells,loadCellsFrom]
section
variable {w W W':World} {ls:List Ow} {bs:List Bo} {old new old' new':World→Prop}
theorem GL.drew_ (h:GL w ls old new W):GL w ls old new W.drew:=GL.after h (Env.of_below (Below.drewN (Below.refl _ W) 1))
theorem GL.apps {P:Program} {t e:TypeId} {sz bytes:Nat} {z v:Value} {cs:List (Array Value)} (ht:P.underlying t=some (.slice e)) (hinfo:(P.info? e).map (fun i=>(i.zero,i.size,i.bytes))=some (some z,sz,bytes)) (hz:z.cells.size=sz) (hsz:0<sz)
 (h:GL w (⟨e,sz,v,cs⟩::ls) old new W) (he:Env W bs old' new' W') {A:Option Addr} {c:Nat} {ds:List (Array Value)} (hd:El W' sz A ds) (h1:∀d∈ds,∀u∈d.toList,u.oneCell'=true) (hlen:(cs.length+ds.length)*bytes≤140737488355328) (hl:cs.length+ds.length≤maxLen):
 ∃v' w',(Builtin.append_ #[t,t] t #[v,.slice A ds.length c]).run P W'=.ok v' w'∧GL w (⟨e,sz,v',cs++ds⟩::ls) old (fun V=>new' V∧new V) w':=by
 have hown:=(h.own _ (List.mem_cons_self ..)).below he.bel
 have hwW:=h.bel.size
 have hWW:=he.bel.size
 rcases Nat.eq_zero_or_pos ds.length with h0|h0
 ·have:ds=[]:=List.eq_nil_of_length_eq_zero h0
  subst this
  refine⟨v,W',zfN ht hinfo hown A c,?_⟩
  rw[List.append_nil]
  exact h.keep he.fresh he.bel
 ·obtain⟨b,o,rfl⟩:=hd.sl h0
  obtain⟨v',w',hrun,ho,hb,hk,hs,hor⟩:=OwnE.apps ht hinfo hz hsz hown (c:=c) hd h1 hlen hl (by omega)
  refine⟨v',w',hrun,GL.go (o':=⟨e,sz,v',cs++ds⟩) h he.fresh he.bel ho hb hk hs ?_⟩
  rcases hor with e|e
  ·exact .inl e
  ·exact .inr ⟨_,e,Nat.le_refl _⟩
theorem GL.made (h:GL w ls old new W) (e:TypeId) (sz:Nat):GL w (⟨e,sz,.slice (some ⟨W.heap.size,0,none⟩) 0 0,[]⟩::ls) old new (W.alloc (.cells #[] e)):=by
 have hX:Below W.heap.size W (W.alloc (.cells #[] e)):=(Below.refl _ W).alloc (Nat.le_refl _) _
 have hlt:∀q∈ls,∀k,q.v.ownBlock=some k→k<W.heap.size:=fun q hq k e=>((h.own q hq).lt k e).2
 have hF:∀n,n<W.heap.size→(∀o∈ls,o.v.ownBlock≠some n)→∀o∈(⟨e,sz,.slice (some ⟨W.heap.size,0,none⟩) 0 0,[]⟩:Ow)::ls,o.v.ownBlock≠some n:=fun n hn ho o hm=>by
  rcases List.mem_cons.1 hm with rfl|hm
  ·intro e'
   have:W.heap.size=n:=by injection e'
   omega
  ·exact ho o hm
 refine⟨fun o ho=>?_,.cons (fun b hb k hk e'=>?_) h.nd,?_,?_,Below.after h.bel hX⟩
 ·rcases List.mem_cons.1 ho with rfl|ho
  ·exact OwnE.made W h.bel.size e sz
  ·exact(h.own o ho).below hX
 ·have h1:=hlt b hb k e'
  have h2:W.heap.size=k:=by injection hk
  omega
 ·exact(h.rso.lt.below hX).mono fun n hn=>hF n hn.2 hn.1
 ·exact(h.rsn.lt.below hX).mono fun n hn=>⟨hn.1.1,hF n hn.2 hn.1.2⟩
theorem GL.made_ (h:GL w ls old new W) {g:Nat} (hg:W.heap.size=g) (e:TypeId) (sz:Nat):GL w (⟨e,sz,.slice (some ⟨g,0,none⟩) 0 0,[]⟩::ls) old new (W.alloc (.cells #[] e)):=by
 subst hg;exact GL.made h e sz
end
def okR (p:RV×Rat) (W:World):Prop:=RatD p.1 p.2 (p.1.num.k+p.1.den.k) W
def okT (t:TeV) (W:World):Prop:=RatD t.r t.q (t.r.num.k+t.r.den.k) W
theorem zeQ (p:RV×Rat) (W:World) (h:okR p W):Rests W (·<W.heap.size) (okR p):=RatD.old h
theorem zl4 (t:TeV) (W:World) (h:okT t W):Rests W (·<W.heap.size) (okT t):=RatD.old h
def okV (v:VeV) (W:World):Prop:=LsR 5 tecells okT v.A v.ts W
theorem zlz (v:VeV) (W:World) (h:okV v W):Rests W (·<W.heap.size) (okV v):=LsR.old zl4 h
structure FoA (f:FoV) (W:World):Prop where
 cols:LsR 1 za3 okV f.Ac f.cols W
 lo:LsR 4 za0 okR f.Al f.lo W
 hi:LsR 4 za0 okR f.Ah f.hi W
 cost:LsR 4 za0 okR f.Ak f.cost W
 b:LsR 4 za0 okR f.Ab f.b W
theorem FoA.old {f:FoV} {w:World} (h:FoA f w):Rests w (·<w.heap.size) (FoA f):=
 ((h.cols.old zlz).and ((h.lo.old zeQ).and ((h.hi.old zeQ).and ((h.cost.old zeQ).and (h.b.old zeQ))))).imp fun _ h=>⟨h.1,h.2.1,h.2.2.1,h.2.2.2.1,h.2.2.2.2⟩
structure RsV where
 A:Option Addr
 c:Nat
 ps:List (RV×Rat)
def znm (v:RsV):Array Value:=#[.slice v.A v.ps.length v.c]
def okS (v:RsV) (W:World):Prop:=LsR 4 za0 okR v.A v.ps W
theorem zof (v:RsV) (W:World) (h:okS v W):Rests W (·<W.heap.size) (okS v):=LsR.old zeQ h
theorem LsR.scR {ok:RsV→World→Prop} {A:Option Addr} {l:List RsV} {w:World} (h:LsR 1 znm ok A l w) (i:Nat) (hi:i<l.length):w.cell? (adr A i)=some (.slice (l[i]).A (l[i]).ps.length (l[i]).c):=by
 have hc:=h.cell i hi 0 (by decide)
 rwa [Nat.mul_one,Nat.add_zero]at hc
def tr (t:TeV):RV×Rat:=(t.r,t.q)
def allC (vs:List VeV):List (RV×Rat):=vs.flatMap fun v=>v.ts.map tr
theorem zig {vs:List VeV} {k:Nat} (hk:k<vs.length):allC (vs.take (k+1))=allC (vs.take k)++vs[k].ts.map tr:=by
 unfold allC
 rw[List.take_succ_eq_append_getElem hk,List.flatMap_append]
 simp
def allS (ls:List RsV):List (RV×Rat):=ls.flatMap RsV.ps
theorem znO {ls:List RsV} {k:Nat} (hk:k<ls.length):allS (ls.take (k+1))=allS (ls.take k)++ls[k].ps:=by
 unfold allS
 rw[List.take_succ_eq_append_getElem hk,List.flatMap_append]
 simp
def GRes (P:Prop) (e:Ending):Prop:=∃B:Bool,e=.returned (.bool B)∧(B=false→P)
theorem zc2 {P:Prop} (B:Bool) (h:B=false→P):GRes P (.returned (.bool B)):=⟨B,rfl,h⟩
structure NotGreat (f:FoV) (ls:List RsV):Prop where
 M:f.M≤5
 cols:f.cols.length≤12
 lo:f.lo.length≤20
 hi:f.hi.length≤20
 cost:f.cost.length≤20
 b:f.b.length≤20
 col:∀v∈f.cols,v.ts.length≤20
 lst:∀l∈ls,l.ps.length≤30
 short:∀p∈f.lo++f.hi++f.cost++f.b++allC f.cols++allS ls,zdN p
set_option maxRecDepth 100000 in
theorem zlC (w:World) (f:FoV) (_h:FoA f w) (Ag:Option Addr) (cg:Nat) (gs:List RsV) (_hg:LsR 1 znm okS Ag gs w) (_hgl:gs.length≤3) (e0:(5:Int)<f.M):
 Calls Tryz.prog 18 #[fA f,.slice Ag gs.length cg] w fun e w'=>GRes (NotGreat f gs) e∧Below w.heap.size w w':=by
 have HE:=znd (lyF f (Rests.pure trivial w _))
 have c:=Env.c1 HE.out
 clear _h _hg _hgl
 unfold fA
 go_enter Tryz.func18,Tryz.ntmps18
 go_wp2_with fail
 exact bodyPost_ret (v:=.bool true) (by simp[results,Tryz.results18,go_sem]) rfl ⟨zc2 true (fun h9=>absurd h9 (by decide)),HE.out.bel⟩
set_option maxRecDepth 100000 in
theorem zhA (w:World) (f:FoV) (_h:FoA f w) (Ag:Option Addr) (cg:Nat) (gs:List RsV) (_hg:LsR 1 znm okS Ag gs w) (_hgl:gs.length≤3) (e0:¬(5:Int)<f.M) (e1:(12:Int)<(f.cols.length:Int)):
 Calls Tryz.prog 18 #[fA f,.slice Ag gs.length cg] w fun e w'=>GRes (NotGreat f gs) e∧Below w.heap.size w w':=by
 have HE:=znd (lyF f (Rests.pure trivial w _))
 have c:=Env.c1 HE.out
 clear _h _hg _hgl
 unfold fA
 go_enter Tryz.func18,Tryz.ntmps18
 go_wp2_with fail
 exact bodyPost_ret (v:=.bool true) (by simp[results,Tryz.results18,go_sem]) rfl ⟨zc2 true (fun h9=>absurd h9 (by decide)),HE.out.bel⟩
set_option maxRecDepth 100000 in
theorem zjw (w:World) (f:FoV) (_h:FoA f w) (Ag:Option Addr) (cg:Nat) (gs:List RsV) (_hg:LsR 1 znm okS Ag gs w) (_hgl:gs.length≤3) (e0:¬(5:Int)<f.M) (e1:¬(12:Int)<(f.cols.length:Int)) (e2:(20:Int)<(f.lo.length:Int)):
 Calls Tryz.prog 18 #[fA f,.slice Ag gs.length cg] w fun e w'=>GRes (NotGreat f gs) e∧Below w.heap.size w w':=by
 have HE:=znd (lyF f (Rests.pure trivial w _))
 have c:=Env.c1 HE.out
 clear _h _hg _hgl
 unfold fA
 go_enter Tryz.func18,Tryz.ntmps18
 go_wp2_with fail
 exact bodyPost_ret (v:=.bool true) (by simp[results,Tryz.results18,go_sem]) rfl ⟨zc2 true (fun h9=>absurd h9 (by decide)),HE.out.bel⟩
set_option maxRecDepth 100000 in
theorem zki (w:World) (f:FoV) (_h:FoA f w) (Ag:Option Addr) (cg:Nat) (gs:List RsV) (_hg:LsR 1 znm okS Ag gs w) (_hgl:gs.length≤3) (e0:¬(5:Int)<f.M) (e1:¬(12:Int)<(f.cols.length:Int)) (e2:¬(20:Int)<(f.lo.length:Int)) (e3:(20:Int)<(f.hi.length:Int)):
 Calls Tryz.prog 18 #[fA f,.slice Ag gs.length cg] w fun e w'=>GRes (NotGreat f gs) e∧Below w.heap.size w w':=by
 have HE:=znd (lyF f (Rests.pure trivial w _))
 have c:=Env.c1 HE.out
 clear _h _hg _hgl
 unfold fA
 go_enter Tryz.func18,Tryz.ntmps18
 go_wp2_with fail
 exact bodyPost_ret (v:=.bool true) (by simp[results,Tryz.results18,go_sem]) rfl ⟨zc2 true (fun h9=>absurd h9 (by decide)),HE.out.bel⟩
set_option maxRecDepth 100000 in
theorem zh1 (w:World) (f:FoV) (_h:FoA f w) (Ag:Option Addr) (cg:Nat) (gs:List RsV) (_hg:LsR 1 znm okS Ag gs w) (_hgl:gs.length≤3) (e0:¬(5:Int)<f.M) (e1:¬(12:Int)<(f.cols.length:Int)) (e2:¬(20:Int)<(f.lo.length:Int)) (e3:¬(20:Int)<(f.hi.length:Int)) (e4:(20:Int)<(f.cost.length:Int)):
 Calls Tryz.prog 18 #[fA f,.slice Ag gs.length cg] w fun e w'=>GRes (NotGreat f gs) e∧Below w.heap.size w w':=by
 have HE:=znd (lyF f (Rests.pure trivial w _))
 have c:=Env.c1 HE.out
 clear _h _hg _hgl
 unfold fA
 go_enter Tryz.func18,Tryz.ntmps18
 go_wp2_with fail
 exact bodyPost_ret (v:=.bool true) (by simp[results,Tryz.results18,go_sem]) rfl ⟨zc2 true (fun h9=>absurd h9 (by decide)),HE.out.bel⟩
set_option maxRecDepth 100000 in
theorem zls (w:World) (f:FoV) (_h:FoA f w) (Ag:Option Addr) (cg:Nat) (gs:List RsV) (_hg:LsR 1 znm okS Ag gs w) (_hgl:gs.length≤3) (e0:¬(5:Int)<f.M) (e1:¬(12:Int)<(f.cols.length:Int)) (e2:¬(20:Int)<(f.lo.length:Int)) (e3:¬(20:Int)<(f.hi.length:Int)) (e4:¬(20:Int)<(f.cost.length:Int)) (e5:(20:Int)<(f.b.length:Int)):
 Calls Tryz.prog 18 #[fA f,.slice Ag gs.length cg] w fun e w'=>GRes (NotGreat f gs) e∧Below w.heap.size w w':=by
 have HE:=znd (lyF f (Rests.pure trivial w _))
 have c:=Env.c1 HE.out
 clear _h _hg _hgl
 unfold fA
 go_enter Tryz.func18,Tryz.ntmps18
 go_wp2_with fail
 exact bodyPost_ret (v:=.bool true) (by simp[results,Tryz.results18,go_sem]) rfl ⟨zc2 true (fun h9=>absurd h9 (by decide)),HE.out.bel⟩
set_option maxRecDepth 100000 in
theorem zjN (w:World) (f:FoV) (h:FoA f w) (Ag:Option Addr) (cg:Nat) (gs:List RsV) (hg:LsR 1 znm okS Ag gs w) (hgl:gs.length≤3) (e0:¬(5:Int)<f.M) (e1:¬(12:Int)<(f.cols.length:Int)) (e2:¬(20:Int)<(f.lo.length:Int)) (e3:¬(20:Int)<(f.hi.length:Int)) (e4:¬(20:Int)<(f.cost.length:Int)) (e5:¬(20:Int)<(f.b.length:Int)):
 Calls Tryz.prog 18 #[fA f,.slice Ag gs.length cg] w fun e w'=>GRes (NotGreat f gs) e∧Below w.heap.size w w':=by
 have slc:=h.cols.sl
 have slg:=hg.sl
 have hszc:=zaw
 have hszr:=zal
 have hszt:=zai
 have hszs:=zjZ
 have hadd:=zaa
 have HE:=znd (lyF f ((h.old).and ((hg.old zof))))
 have c:=Env.c1 HE.out
 clear h hg
 unfold fA
 go_enter Tryz.func18,Tryz.ntmps18
 go_wp2_with fail
 go_upto_region 3 with fail
 have HG0:=znd ((GL.start HE.out).imp (φ:=fun V=>Blk V (w.heap.size) 32 #[.int .i64 f.M,.slice f.Ac f.cols.length f.cc,.slice f.Al f.lo.length f.cl,.slice f.Ah f.hi.length f.ch,.slice f.Ak f.cost.length f.ck,.slice f.Ab f.b.length f.cb]∧FoA f V∧LsR 1 znm okS Ag gs V) (ψ:=fun _=>True) (fun _ h=>⟨h.1 ⟨w.heap.size,32,#[.int .i64 f.M,.slice f.Ac f.cols.length f.cc,.slice f.Al f.lo.length f.cl,.slice f.Ah f.hi.length f.ch,.slice f.Ak f.cost.length f.ck,.slice f.Ab f.b.length f.cb]⟩ (by simp),h.2⟩) (fun _ h=>h))
 clear HE
 refine wp_region_noPanic ?_
 refine wp_region_held_drew (S:=(fun W=>CB (w.heap.size) #[.int .i64 f.M,.slice f.Ac f.cols.length f.cc,.slice f.Al f.lo.length f.cl,.slice f.Ah f.hi.length f.ch,.slice f.Ak f.cost.length f.ck,.slice f.Ab f.b.length f.cb] W)) (by kernel_rfl) (by with_reducible first|exact Blk.cb HG.out.o.1|exact Blk.cb HG0.out.drew_.o.1|exact c) (fun hHeld=>?_)
 refine hT 1 44 hHeld ?_
 refine hT 2 45 hHeld ?_
 refine hT 4 47 hHeld ?_
 refine hT 5 48 hHeld ?_
 refine hT 7 50 hHeld ?_
 refine hT 8 51 hHeld ?_
 refine hT 10 53 hHeld ?_
 refine hT 11 54 hHeld ?_
 refine za8 (i:=0) rfl (by kernel_rfl) (by rfl) (fun K hK=>?_)
 clear hHeld
 simp only[q1,q3]
 go_simp
 have HG:=znd (show GL w [⟨48,4,.slice (some ⟨w.heap.size+1,0,none⟩) ([]:List (RV×Rat)).length 0,([]:List (RV×Rat)).map za0⟩] (fun V=>Blk V (w.heap.size) 32 #[.int .i64 f.M,.slice f.Ac f.cols.length f.cc,.slice f.Al f.lo.length f.cl,.slice f.Ah f.hi.length f.ch,.slice f.Ak f.cost.length f.ck,.slice f.Ab f.b.length f.cb]∧FoA f V∧LsR 1 znm okS Ag gs V) (fun _=>True) (((w.alloc (.cells #[.int .i64 f.M,.slice f.Ac f.cols.length f.cc,.slice f.Al f.lo.length f.cl,.slice f.Ah f.hi.length f.ch,.slice f.Ak f.cost.length f.ck,.slice f.Ab f.b.length f.cb] 32)).alloc (.cells #[] 48)).drew)from(GL.made_ HG0.out (by simp) 48 4).drew_)
 clear HG0
 (try(go_wp2_with fail))
 refine hK.out _ _ (by with_reducible first|exact Blk.cb HG.out.o.1|exact Blk.cb HG0.out.drew_.o.1|exact c) (fun hHeld=>?_)
 clear hK K
 try simp only[p1,p2,p3,p4]
 refine za8 (i:=3) rfl (by kernel_rfl) (by rfl) (fun K hK=>?_)
 clear hHeld
 simp only[q1,q2,q3]
 obtain⟨v1,w1,hrun,hG⟩:=GL.apps zbn zc7 rfl (by decide) HG.out (Env.start (Rests.pure trivial _ _):Env _ [] (fun _=>True) (fun _=>True) _) HG.out.o.2.1.lo.el (fun d hd=>by obtain⟨p,-,rfl⟩:=List.mem_map.1 hd;exact zbH p) (by simp;omega) (by simp[maxLen];omega)
 rw[List.length_map]at hrun
 obtain⟨A1,c1,hv1,-⟩:=(hG.own _ (List.mem_cons_self ..)).form
 have hv1':v1=.slice A1 (([]:List (RV×Rat))++f.lo).length c1:=by rw[show v1=_ from hv1];simp
 subst hv1'
 have HG2:=znd (show GL w [⟨48,4,.slice A1 (([]:List (RV×Rat))++f.lo).length c1,(([]:List (RV×Rat))++f.lo).map za0⟩] (fun V=>Blk V (w.heap.size) 32 #[.int .i64 f.M,.slice f.Ac f.cols.length f.cc,.slice f.Al f.lo.length f.cl,.slice f.Ah f.hi.length f.ch,.slice f.Ak f.cost.length f.ck,.slice f.Ab f.b.length f.cb]∧FoA f V∧LsR 1 znm okS Ag gs V) (fun _=>True) w1 from by rw[List.map_append];exact hG.imp (fun _ h=>h) (fun _ _=>trivial))
 obtain⟨L1,hL1⟩:∃L,L=([]:List (RV×Rat))++f.lo:=⟨_,rfl⟩
 rw[←hL1]at hrun HG2
 have HL1:=znd hL1
 have hl1:L1.length=([]:List (RV×Rat)).length+f.lo.length:=by rw[hL1,List.length_append]
 clear hL1
 refine zc4 (.tmp 43) (.tmp 45) 30 (v:=.slice (some ⟨w.heap.size+1,0,none⟩) 0 0) (y:=.slice f.Al f.lo.length f.cl) rfl rfl rfl hrun ?_
 replace HG:=HG2
 have hll1:L1.length≤20:=by simp at hl1;omega
 clear hG hv1 hrun HG2 hl1
 (try(go_wp2_with fail))
 refine hK.out _ _ (by with_reducible first|exact Blk.cb HG.out.o.1|exact Blk.cb HG0.out.drew_.o.1|exact c) (fun hHeld=>?_)
 clear hK K
 try simp only[p1,p2,p3,p4]
 refine za8 (i:=6) rfl (by kernel_rfl) (by rfl) (fun K hK=>?_)
 clear hHeld
 simp only[q1,q2,q3]
 obtain⟨v2,w2,hrun,hG⟩:=GL.apps zbn zc7 rfl (by decide) HG.out (Env.start (Rests.pure trivial _ _):Env _ [] (fun _=>True) (fun _=>True) _) HG.out.o.2.1.hi.el (fun d hd=>by obtain⟨p,-,rfl⟩:=List.mem_map.1 hd;exact zbH p) (by simp;omega) (by simp[maxLen];omega)
 rw[List.length_map]at hrun
 obtain⟨A2,c2,hv2,-⟩:=(hG.own _ (List.mem_cons_self ..)).form
 have hv2':v2=.slice A2 (L1++f.hi).length c2:=by rw[show v2=_ from hv2];simp
 subst hv2'
 have HG2:=znd (show GL w [⟨48,4,.slice A2 (L1++f.hi).length c2,(L1++f.hi).map za0⟩] (fun V=>Blk V (w.heap.size) 32 #[.int .i64 f.M,.slice f.Ac f.cols.length f.cc,.slice f.Al f.lo.length f.cl,.slice f.Ah f.hi.length f.ch,.slice f.Ak f.cost.length f.ck,.slice f.Ab f.b.length f.cb]∧FoA f V∧LsR 1 znm okS Ag gs V) (fun _=>True) w2 from by rw[List.map_append];exact hG.imp (fun _ h=>h) (fun _ _=>trivial))
 obtain⟨L2,hL2⟩:∃L,L=L1++f.hi:=⟨_,rfl⟩
 rw[←hL2]at hrun HG2
 have HL2:=znd hL2
 have hl2:L2.length=L1.length+f.hi.length:=by rw[hL2,List.length_append]
 clear hL2
 refine zc4 (.tmp 46) (.tmp 48) 30 (v:=.slice A1 (L1).length c1) (y:=.slice f.Ah f.hi.length f.ch) rfl rfl rfl hrun ?_
 replace HG:=HG2
 have hll2:L2.length≤40:=by omega
 clear hG hv2 hrun HG2 hl2
 (try(go_wp2_with fail))
 refine hK.out _ _ (by with_reducible first|exact Blk.cb HG.out.o.1|exact Blk.cb HG0.out.drew_.o.1|exact c) (fun hHeld=>?_)
 clear hK K
 try simp only[p1,p2,p3,p4]
 refine za8 (i:=9) rfl (by kernel_rfl) (by rfl) (fun K hK=>?_)
 clear hHeld
 simp only[q1,q2,q3]
 obtain⟨v3,w3,hrun,hG⟩:=GL.apps zbn zc7 rfl (by decide) HG.out (Env.start (Rests.pure trivial _ _):Env _ [] (fun _=>True) (fun _=>True) _) HG.out.o.2.1.cost.el (fun d hd=>by obtain⟨p,-,rfl⟩:=List.mem_map.1 hd;exact zbH p) (by simp;omega) (by simp[maxLen];omega)
 rw[List.length_map]at hrun
 obtain⟨A3,c3,hv3,-⟩:=(hG.own _ (List.mem_cons_self ..)).form
 have hv3':v3=.slice A3 (L2++f.cost).length c3:=by rw[show v3=_ from hv3];simp
 subst hv3'
 have HG2:=znd (show GL w [⟨48,4,.slice A3 (L2++f.cost).length c3,(L2++f.cost).map za0⟩] (fun V=>Blk V (w.heap.size) 32 #[.int .i64 f.M,.slice f.Ac f.cols.length f.cc,.slice f.Al f.lo.length f.cl,.slice f.Ah f.hi.length f.ch,.slice f.Ak f.cost.length f.ck,.slice f.Ab f.b.length f.cb]∧FoA f V∧LsR 1 znm okS Ag gs V) (fun _=>True) w3 from by rw[List.map_append];exact hG.imp (fun _ h=>h) (fun _ _=>trivial))
 obtain⟨L3,hL3⟩:∃L,L=L2++f.cost:=⟨_,rfl⟩
 rw[←hL3]at hrun HG2
 have HL3:=znd hL3
 have hl3:L3.length=L2.length+f.cost.length:=by rw[hL3,List.length_append]
 clear hL3
 refine zc4 (.tmp 49) (.tmp 51) 30 (v:=.slice A2 (L2).length c2) (y:=.slice f.Ak f.cost.length f.ck) rfl rfl rfl hrun ?_
 replace HG:=HG2
 have hll3:L3.length≤60:=by omega
 clear hG hv3 hrun HG2 hl3
 (try(go_wp2_with fail))
 refine hK.out _ _ (by with_reducible first|exact Blk.cb HG.out.o.1|exact Blk.cb HG0.out.drew_.o.1|exact c) (fun hHeld=>?_)
 clear hK K
 try simp only[p1,p2,p3,p4]
 refine za8 (i:=12) rfl (by kernel_rfl) (by rfl) (fun K hK=>?_)
 clear hHeld
 simp only[q1,q2,q3]
 obtain⟨v4,w4,hrun,hG⟩:=GL.apps zbn zc7 rfl (by decide) HG.out (Env.start (Rests.pure trivial _ _):Env _ [] (fun _=>True) (fun _=>True) _) HG.out.o.2.1.b.el (fun d hd=>by obtain⟨p,-,rfl⟩:=List.mem_map.1 hd;exact zbH p) (by simp;omega) (by simp[maxLen];omega)
 rw[List.length_map]at hrun
 obtain⟨A4,c4,hv4,-⟩:=(hG.own _ (List.mem_cons_self ..)).form
 have hv4':v4=.slice A4 (L3++f.b).length c4:=by rw[show v4=_ from hv4];simp
 subst hv4'
 have HG2:=znd (show GL w [⟨48,4,.slice A4 (L3++f.b).length c4,(L3++f.b).map za0⟩] (fun V=>Blk V (w.heap.size) 32 #[.int .i64 f.M,.slice f.Ac f.cols.length f.cc,.slice f.Al f.lo.length f.cl,.slice f.Ah f.hi.length f.ch,.slice f.Ak f.cost.length f.ck,.slice f.Ab f.b.length f.cb]∧FoA f V∧LsR 1 znm okS Ag gs V) (fun _=>True) w4 from by rw[List.map_append];exact hG.imp (fun _ h=>h) (fun _ _=>trivial))
 obtain⟨L4,hL4⟩:∃L,L=L3++f.b:=⟨_,rfl⟩
 rw[←hL4]at hrun HG2
 have HL4:=znd hL4
 have hl4:L4.length=L3.length+f.b.length:=by rw[hL4,List.length_append]
 clear hL4
 refine zc4 (.tmp 52) (.tmp 54) 30 (v:=.slice A3 (L3).length c3) (y:=.slice f.Ab f.b.length f.cb) rfl rfl rfl hrun ?_
 replace HG:=HG2
 have hll4:L4.length≤80:=by omega
 clear hG hv4 hrun HG2 hl4
 (try(go_wp2_with fail))
 refine hK.out _ _ (by with_reducible first|exact Blk.cb HG.out.o.1|exact Blk.cb HG0.out.drew_.o.1|exact c) (fun hHeld=>?_)
 clear hK K
 try simp only[p1,p2,p3,p4]
 refine hT 13 5 hHeld ?_
 refine wpAnyH_done (by kernel_rfl) ?_ _
 refine NoPanic.normal ?_
 clear c
 have HL0:=znd (show L4=f.lo++f.hi++f.cost++f.b from by rw[HL4.out,HL3.out,HL2.out,HL1.out,List.nil_append])
 clear HL1 HL2 HL3 HL4 hll1 hll2 hll3
 have c:=Blk.cb HG.out.o.1
 go_wp2_with fail
 clear c
 go_loopw [5,6] (fun av iv wr=>∃(Aa:Option Addr) (ca i:Nat) (qs:List (RV×Rat)),av=.slice Aa qs.length ca∧iv=.int .i64 (i:Int)∧i≤f.cols.length∧Hid (qs=L4++allC (f.cols.take i))∧Hid (∀k (h:k<f.cols.length),k<i→f.cols[k].ts.length≤20)∧Hid (qs.length≤80+20*i)∧Hid (GL w [⟨48,4,.slice Aa qs.length ca,qs.map za0⟩] (fun V=>Blk V (w.heap.size) 32 #[.int .i64 f.M,.slice f.Ac f.cols.length f.cc,.slice f.Al f.lo.length f.cl,.slice f.Ah f.hi.length f.ch,.slice f.Ak f.cost.length f.ck,.slice f.Ab f.b.length f.cb]∧FoA f V∧LsR 1 znm okS Ag gs V) (fun _=>True) wr)) (fun _ iv _=>f.cols.length-(intOf iv).toNat)
 case atStart=>exact⟨A4,c4,0,L4,rfl,rfl,Nat.zero_le _,znd (by simp[allC]),znd (fun k _ h=>absurd h (Nat.not_lt_zero _)),znd hll4,HG⟩
 case round=>
  clear HG
  obtain⟨Aa,ca,i,qs,rfl,rfl,hi,HA,HC,Hl,HG⟩:=hrel
  have c:=Blk.cb HG.out.o.1
  by_cases hlt:i<f.cols.length
  ·have hlt':(i:Int)<(f.cols.length:Int):=by omega
   have HV:=znd (fun(V:World) (h:FoA f V)=>h.cols.vc i hlt)
   have HN:=znd (zig hlt)
   have HC2:=znd (show f.cols[i].ts.length≤20→∀k (h:k<f.cols.length),k<i+1→f.cols[k].ts.length≤20 from fun hs k h hk=>by
    rcases Nat.lt_succ_iff_lt_or_eq.1 hk with e|e
    ·exact HC.out k h e
    ·subst e;exact hs)
   obtain⟨v,hv⟩:∃v,v=f.cols[i]:=⟨_,rfl⟩
   have Hm:=znd (show v∈f.cols by rw[hv];exact List.getElem_mem hlt)
   rw[←hv]at HV HN HC2
   clear hv HC
   have cv:=HV.out _ HG.out.o.2.1
   by_cases h20:(20:Int)<(v.ts.length:Int)
   ·go_wp2_with fail
    exact bodyPost_ret (v:=.bool true) (by simp[results,Tryz.results18,go_sem]) rfl ⟨zc2 true (fun h9=>absurd h9 (by decide)),HG.out.bel⟩
   ·have h20n:v.ts.length≤20:=by omega
    go_wp2_with fail
    clear c cv
    go_loopw [5,7] (fun av kv wr=>∃(Aa:Option Addr) (ca k:Nat) (qs:List (RV×Rat)),av=.slice Aa qs.length ca∧kv=.int .i64 (k:Int)∧k≤v.ts.length∧Hid (qs=L4++allC (f.cols.take i)++(v.ts.take k).map tr)∧Hid (qs.length≤80+20*i+k)∧Hid (GL w [⟨48,4,.slice Aa qs.length ca,qs.map za0⟩] (fun V=>Blk V (w.heap.size) 32 #[.int .i64 f.M,.slice f.Ac f.cols.length f.cc,.slice f.Al f.lo.length f.cl,.slice f.Ah f.hi.length f.ch,.slice f.Ak f.cost.length f.ck,.slice f.Ab f.b.length f.cb]∧FoA f V∧LsR 1 znm okS Ag gs V) (fun _=>True) wr)) (fun _ kv _=>v.ts.length-(intOf kv).toNat)
    case atStart=>exact⟨Aa,ca,0,qs,rfl,rfl,Nat.zero_le _,znd (by rw[HA.out];simp),znd (by have:=Hl.out;omega),HG⟩
    case round=>
     clear HG HA Hl
     obtain⟨Aa,ca,k,qs,rfl,rfl,hk,HA,Hl,HG⟩:=hrel
     have c:=Blk.cb HG.out.o.1
     have cv:=HV.out _ HG.out.o.2.1
     by_cases hlk:k<v.ts.length
     ·have hlk':(k:Int)<(v.ts.length:Int):=by omega
      have slv:=(HG.out.o.2.1.cols.ok v Hm.out).sl
      have ct:=(HG.out.o.2.1.cols.ok v Hm.out).tc k hlk
      have HT:=znd (show(v.ts.take (k+1)).map tr=(v.ts.take k).map tr++[tr v.ts[k]] by rw[List.take_succ_eq_append_getElem hlk,List.map_append];rfl)
      obtain⟨t,ht⟩:∃t,t=v.ts[k]:=⟨_,rfl⟩
      rw[←ht]at ct HT
      clear ht
      obtain⟨Ap,cp,w8,hrun,hG⟩:=GL.appR zbn HG.out HG.out.env (tr t) (by have:=Hl.out;omega)
      have Hrun:=znd hrun
      have HG2:=znd hG
      clear hrun hG HG
      go_wp2_with (at_builtin;refine zac rfl (.tmp 80) (.tmp 90) 30 _ _ _ rfl rfl rfl Hrun.out ?_)
      clear Hrun c cv ct
      go_wp2_with fail
      go_roundw
      case rel=>exact⟨Ap,cp,k+1,qs++[tr t],by simp,by go_num,by omega,znd (by rw[HT.out,HA.out,List.append_assoc]),znd (by have:=Hl.out;simp;omega),znd (HG2.out.imp (fun _ h=>h) (fun _ _=>trivial))⟩
      case measure=>(simp[intOf]<;>omega)
     ·obtain rfl:k=v.ts.length:=by omega
      go_wp2_with fail
      go_roundw
      case rel=>exact⟨Aa,ca,i+1,qs,rfl,by go_num,by omega,znd (by rw[HA.out,List.take_length,HN.out,List.append_assoc]),znd (HC2.out h20n),znd (by have:=Hl.out;omega),HG⟩
      case measure=>(simp[intOf]<;>omega)
  ·obtain rfl:i=f.cols.length:=by omega
   have hnu:¬(f.cols.length:Int)<(f.cols.length:Int):=by omega
   have HA2:=znd (show qs=L4++allC f.cols by rw[HA.out,List.take_length])
   have HCl:=znd (show∀v∈f.cols,v.ts.length≤20 from fun v hv=>by obtain⟨k,hk,rfl⟩:=List.mem_iff_getElem.1 hv;exact HC.out k hk hk)
   have hl2:qs.length≤320:=by have:=Hl.out;omega
   clear HA HC Hl
   go_wp2_with fail
   clear c
   go_loopw [5,8] (fun av iv wr=>∃(Aa:Option Addr) (ca i:Nat) (qs:List (RV×Rat)),av=.slice Aa qs.length ca∧iv=.int .i64 (i:Int)∧i≤gs.length∧Hid (qs=L4++allC f.cols++allS (gs.take i))∧Hid (∀k (h:k<gs.length),k<i→gs[k].ps.length≤30)∧Hid (qs.length≤320+30*i)∧Hid (GL w [⟨48,4,.slice Aa qs.length ca,qs.map za0⟩] (fun V=>Blk V (w.heap.size) 32 #[.int .i64 f.M,.slice f.Ac f.cols.length f.cc,.slice f.Al f.lo.length f.cl,.slice f.Ah f.hi.length f.ch,.slice f.Ak f.cost.length f.ck,.slice f.Ab f.b.length f.cb]∧FoA f V∧LsR 1 znm okS Ag gs V) (fun _=>True) wr)) (fun _ iv _=>gs.length-(intOf iv).toNat)
   case atStart=>exact⟨Aa,ca,0,qs,rfl,rfl,Nat.zero_le _,znd (by rw[HA2.out];simp[allS]),znd (fun k _ h=>absurd h (Nat.not_lt_zero _)),znd (by omega),HG⟩
   case round=>
    clear HG HA2 hl2
    obtain⟨Aa,ca,i,qs,rfl,rfl,hi,HA,HC,Hl,HG⟩:=hrel
    by_cases hlt:i<gs.length
    ·have hlt':(i:Int)<(gs.length:Int):=by omega
     have HV:=znd (fun(V:World) (h:LsR 1 znm okS Ag gs V)=>h.scR i hlt)
     have HN:=znd (znO hlt)
     have HC2:=znd (show gs[i].ps.length≤30→∀k (h:k<gs.length),k<i+1→gs[k].ps.length≤30 from fun hs k h hk=>by
      rcases Nat.lt_succ_iff_lt_or_eq.1 hk with e|e
      ·exact HC.out k h e
      ·subst e;exact hs)
     obtain⟨l,hl⟩:∃v,v=gs[i]:=⟨_,rfl⟩
     have Hm:=znd (show l∈gs by rw[hl];exact List.getElem_mem hlt)
     rw[←hl]at HV HN HC2
     clear hl HC
     have cv:=HV.out _ HG.out.o.2.2
     by_cases h30:(30:Int)<(l.ps.length:Int)
     ·go_wp2_with fail
      exact bodyPost_ret (v:=.bool true) (by simp[results,Tryz.results18,go_sem]) rfl ⟨zc2 true (fun h9=>absurd h9 (by decide)),HG.out.bel⟩
     ·have h30n:l.ps.length≤30:=by omega
      obtain⟨v8,w8,hrun,hG⟩:=GL.apps zbn zc7 rfl (by decide) HG.out HG.out.env (HG.out.o.2.2.ok l Hm.out).el (c:=l.c) (fun d hd=>by obtain⟨p,-,rfl⟩:=List.mem_map.1 hd;exact zbH p) (by have:=Hl.out;simp;omega) (by have:=Hl.out;simp[maxLen];omega)
      rw[List.length_map]at hrun
      obtain⟨A8,c8,hv8,-⟩:=(hG.own _ (List.mem_cons_self ..)).form
      have hv8':v8=.slice A8 (qs++l.ps).length c8:=by rw[show v8=_ from hv8];simp
      subst hv8'
      have HG2:=znd (show GL w [⟨48,4,.slice A8 (qs++l.ps).length c8,(qs++l.ps).map za0⟩] (fun V=>Blk V (w.heap.size) 32 #[.int .i64 f.M,.slice f.Ac f.cols.length f.cc,.slice f.Al f.lo.length f.cl,.slice f.Ah f.hi.length f.ch,.slice f.Ak f.cost.length f.ck,.slice f.Ab f.b.length f.cb]∧FoA f V∧LsR 1 znm okS Ag gs V) (fun _=>True) w8 from by rw[List.map_append];exact hG.imp (fun _ h=>h) (fun _ _=>trivial))
      have Hrun:=znd hrun
      clear hG hrun hv8 HG
      go_wp2_with (at_builtin;refine zac rfl (.tmp 104) (.tmp 108) 30 _ _ _ rfl rfl rfl Hrun.out ?_)
      clear Hrun cv
      go_wp2_with fail
      go_roundw
      case rel=>exact⟨A8,c8,i+1,qs++l.ps,by simp,by go_num,by omega,znd (by rw[HN.out,HA.out,List.append_assoc]),znd (HC2.out h30n),znd (by have:=Hl.out;simp;omega),HG2⟩
      case measure=>(simp[intOf]<;>omega)
    ·obtain rfl:i=gs.length:=by omega
     have hnu2:¬(gs.length:Int)<(gs.length:Int):=by omega
     have HA2:=znd (show qs=L4++allC f.cols++allS gs by rw[HA.out,List.take_length])
     have HSl:=znd (show∀l∈gs,l.ps.length≤30 from fun v hv=>by obtain⟨k,hk,rfl⟩:=List.mem_iff_getElem.1 hv;exact HC.out k hk hk)
     have hl2:qs.length≤500:=by have:=Hl.out;omega
     clear HA HC Hl
     go_wp2_with fail
     go_loopw [9] (fun iv wr=>∃i:Nat,iv=.int .i64 (i:Int)∧i≤qs.length∧Hid (∀k (h:k<qs.length),k<i→zdN qs[k])∧Hid (GL w [⟨48,4,.slice Aa qs.length ca,qs.map za0⟩] (fun V=>Blk V (w.heap.size) 32 #[.int .i64 f.M,.slice f.Ac f.cols.length f.cc,.slice f.Al f.lo.length f.cl,.slice f.Ah f.hi.length f.ch,.slice f.Ak f.cost.length f.ck,.slice f.Ab f.b.length f.cb]∧FoA f V∧LsR 1 znm okS Ag gs V) (fun _=>True) wr)) (fun iv _=>qs.length-(intOf iv).toNat)
     case atStart=>exact⟨0,rfl,Nat.zero_le _,znd (fun k _ h=>absurd h (Nat.not_lt_zero _)),HG⟩
     case round=>
      clear HG
      obtain⟨i,rfl,hi,HP,HG⟩:=hrel
      by_cases hlt:i<qs.length
      ·have hlt':(i:Int)<(qs.length:Int):=by omega
       have HLs:=znd (show LsR 4 za0 (fun _ _=>True) Aa qs wr from⟨(show OwnE wr w.heap.size 48 4 (.slice Aa qs.length ca) (qs.map za0)from HG.out.own _ (List.mem_cons_self ..)).el.1,fun _ _=>trivial⟩)
       have sla:=HLs.out.sl
       have ca2:=HLs.out.rc i hlt
       have HP2:=znd (show zdN qs[i]→∀k (h:k<qs.length),k<i+1→zdN qs[k]from fun hs k h hk=>by
        rcases Nat.lt_succ_iff_lt_or_eq.1 hk with e|e
        ·exact HP.out k h e
        ·subst e;exact hs)
       obtain⟨p,hp⟩:∃p,p=qs[i]:=⟨_,rfl⟩
       rw[←hp]at ca2 HP2
       clear hp HLs HP
       go_wp2_with fail
       refine(zgd _ p).mono ?_
       rintro e w9 ⟨⟨B,rfl,hB⟩,hb⟩
       replace HG:=znd (GL.after HG.out (Env.of_below hb))
       have HB:=znd hB
       clear hb hB ca2
       cases B
       ·have HP3:=znd (HP2.out (HB.out rfl))
        go_wp2_with fail
        go_roundw
        case rel=>exact⟨i+1,by go_num,by omega,HP3,HG⟩
        case measure=>(simp[intOf]<;>omega)
       ·go_wp2_with fail
        exact bodyPost_ret (v:=.bool true) (by simp[results,Tryz.results18,go_sem]) rfl ⟨zc2 true (fun h9=>absurd h9 (by decide)),HG.out.bel⟩
      ·obtain rfl:i=qs.length:=by omega
       have hnu3:¬(qs.length:Int)<(qs.length:Int):=by omega
       have HF:=znd (show NotGreat f gs from⟨by omega,by omega,by omega,by omega,by omega,by omega,HCl.out,HSl.out,fun p hp=>by
        rw[←HL0.out,←HA2.out]at hp
        obtain⟨k,hk,rfl⟩:=List.mem_iff_getElem.1 hp
        exact HP.out k hk hk⟩)
       go_wp2_with fail
       exact bodyPost_ret (v:=.bool false) (by simp[results,Tryz.results18,go_sem]) rfl ⟨zc2 false (fun _=>HF.out),HG.out.bel⟩
theorem ziC (w:World) (f:FoV) (h:FoA f w) (Ag:Option Addr) (cg:Nat) (gs:List RsV) (hg:LsR 1 znm okS Ag gs w) (hgl:gs.length≤3):
 Calls Tryz.prog 18 #[fA f,.slice Ag gs.length cg] w fun e w'=>GRes (NotGreat f gs) e∧Below w.heap.size w w':=by
 by_cases e0:(5:Int)<f.M
 ·exact zlC w f h Ag cg gs hg hgl e0
 ·by_cases e1:(12:Int)<(f.cols.length:Int)
  ·exact zhA w f h Ag cg gs hg hgl e0 e1
  ·by_cases e2:(20:Int)<(f.lo.length:Int)
   ·exact zjw w f h Ag cg gs hg hgl e0 e1 e2
   ·by_cases e3:(20:Int)<(f.hi.length:Int)
    ·exact zki w f h Ag cg gs hg hgl e0 e1 e2 e3
    ·by_cases e4:(20:Int)<(f.cost.length:Int)
     ·exact zh1 w f h Ag cg gs hg hgl e0 e1 e2 e3 e4
     ·by_cases e5:(20:Int)<(f.b.length:Int)
      ·exact zls w f h Ag cg gs hg hgl e0 e1 e2 e3 e4 e5
      ·exact zjN w f h Ag cg gs hg hgl e0 e1 e2 e3 e4 e5

theorem Env.join {w W W':World} {bs bs':List Bo} {old new new':World→Prop} (h:Env w bs old new W) (h':Env W bs' (fun _=>True) new' W'):Env w (bs'++bs) old (fun V=>new' V∧new V) W':=by
 have hlt:∀b∈bs,b.g<W.heap.size:=fun b hb=>(h.bx b hb).lt
 have hge:∀b∈bs',W.heap.size≤b.g:=h'.own
 have hsz:=h.bel.size
 refine⟨fun b hb=>?_,?_,?_,Below.after h.bel h'.bel,fun b hb=>?_,?_⟩
 ·rcases List.mem_append.1 hb with hb|hb
  ·exact h'.bx b hb
  ·exact(h.bx b hb).below h'.bel (hlt b hb)
 ·refine(h.rso.lt.below h'.bel).mono fun n hn b hb=>?_
  rcases List.mem_append.1 hb with hb|hb
  ·have:=hge b hb;have:=hn.2;omega
  ·exact hn.1 b hb
 ·refine Rests.and (h'.rsn.mono fun n hn=>⟨by have:=hn.1;omega,fun b hb=>?_⟩) ((h.rsn.lt.below h'.bel).mono fun n hn=>⟨hn.1.1,fun b hb=>?_⟩)
  ·rcases List.mem_append.1 hb with hb|hb
   ·exact hn.2 b hb
   ·have:=hlt b hb;have:=hn.1;omega
  ·rcases List.mem_append.1 hb with hb|hb
   ·have:=hge b hb;have:=hn.2;omega
   ·exact hn.1.2 b hb
 ·rcases List.mem_append.1 hb with hb|hb
  ·have:=hge b hb;omega
  ·exact h.own b hb
 ·refine List.pairwise_append.2 ⟨h'.nd,h.nd,fun a ha b hb=>?_⟩
  have:=hge a ha
  have:=hlt b hb
  omega
theorem Env.al3 {w W:World} {bs:List Bo} {old new:World→Prop} (h:Env w bs old new W) (t1 t2 t3:TypeId) (c1:Array Value) (c2:Nat→Array Value) (c3:Array Value):∃W' g,((W.alloc (.cells c1 t1)).alloc (.cells (c2 W.heap.size) t2)).alloc (.cells c3 t3)=W'∧W.heap.size=g∧Hid (Env w (⟨g+1+1,t3,c3⟩::⟨g+1,t2,c2 g⟩::⟨g,t1,c1⟩::bs) old new W'):=
 ⟨_,_,rfl,rfl,znd (((h.new_ rfl t1 c1).new_ (by simp) t2 _).new_ (by simp) t3 c3)⟩
set_option maxRecDepth 100000 in
theorem zbC (w:World) (x:Int) (q:Rat) (hq:Rat.divInt x 1=q) (h1:-9223372036854775808≤x) (h2:x≤9223372036854775807) (hT:Tz w):Calls Tryz.prog 55 #[.int .i64 x] w (RetR q w):=by
 subst hq
 have HE:=znd (lyZ (hT.old))
 have c:=Env.c1 HE.out
 clear hT
 go_enter Tryz.func55,Tryz.ntmps55
 go_wp2_with fail
 refine(zg2 _ x 1 h1 h2 (by omega) (by omega) HE.out.o).mono ?_
 rintro e w1 ⟨k,rfl,hk,hb⟩
 replace HE:=znd (Env.ret HE.out hk hb)
 replace c:=Env.c1 HE.out
 clear hk hb
 go_wp2_with fail
 exact bodyPost_ret (v:=.agg #[.bool k.num.neg,.slice k.num.A k.num.k k.num.c,.bool k.den.neg,.slice k.den.A k.den.k k.den.c]) (by simp[results,Tryz.results55,go_sem,Env.c1 (HE.out.put4 (.bool k.num.neg) (.slice k.num.A k.num.k k.num.c) (.bool k.den.neg) (.slice k.den.A k.den.k k.den.c))]) rfl ((HE.out.put4 _ _ _ _).retR' rfl fun _ h=>h.1)
def c8 (p q:RV×Rat):Array Value:=#[.bool p.1.num.neg,.slice p.1.num.A p.1.num.k p.1.num.c,.bool p.1.den.neg,.slice p.1.den.A p.1.den.k p.1.den.c,.bool q.1.num.neg,.slice q.1.num.A q.1.num.k q.1.num.c,.bool q.1.den.neg,.slice q.1.den.A q.1.den.k q.1.den.c]
theorem ls2 {ok:RV×Rat→World→Prop} {W:World} {g:Nat} {t:TypeId} {p q:RV×Rat} (h:Blk W g t (c8 p q)) (hp:ok p W) (hq:ok q W):LsR 4 za0 ok (some ⟨g,0,none⟩) [p,q] W:=by
 refine⟨⟨Sl.some_ _ _ _,fun i hi=>?_,fun i hi j hj=>?_⟩,fun x hx=>?_⟩
 ·match i,hi with
  |0,_=>rfl
  |1,_=>rfl
 ·rw[za6,Nat.zero_add,h.cell]
  match i,hi,j,hj with
  |0,_,0,_=>rfl
  |0,_,1,_=>rfl
  |0,_,2,_=>rfl
  |0,_,3,_=>rfl
  |1,_,0,_=>rfl
  |1,_,1,_=>rfl
  |1,_,2,_=>rfl
  |1,_,3,_=>rfl
 ·simp only[List.mem_cons,List.not_mem_nil,or_false]at hx
  rcases hx with rfl|rfl
  ·exact hp
  ·exact hq
theorem ls1 {ok:RV×Rat→World→Prop} {W:World} {g:Nat} {t:TypeId} {p:RV×Rat} (h:Blk W g t #[.bool p.1.num.neg,.slice p.1.num.A p.1.num.k p.1.num.c,.bool p.1.den.neg,.slice p.1.den.A p.1.den.k p.1.den.c]) (hp:ok p W):LsR 4 za0 ok (some ⟨g,0,none⟩) [p] W:=by
 refine⟨⟨Sl.some_ _ _ _,fun i hi=>?_,fun i hi j hj=>?_⟩,fun x hx=>?_⟩
 ·match i,hi with
  |0,_=>rfl
 ·rw[za6,Nat.zero_add,h.cell]
  match i,hi,j,hj with
  |0,_,0,_=>rfl
  |0,_,1,_=>rfl
  |0,_,2,_=>rfl
  |0,_,3,_=>rfl
 ·rw[List.mem_singleton.1 hx];exact hp
theorem ls1t {ok:TeV→World→Prop} {W:World} {g:Nat} {t:TypeId} {x:TeV} (h:Blk W g t #[.int .i64 x.pl,.bool x.r.num.neg,.slice x.r.num.A x.r.num.k x.r.num.c,.bool x.r.den.neg,.slice x.r.den.A x.r.den.k x.r.den.c]) (hp:ok x W):LsR 5 tecells ok (some ⟨g,0,none⟩) [x] W:=by
 refine⟨⟨Sl.some_ _ _ _,fun i hi=>?_,fun i hi j hj=>?_⟩,fun y hy=>?_⟩
 ·match i,hi with
  |0,_=>rfl
 ·rw[za6,Nat.zero_add,h.cell]
  match i,hi,j,hj with
  |0,_,0,_=>rfl
  |0,_,1,_=>rfl
  |0,_,2,_=>rfl
  |0,_,3,_=>rfl
  |0,_,4,_=>rfl
 ·rw[List.mem_singleton.1 hy];exact hp
theorem ls2v {ok:VeV→World→Prop} {W:World} {g:Nat} {t:TypeId} {u v:VeV} (h:Blk W g t #[.slice u.A u.ts.length u.c,.slice v.A v.ts.length v.c]) (hp:ok u W) (hq:ok v W):LsR 1 za3 ok (some ⟨g,0,none⟩) [u,v] W:=by
 refine⟨⟨Sl.some_ _ _ _,fun i hi=>?_,fun i hi j hj=>?_⟩,fun x hx=>?_⟩
 ·match i,hi with
  |0,_=>rfl
  |1,_=>rfl
 ·rw[za6,Nat.zero_add,h.cell]
  match i,hi,j,hj with
  |0,_,0,_=>rfl
  |1,_,0,_=>rfl
 ·simp only[List.mem_cons,List.not_mem_nil,or_false]at hx
  rcases hx with rfl|rfl
  ·exact hp
  ·exact hq
structure PlK where
 k1:RV
 k2:RV
 k3:RV
 k4:RV
 k5:RV
 k6:RV
 a1:Nat
 a2:Nat
 gc:Nat
 gl:Nat
 gh:Nat
 gk:Nat
 gb:Nat
def PlK.cols (p:PlK):List VeV:=[⟨some ⟨p.a1,0,none⟩,1,[⟨0,p.k1,1⟩]⟩,⟨some ⟨p.a2,0,none⟩,1,[⟨0,p.k2,1⟩]⟩]
def PlK.cost (p:PlK):List (RV×Rat):=[(p.k5,-1),(zeroR,0)]
def PlK.b (p:PlK):List (RV×Rat):=[(p.k6,4)]
def PlK.form (p:PlK) (lo hi:List (RV×Rat)):FoV:=⟨1,some ⟨p.gc,0,none⟩,2,p.cols,some ⟨p.gl,0,none⟩,2,lo,some ⟨p.gh,0,none⟩,2,hi,some ⟨p.gk,0,none⟩,2,p.cost,some ⟨p.gb,0,none⟩,1,p.b⟩
def PlK.agg (p:PlK):Value:=.agg #[.int .i64 1,.slice (some ⟨p.gc,0,none⟩) 2 2,.slice (some ⟨p.gl,0,none⟩) 2 2,.slice (some ⟨p.gh,0,none⟩) 2 2,.slice (some ⟨p.gk,0,none⟩) 2 2,.slice (some ⟨p.gb,0,none⟩) 1 1]
def veO (v:VeV) (W:World):Prop:=LsR 5 tecells teN v.A v.ts W
def PlK.rest (p:PlK) (V:World):Prop:=LsR 1 za3 veO (some ⟨p.gc,0,none⟩) p.cols V∧LsR 4 za0 roN (some ⟨p.gk,0,none⟩) p.cost V∧LsR 4 za0 roN (some ⟨p.gb,0,none⟩) p.b V∧RatN p.k3 3 V∧RatN p.k4 9 V
def zn8 (w:World) (e:Ending) (W:World):Prop:=∃p:PlK,e=.returned p.agg∧Env w [⟨p.gh,48,c8 (p.k3,3) (p.k4,9)⟩,⟨p.gl,48,c8 (zeroR,0) (zeroR,0)⟩] (fun _=>True) p.rest W
theorem zi3 (x:Bo) (l:List Bo):(x::l).Perm (l++[x]):=by simpa using(List.perm_append_comm (l₁:=[x]) (l₂:=l))
theorem znc (b k h l c y x:Bo):[b,k,c,y,x,h,l].Perm [b,k,h,l,c,y,x]:=((List.perm_append_comm (l₁:=[c,y,x]) (l₂:=[h,l])).cons k).cons b
set_option maxRecDepth 100000 in
theorem ziZ (w:World) (hT:Tz w):Calls Tryz.prog 54 #[] w (zn8 w):=by
 obtain⟨W0,hW0⟩:∃W0,W0=(w.alloc (.cells #[.int .i64 0,.slice none 0 0,.slice none 0 0,.slice none 0 0,.slice none 0 0,.slice none 0 0] 32)):=⟨_,rfl⟩
 have HE:=znd (Env.lay1 (Env.start (hT.old)) hW0)
 subst hW0
 have c:=Env.c1 HE.out
 clear hT
 go_enter Tryz.func54,Tryz.ntmps54
 go_wp2_with fail
 clear c
 refine(zbC _ (1) (1) (by decide+kernel) (by decide) (by decide) HE.out.o).mono ?_
 rintro e w9 ⟨k1,rfl,hk,hb⟩
 replace HE:=znd (Env.ret HE.out hk hb)
 clear hk hb
 go_wp2_with fail
 obtain⟨W1,a1,hW,hg,HE⟩:=Env.al HE.out 65 #[.int .i64 0,.bool k1.num.neg,.slice k1.num.A k1.num.k k1.num.c,.bool k1.den.neg,.slice k1.den.A k1.den.k k1.den.c]
 rw[hW,hg]
 clear hW hg
 refine(zbC _ (1) (1) (by decide+kernel) (by decide) (by decide) HE.out.o).mono ?_
 rintro e w9 ⟨k2,rfl,hk,hb⟩
 replace HE:=znd (Env.ret HE.out hk hb)
 clear hk hb
 go_wp2_with fail
 obtain⟨W4,a2,hW,hg,HE⟩:=Env.al3 HE.out 65 25 48 #[.int .i64 0,.bool k2.num.neg,.slice k2.num.A k2.num.k k2.num.c,.bool k2.den.neg,.slice k2.den.A k2.den.k k2.den.c] (fun g=>#[.slice (some ⟨a1,0,none⟩) 1 1,.slice (some ⟨g,0,none⟩) 1 1]) #[.bool false,.slice none 0 0,.bool false,.slice none 0 0,.bool false,.slice none 0 0,.bool false,.slice none 0 0]
 try dsimp only at hW HE
 rw[hW,hg]
 clear hW hg
 refine(zbC _ (3) (3) (by decide+kernel) (by decide) (by decide) HE.out.o).mono ?_
 rintro e w9 ⟨k3,rfl,hk,hb⟩
 replace HE:=znd (Env.ret HE.out hk hb)
 clear hk hb
 go_wp2_with fail
 refine(zbC _ (9) (9) (by decide+kernel) (by decide) (by decide) HE.out.o).mono ?_
 rintro e w9 ⟨k4,rfl,hk,hb⟩
 replace HE:=znd (Env.ret HE.out hk hb)
 clear hk hb
 go_wp2_with fail
 obtain⟨W5,gh,hW,hg,HE⟩:=Env.al HE.out 48 #[.bool k3.num.neg,.slice k3.num.A k3.num.k k3.num.c,.bool k3.den.neg,.slice k3.den.A k3.den.k k3.den.c,.bool k4.num.neg,.slice k4.num.A k4.num.k k4.num.c,.bool k4.den.neg,.slice k4.den.A k4.den.k k4.den.c]
 rw[hW,hg]
 clear hW hg
 refine(zbC _ (-1) (-1) (by decide+kernel) (by decide) (by decide) HE.out.o).mono ?_
 rintro e w9 ⟨k5,rfl,hk,hb⟩
 replace HE:=znd (Env.ret HE.out hk hb)
 clear hk hb
 go_wp2_with fail
 obtain⟨W6,gk,hW,hg,HE⟩:=Env.al HE.out 48 #[.bool k5.num.neg,.slice k5.num.A k5.num.k k5.num.c,.bool k5.den.neg,.slice k5.den.A k5.den.k k5.den.c,.bool false,.slice none 0 0,.bool false,.slice none 0 0]
 rw[hW,hg]
 clear hW hg
 refine(zbC _ (4) (4) (by decide+kernel) (by decide) (by decide) HE.out.o).mono ?_
 rintro e w9 ⟨k6,rfl,hk,hb⟩
 replace HE:=znd (Env.ret HE.out hk hb)
 clear hk hb
 have HE2:=znd ((HE.out.new_ (g:=w9.heap.size) rfl 48 #[.bool k6.num.neg,.slice k6.num.A k6.num.k k6.num.c,.bool k6.den.neg,.slice k6.den.A k6.den.k k6.den.c]).perm (zi3 ⟨w.heap.size,32,#[.int .i64 0,.slice none 0 0,.slice none 0 0,.slice none 0 0,.slice none 0 0,.slice none 0 0]⟩ [⟨w9.heap.size,48,#[.bool k6.num.neg,.slice k6.num.A k6.num.k k6.num.c,.bool k6.den.neg,.slice k6.den.A k6.den.k k6.den.c]⟩,⟨gk,48,#[.bool k5.num.neg,.slice k5.num.A k5.num.k k5.num.c,.bool k5.den.neg,.slice k5.den.A k5.den.k k5.den.c,.bool false,.slice none 0 0,.bool false,.slice none 0 0]⟩,⟨gh,48,#[.bool k3.num.neg,.slice k3.num.A k3.num.k k3.num.c,.bool k3.den.neg,.slice k3.den.A k3.den.k k3.den.c,.bool k4.num.neg,.slice k4.num.A k4.num.k k4.num.c,.bool k4.den.neg,.slice k4.den.A k4.den.k k4.den.c]⟩,⟨(a2+1+1),48,#[.bool false,.slice none 0 0,.bool false,.slice none 0 0,.bool false,.slice none 0 0,.bool false,.slice none 0 0]⟩,⟨(a2+1),25,#[.slice (some ⟨a1,0,none⟩) 1 1,.slice (some ⟨a2,0,none⟩) 1 1]⟩,⟨a2,65,#[.int .i64 0,.bool k2.num.neg,.slice k2.num.A k2.num.k k2.num.c,.bool k2.den.neg,.slice k2.den.A k2.den.k k2.den.c]⟩,⟨a1,65,#[.int .i64 0,.bool k1.num.neg,.slice k1.num.A k1.num.k k1.num.c,.bool k1.den.neg,.slice k1.den.A k1.den.k k1.den.c]⟩]))
 have c:=(HE2.out.bx ⟨w.heap.size,32,#[.int .i64 0,.slice none 0 0,.slice none 0 0,.slice none 0 0,.slice none 0 0,.slice none 0 0]⟩ (by simp)).cb
 go_wp2_with fail
 have HE3:=znd (show Env w (⟨w.heap.size,32,#[.int .i64 1,.slice (some ⟨(a2+1),0,none⟩) 2 2,.slice (some ⟨(a2+1+1),0,none⟩) 2 2,.slice (some ⟨gh,0,none⟩) 2 2,.slice (some ⟨gk,0,none⟩) 2 2,.slice (some ⟨w9.heap.size,0,none⟩) 1 1]⟩::[⟨w9.heap.size,48,#[.bool k6.num.neg,.slice k6.num.A k6.num.k k6.num.c,.bool k6.den.neg,.slice k6.den.A k6.den.k k6.den.c]⟩,⟨gk,48,#[.bool k5.num.neg,.slice k5.num.A k5.num.k k5.num.c,.bool k5.den.neg,.slice k5.den.A k5.den.k k5.den.c,.bool false,.slice none 0 0,.bool false,.slice none 0 0]⟩,⟨gh,48,#[.bool k3.num.neg,.slice k3.num.A k3.num.k k3.num.c,.bool k3.den.neg,.slice k3.den.A k3.den.k k3.den.c,.bool k4.num.neg,.slice k4.num.A k4.num.k k4.num.c,.bool k4.den.neg,.slice k4.den.A k4.den.k k4.den.c]⟩,⟨(a2+1+1),48,#[.bool false,.slice none 0 0,.bool false,.slice none 0 0,.bool false,.slice none 0 0,.bool false,.slice none 0 0]⟩,⟨(a2+1),25,#[.slice (some ⟨a1,0,none⟩) 1 1,.slice (some ⟨a2,0,none⟩) 1 1]⟩,⟨a2,65,#[.int .i64 0,.bool k2.num.neg,.slice k2.num.A k2.num.k k2.num.c,.bool k2.den.neg,.slice k2.den.A k2.den.k k2.den.c]⟩,⟨a1,65,#[.int .i64 0,.bool k1.num.neg,.slice k1.num.A k1.num.k k1.num.c,.bool k1.den.neg,.slice k1.den.A k1.den.k k1.den.c]⟩]) Tz (fun V=>RatN k6 4 V∧RatN k5 (-1) V∧RatN k4 9 V∧RatN k3 3 V∧RatN k2 1 V∧RatN k1 1 V∧True) _ from((((((HE2.out.put 0 (.int .i64 1)).put 1 (.slice (some ⟨(a2+1),0,none⟩) 2 2)).put 2 (.slice (some ⟨(a2+1+1),0,none⟩) 2 2)).put 3 (.slice (some ⟨gh,0,none⟩) 2 2)).put 4 (.slice (some ⟨gk,0,none⟩) 2 2)).put 5 (.slice (some ⟨w9.heap.size,0,none⟩) 1 1)))
 have c3:=(HE3.out.bx ⟨w.heap.size,32,#[.int .i64 1,.slice (some ⟨(a2+1),0,none⟩) 2 2,.slice (some ⟨(a2+1+1),0,none⟩) 2 2,.slice (some ⟨gh,0,none⟩) 2 2,.slice (some ⟨gk,0,none⟩) 2 2,.slice (some ⟨w9.heap.size,0,none⟩) 1 1]⟩ (by simp)).cb
 have HE4:=znd ((((((HE3.out.drop.perm (znc _ _ _ _ _ _ _)).read).read).read).read).read)
 exact bodyPost_ret (v:=PlK.agg ⟨k1,k2,k3,k4,k5,k6,a1,a2,a2+1,a2+1+1,gh,gk,w9.heap.size⟩) (by simp[results,Tryz.results54,go_sem,c3,PlK.agg]) rfl ⟨⟨k1,k2,k3,k4,k5,k6,a1,a2,a2+1,a2+1+1,gh,gk,w9.heap.size⟩,rfl,HE4.out.imp (fun _ _=>trivial) (fun V h=>⟨ls2v h.2.2.1 (ls1t h.1 h.2.2.2.2.2.2.2.2.2.2.1) (ls1t h.2.1 h.2.2.2.2.2.2.2.2.2.1),ls2 h.2.2.2.1 h.2.2.2.2.2.2.1 (zbX V),ls1 h.2.2.2.2.1 h.2.2.2.2.2.1,h.2.2.2.2.2.2.2.2.1,h.2.2.2.2.2.2.2.1⟩)⟩
end Go.Proofs.YtfdmajmhmligpaaGreatDoor
