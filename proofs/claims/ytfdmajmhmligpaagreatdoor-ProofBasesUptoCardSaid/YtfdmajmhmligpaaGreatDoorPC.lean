/-
 Programs in memory: variables, rows. program.Right$1, program.all over variables. The plain law of ProofHolds: programs, their forms, bounds of prices. program.Right$2, program.all over rows, program.Right. program.holds, program.Value.
-/
import Derived.Test.YtfdmajmhmligpaaGreatDoorV18
import Derived.Test.YtfdmajmhmligpaaGreatDoorKJ
namespace Go.Proofs.YtfdmajmhmligpaaGreatDoor
set_option maxHeartbeats 4000000
open Go.RowKit

section
variable {P:Program}
@[go_sem] theorem run_indexAt_el9 (w:World) (t:TypeId) (A:Option Addr) (len cap:Nat) (k:IntKind) (i:Int) (hs:Sl A len)
 (h:P.underlying t=some (.slice (P.elem t))) (h1:(sizeOf (P.elem t)).run P w=.ok 9 w):
 (Instr.indexAt t (.slice A len cap) (.int k i)).run P w=
  if 0≤i∧i<len then .ok (.pointer (some (adr A (i.toNat*9)))) w else(boundsPanic k i len .index).run P w:=by
 rcases A with _|a
 ·have h0:len=0:=by
   rcases Nat.eq_zero_or_pos len with h|h
   ·exact h
   ·obtain⟨_,_,h⟩:=hs h;cases h
  subst h0
  rw[if_neg (by omega)]
  simp[Instr.indexAt,run_underlying h,asIntOf]
 ·rw[run_indexAt_slice w t a len cap k i h]
  split
  ·rename_i hi
   obtain⟨b,o,e⟩:=hs (by omega)
   cases e
   rw[h1]
   simp only[Result.andThen_ok,zaf,za6]
  ·rfl
@[go_sem] theorem run_indexAt_el6 (w:World) (t:TypeId) (A:Option Addr) (len cap:Nat) (k:IntKind) (i:Int) (hs:Sl A len)
 (h:P.underlying t=some (.slice (P.elem t))) (h1:(sizeOf (P.elem t)).run P w=.ok 6 w):
 (Instr.indexAt t (.slice A len cap) (.int k i)).run P w=
  if 0≤i∧i<len then .ok (.pointer (some (adr A (i.toNat*6)))) w else(boundsPanic k i len .index).run P w:=by
 rcases A with _|a
 ·have h0:len=0:=by
   rcases Nat.eq_zero_or_pos len with h|h
   ·exact h
   ·obtain⟨_,_,h⟩:=hs h;cases h
  subst h0
  rw[if_neg (by omega)]
  simp[Instr.indexAt,run_underlying h,asIntOf]
 ·rw[run_indexAt_slice w t a len cap k i h]
  split
  ·rename_i hi
   obtain⟨b,o,e⟩:=hs (by omega)
   cases e
   rw[h1]
   simp only[Result.andThen_ok,zaf,za6]
  ·rfl
end
structure VaV where
 lo:RV×Rat
 hi:RV×Rat
 int:Bool
def zap (v:VaV):Array Value:=#[.bool v.lo.1.num.neg,.slice v.lo.1.num.A v.lo.1.num.k v.lo.1.num.c,.bool v.lo.1.den.neg,.slice v.lo.1.den.A v.lo.1.den.k v.lo.1.den.c,.bool v.hi.1.num.neg,.slice v.hi.1.num.A v.hi.1.num.k v.hi.1.num.c,.bool v.hi.1.den.neg,.slice v.hi.1.den.A v.hi.1.den.k v.hi.1.den.c,.bool v.int]
def vaD (n:Nat) (v:VaV) (W:World):Prop:=RatD v.lo.1 v.lo.2 n W∧RatD v.hi.1 v.hi.2 n W
theorem zct {n:Nat} (v:VaV) (W:World) (h:vaD n v W):Rests W (·<W.heap.size) (vaD n v):=(RatD.old h.1).and (RatD.old h.2)
structure RoV where
 A:Option Addr
 c:Nat
 ts:List TeV
 kind:Int
 b:RV×Rat
def zdK (r:RoV):Array Value:=#[.slice r.A r.ts.length r.c,.int .u8 r.kind,.bool r.b.1.num.neg,.slice r.b.1.num.A r.b.1.num.k r.b.1.num.c,.bool r.b.1.den.neg,.slice r.b.1.den.A r.b.1.den.k r.b.1.den.c]
def rwD (n:Nat) (r:RoV) (W:World):Prop:=LsR 5 tecells (teD n) r.A r.ts W∧RatD r.b.1 r.b.2 n W
theorem zbR {n:Nat} (r:RoV) (W:World) (h:rwD n r W):Rests W (·<W.heap.size) (rwD n r):=(LsR.old zah h.1).and (RatD.old h.2)
@[reducible] def VC (A:Option Addr) (i:Nat) (v:VaV) (W:World):Prop:=
 W.cell? (adr A (i*9))=some (.bool v.lo.1.num.neg)∧W.cell? (adr A (i*9+1))=some (.slice v.lo.1.num.A v.lo.1.num.k v.lo.1.num.c)∧W.cell? (adr A (i*9+2))=some (.bool v.lo.1.den.neg)∧W.cell? (adr A (i*9+3))=some (.slice v.lo.1.den.A v.lo.1.den.k v.lo.1.den.c)∧W.cell? (adr A (i*9+4))=some (.bool v.hi.1.num.neg)∧W.cell? (adr A (i*9+5))=some (.slice v.hi.1.num.A v.hi.1.num.k v.hi.1.num.c)∧W.cell? (adr A (i*9+6))=some (.bool v.hi.1.den.neg)∧W.cell? (adr A (i*9+7))=some (.slice v.hi.1.den.A v.hi.1.den.k v.hi.1.den.c)∧W.cell? (adr A (i*9+8))=some (.bool v.int)
theorem LsR.vac {ok:VaV→World→Prop} {A:Option Addr} {l:List VaV} {w:World} (h:LsR 9 zap ok A l w) (i:Nat) (hi:i<l.length):VC A i l[i] w:=by
 have hc:=h.cell i hi
 exact⟨hc 0 (by decide),hc 1 (by decide),hc 2 (by decide),hc 3 (by decide),hc 4 (by decide),hc 5 (by decide),hc 6 (by decide),hc 7 (by decide),hc 8 (by decide)⟩
@[reducible] def WC (A:Option Addr) (i:Nat) (v:RoV) (W:World):Prop:=
 W.cell? (adr A (i*6))=some (.slice v.A v.ts.length v.c)∧W.cell? (adr A (i*6+1))=some (.int .u8 v.kind)∧W.cell? (adr A (i*6+2))=some (.bool v.b.1.num.neg)∧W.cell? (adr A (i*6+3))=some (.slice v.b.1.num.A v.b.1.num.k v.b.1.num.c)∧W.cell? (adr A (i*6+4))=some (.bool v.b.1.den.neg)∧W.cell? (adr A (i*6+5))=some (.slice v.b.1.den.A v.b.1.den.k v.b.1.den.c)
theorem LsR.rwc {ok:RoV→World→Prop} {A:Option Addr} {l:List RoV} {w:World} (h:LsR 6 zdK ok A l w) (i:Nat) (hi:i<l.length):WC A i l[i] w:=by
 have hc:=h.cell i hi
 exact⟨hc 0 (by decide),hc 1 (by decide),hc 2 (by decide),hc 3 (by decide),hc 4 (by decide),hc 5 (by decide)⟩

structure PrV where
 Av:Option Addr
 cv:Nat
 vars:List VaV
 Ar:Option Addr
 cr:Nat
 rows:List RoV
 Ak:Option Addr
 ck:Nat
 cost:List TeV
structure PrD (n:Nat) (p:PrV) (W:World):Prop where
 vars:LsR 9 zap (vaD n) p.Av p.vars W
 rows:LsR 6 zdK (rwD n) p.Ar p.rows W
 cost:LsR 5 tecells (teD n) p.Ak p.cost W
theorem PrD.old {n:Nat} {p:PrV} {w:World} (h:PrD n p w):Rests w (·<w.heap.size) (PrD n p):=
 ((h.vars.old zct).and ((h.rows.old zbR).and (h.cost.old zah))).imp fun _ h=>⟨h.1,h.2.1,h.2.2⟩
theorem zdG (w:World):(sizeOf (Tryz.prog.elem 22)).run Tryz.prog w=.ok 9 w:=by kernel_rfl
theorem zf9 (w:World):(sizeOf (Tryz.prog.elem 23)).run Tryz.prog w=.ok 6 w:=by kernel_rfl
def vaOk (v:VaV):Prop:=¬0<cmpQ v.lo.2 v.hi.2
def rwOk (m:Int) (w:World) (r:RoV):Prop:=(r.kind=1∨r.kind=2∨r.kind=3)∧RightP r.ts m w
theorem zgH {α:Type} {l:List α} {P:α→Prop} {i:Nat} (h:∀v∈l.take i,P v) (hi:i<l.length) (h1:P l[i]):∀v∈l.take (i+1),P v:=by
 rw[List.take_succ_eq_append_getElem hi]
 intro v hv
 rcases List.mem_append.1 hv with hv|hv
 ·exact h v hv
 ·rw[List.mem_singleton.1 hv];exact h1
set_option maxRecDepth 100000 in
theorem zhM (w:World) (n:Nat) (hn:n≤400000000000) (h1n:1≤n) (v:VaV) (h:vaD n v w):
 Calls Tryz.prog 61 #[.agg #[.bool v.lo.1.num.neg,.slice v.lo.1.num.A v.lo.1.num.k v.lo.1.num.c,.bool v.lo.1.den.neg,.slice v.lo.1.den.A v.lo.1.den.k v.lo.1.den.c,.bool v.hi.1.num.neg,.slice v.hi.1.num.A v.hi.1.num.k v.hi.1.num.c,.bool v.hi.1.den.neg,.slice v.hi.1.den.A v.hi.1.den.k v.hi.1.den.c,.bool v.int]] w fun e w'=>zaR (vaOk v) e∧Below w.heap.size w w':=by
 obtain⟨W0,hW0⟩:∃W0,W0=(w.alloc (.cells #[.bool v.lo.1.num.neg,.slice v.lo.1.num.A v.lo.1.num.k v.lo.1.num.c,.bool v.lo.1.den.neg,.slice v.lo.1.den.A v.lo.1.den.k v.lo.1.den.c,.bool v.hi.1.num.neg,.slice v.hi.1.num.A v.hi.1.num.k v.hi.1.num.c,.bool v.hi.1.den.neg,.slice v.hi.1.den.A v.hi.1.den.k v.hi.1.den.c,.bool v.int] 62)):=⟨_,rfl⟩
 have HE:=znd (Env.lay1 (Env.start ((zct v w h))) hW0)
 subst hW0
 have c:=Env.c1 HE.out
 clear h
 go_enter Tryz.func61,Tryz.ntmps61
 go_wp2_with fail
 refine(zbb _ v.lo.1 v.hi.1 v.lo.2 v.hi.2 n hn h1n HE.out.o.1 HE.out.o.2).mono ?_
 rintro e w1 ⟨rfl,hb⟩
 replace HE:=znd (Env.call HE.out hb)
 clear hb
 go_wp2_with fail
 go_ret
 exact⟨za7 _ (by unfold vaOk;rw[decide_eq_true_iff];omega),HE.out.bel⟩
set_option maxRecDepth 100000 in
theorem zjy (w:World) (n:Nat) (hn:n≤400000000000) (h1n:1≤n) (A:Option Addr) (c:Nat) (l:List VaV) (h:LsR 9 zap (vaD n) A l w) (hl:l.length≤1000000):
 Calls Tryz.prog 64 #[.slice A l.length c,.func (.func 61) #[] #[]] w fun e w'=>zaR (∀v∈l,vaOk v) e∧Below w.heap.size w w':=by
 have sl1:=h.sl
 have hsz2:=zdG
 have hadd:=zaa
 have Ho:=znd (h.old zct)
 have Hb:=znd (Below.refl w.heap.size w)
 clear h
 go_enter Tryz.func64,Tryz.ntmps64
 go_wp2_with fail
 go_loopw [9] (fun iv wr=>∃i:Nat,iv=.int .i64 (i:Int)∧i≤l.length∧Hid (∀v∈l.take i,vaOk v)∧Hid (Below w.heap.size w wr)) (fun iv _=>l.length-(intOf iv).toNat)
 case atStart=>exact⟨0,rfl,Nat.zero_le _,znd (by simp),Hb⟩
 case round=>
  clear Hb
  obtain⟨i,rfl,hi,HP,Hb⟩:=hrel
  by_cases hlt:i<l.length
  ·have HE:=znd (Env.start (LsR.old zct (Ho.out.below Hb.out).now))
   have c0:=HE.out.o.vac i hlt
   obtain⟨v,hv⟩:∃v,v=l[i]:=⟨_,rfl⟩
   rw[←hv]at c0
   have Hm:=znd (show v∈l by rw[hv];exact List.getElem_mem hlt)
   have Hv:=znd hv
   clear hv
   go_upto_region 4 with fail
   obtain⟨W2,gt,hW2,hgt,HE⟩:=Env.al HE.out 62 #[.bool v.lo.1.num.neg,.slice v.lo.1.num.A v.lo.1.num.k v.lo.1.num.c,.bool v.lo.1.den.neg,.slice v.lo.1.den.A v.lo.1.den.k v.lo.1.den.c,.bool v.hi.1.num.neg,.slice v.hi.1.num.A v.hi.1.num.k v.hi.1.num.c,.bool v.hi.1.den.neg,.slice v.hi.1.den.A v.hi.1.den.k v.hi.1.den.c,.bool v.int]
   rw[hW2,hgt]
   clear hW2 hgt c0
   have cb:=Env.c1 HE.out
   go_wp2_with fail
   refine(zhM _ n hn h1n v (HE.out.o.ok v Hm.out)).mono ?_
   rintro e w3 ⟨⟨B,rfl,hB⟩,hb⟩
   have HB:=znd hB
   replace HE:=znd (Env.call HE.out hb)
   clear hb hB cb
   cases B
   ·go_wp2_with fail
    go_ret
    exact⟨za7 false ⟨fun h0=>absurd h0 (by decide),fun hr=>absurd (HB.out.2 (hr v Hm.out)) (by simp)⟩,Below.after Hb.out HE.out.bel⟩
   ·go_wp2_with fail
    go_roundw
    case rel=>exact⟨i+1,by go_num,by omega,znd (zgH HP.out hlt (by rw[←Hv.out];exact HB.out.1 (by simp))),znd (Below.after Hb.out HE.out.bel)⟩
    case measure=>(simp[intOf]<;>omega)
  ·obtain rfl:i=l.length:=by omega
   have HP2:=znd (show∀v∈l,vaOk v by have:=HP.out;rwa [List.take_length]at this)
   go_wp2_with fail
   go_ret
   exact⟨za7 true ⟨fun _=>HP2.out,fun _=>rfl⟩,Hb.out⟩

theorem zhT (p:Int×Rat) (l Y:List (Int×Rat)):dotQ (p::l) Y=p.2*getQ Y p.1+dotQ l Y:=rfl
def sumI (g:Nat→Rat):Nat→Rat
 |0=>0
 |k+1=>sumI g k+g k
theorem zcC {g g':Nat→Rat}:∀{k:Nat},(∀i,i<k→g i=g' i)→sumI g k=sumI g' k
 |0,_=>rfl
 |k+1,h=>by rw[sumI,sumI,zcC fun i hi=>h i (by omega),h k (by omega)]
theorem zgV (g g':Nat→Rat):∀k,sumI (fun i=>g i+g' i) k=sumI g k+sumI g' k
 |0=>by show(0:Rat)=0+0;grind
 |k+1=>by rw[sumI,sumI,sumI,zgV g g' k];grind
theorem zd1 {g:Nat→Rat}:∀{k:Nat},(∀i,i<k→g i=0)→sumI g k=0
 |0,_=>rfl
 |k+1,h=>by rw[sumI,zd1 fun i hi=>h i (by omega),h k (by omega),Rat.add_zero]
theorem zdh (g:Nat→Rat) (n:Nat):∀m,sumI g (n+m)=sumI g n+sumI (fun i=>g (n+i)) m
 |0=>(Rat.add_zero _).symm
 |m+1=>by
  have h:=zdh g n m
  rw[show n+(m+1)=(n+m)+1 from rfl,sumI,sumI,h];grind
theorem zez {g:Nat→Rat} {i:Nat}:∀{k:Nat},i<k→(∀j,j<k→j≠i→g j=0)→sumI g k=g i
 |0,h,_=>absurd h (Nat.not_lt_zero _)
 |k+1,h,hz=>by
  by_cases e:i=k
  ·subst e
   rw[sumI,zd1 fun j hj=>hz j (by omega) (by omega),Rat.zero_add]
  ·rw[sumI,zez (i:=i) (k:=k) (by omega) fun j hj hne=>hz j (by omega) hne,hz k (by omega) (fun h=>e h.symm),Rat.add_zero]
theorem zdj {n:Nat} (Y:List (Int×Rat)):∀{X:List (Int×Rat)},(∀p∈X,0≤p.1∧p.1<(n:Int))→dotQ X Y=sumI (fun i=>getQ X (i:Int)*getQ Y (i:Int)) n
 |[],_=>(zd1 fun i _=>by show(0:Rat)*_=0;exact Rat.zero_mul _).symm
 |p::X,h=>by
  have h1:=zdj Y (X:=X) fun q hq=>h q (List.mem_cons_of_mem _ hq)
  obtain⟨h2,h3⟩:=h p (List.mem_cons_self ..)
  obtain⟨i,hi⟩:∃i:Nat,p.1=(i:Int):=⟨p.1.toNat,by omega⟩
  have e:sumI (fun j=>getQ (p::X) (j:Int)*getQ Y (j:Int)) n=sumI (fun j=>(if p.1=(j:Int) then p.2 else 0)*getQ Y (j:Int)+getQ X (j:Int)*getQ Y (j:Int)) n:=zcC fun j _=>by
   rw[zaO];grind
  rw[zhT,e,zgV,←h1,zez (i:=i) (by omega) fun j _ hne=>by rw[if_neg (by omega),Rat.zero_mul],if_pos hi,hi]
theorem zc8 {a b:Rat}:¬0<cmpQ a b↔a≤b:=by
 unfold cmpQ
 split
 ·simp;grind
 ·split
  ·simp;grind
  ·simp;grind
theorem zdd {a b:Rat}:¬cmpQ a b<0↔b≤a:=by
 unfold cmpQ
 split
 ·simp;grind
 ·split
  ·simp;grind
  ·simp;grind
instance:Inhabited VaV:=⟨⟨default,default,false⟩⟩
instance:Inhabited RoV:=⟨⟨none,0,[],0,default⟩⟩
theorem zb0 {α:Type} [Inhabited α] {l:List α} {i:Nat} (h:i<l.length):l[i]! =l[i]:=getElem!_pos l i h
theorem zfL {α:Type} [Inhabited α] {l k:List α} {i:Nat} (h:i<l.length):(l++k)[i]! =l[i]!:=by
 rw[zb0 h,zb0 (by simp;omega),List.getElem_append_left h]
def zaX (vs:List VaV) (ts:List TeV):Rat:=(ts.map fun t=>minQ (t.q*(vs[t.pl.toNat]!).lo.2) (t.q*(vs[t.pl.toNat]!).hi.2)).sum
def zaZ (vs:List VaV) (ts:List TeV):Rat:=(ts.map fun t=>maxQ (t.q*(vs[t.pl.toNat]!).lo.2) (t.q*(vs[t.pl.toNat]!).hi.2)).sum
def zb7 (vs:List VaV) (r:RoV):Rat:=if r.kind=3 then minQ (r.b.2-zaZ vs r.ts) 0 else 0
def zb9 (vs:List VaV) (r:RoV):Rat:=if r.kind=1 then maxQ (r.b.2-zaX vs r.ts) 0 else 0
structure FormP (p:PrV) (f:FoV) (w:World):Prop where
 M:f.M=p.rows.length
 nc:f.cols.length=p.vars.length+p.rows.length
 nl:f.lo.length=p.vars.length+p.rows.length
 nh:f.hi.length=p.vars.length+p.rows.length
 nk:f.cost.length=p.vars.length+p.rows.length
 nb:f.b.length=p.rows.length
 lo:∀j,j<p.vars.length→(f.lo[j]!).2=(p.vars[j]!).lo.2
 hi:∀j,j<p.vars.length→(f.hi[j]!).2=(p.vars[j]!).hi.2
 cost:∀j,j<p.vars.length→(f.cost[j]!).2=getQ (p.cost.map plq) (j:Int)
 los:∀i,i<p.rows.length→(f.lo[p.vars.length+i]!).2=zb7 p.vars p.rows[i]!
 his:∀i,i<p.rows.length→(f.hi[p.vars.length+i]!).2=zb9 p.vars p.rows[i]!
 costs:∀i,i<p.rows.length→(f.cost[p.vars.length+i]!).2=0
 b:∀i,i<p.rows.length→(f.b[i]!).2=(p.rows[i]!).b.2
 col:∀j i,j<p.vars.length→i<p.rows.length→getQ ((f.cols[j]!).ts.map plq) (i:Int)=getQ ((p.rows[i]!).ts.map plq) (j:Int)
 cols:∀i,i<p.rows.length→(f.cols[p.vars.length+i]!).ts.map plq=[((i:Int),1)]
 right:∀v∈f.cols,RightP v.ts f.M w
theorem zhX {a b:Rat}:a≤maxQ a b∧b≤maxQ a b:=by
 unfold maxQ
 split
 ·rename_i h
  have:=(not_congr (zdd (a:=a) (b:=b))).1 (by simpa using h)
  constructor<;>grind
 ·rename_i h
  have:=zdd.1 h
  constructor<;>grind
theorem ziS {a b:Rat}:minQ a b≤a∧minQ a b≤b:=by
 unfold minQ
 split
 ·rename_i h
  have:=(not_congr (zc8 (a:=a) (b:=b))).1 (by simpa using h)
  constructor<;>grind
 ·rename_i h
  have:=zc8.1 h
  constructor<;>grind
theorem zf3 (vs:List VaV) (r:RoV):zb7 vs r≤zb9 vs r:=by
 have m1:=(zhX (a:=r.b.2-zaX vs r.ts) (b:=0)).2
 have m2:=(ziS (a:=r.b.2-zaZ vs r.ts) (b:=0)).2
 unfold zb7 zb9
 split<;>split<;>first|omega|grind
theorem zfS {ys:List (RV×Rat)} {i:Nat} (h:i<ys.length):getQ (vecL ys) (i:Int)=(ys[i]!).2:=by rw[zbY,zbK ys i h,zb0 h]
theorem znv {ys:List (RV×Rat)}:∀p∈vecL ys,0≤p.1∧p.1<(ys.length:Int):=fun p hp=>by
 obtain⟨t,ht,rfl⟩:=List.mem_map.1 (List.mem_filter.1 hp).1
 obtain⟨j,hj,rfl⟩:=List.mem_iff_getElem.1 ht
 have hj':j<ys.length:=by rwa [zbw]at hj
 rw[zem ys j hj']
 show(0:Int)≤(j:Int)∧(j:Int)<_
 omega
theorem FormP.value {p:PrV} {f:FoV} {w:World} (h:FormP p f w) (hrg:∀t∈p.cost,0≤t.pl∧t.pl<(p.vars.length:Int)) {xs ss:List (RV×Rat)} (hl:xs.length=p.vars.length) (_hs:ss.length=p.rows.length):
 sumI (fun j=>(f.cost[j]!).2*((xs++ss)[j]!).2) f.cols.length=dotQ (p.cost.map plq) (vecL xs):=by
 rw[h.nc,zdh,zd1 (k:=p.rows.length) fun i hi=>by rw[h.costs i hi,Rat.zero_mul],Rat.add_zero,zdj (n:=p.vars.length) _ fun q hq=>by
  obtain⟨t,ht,rfl⟩:=List.mem_map.1 hq
  exact hrg t ht]
 exact zcC fun j hj=>by rw[h.cost j hj,zfL (by omega),zfS (by omega)]
set_option maxRecDepth 100000 in
theorem zjP (w:World) (n:Nat) (hn:n≤400000000000) (h1n:1≤n) (g:Nat) (m:Int) (hg:Blk w g 3 #[.int .i64 m]) (r:RoV) (h:rwD n r w) (hl:r.ts.length≤1000000) (hT:Tz w) (hk:r.kind=1):
 Calls Tryz.prog 62 #[.agg #[.slice r.A r.ts.length r.c,.int .u8 r.kind,.bool r.b.1.num.neg,.slice r.b.1.num.A r.b.1.num.k r.b.1.num.c,.bool r.b.1.den.neg,.slice r.b.1.den.A r.b.1.den.k r.b.1.den.c],.pointer (some ⟨g,0,none⟩)] w fun e w'=>zaR (rwOk m w r) e∧Below w.heap.size w w':=by
 have e0:(r.kind==1)=true:=by simp[hk]
 obtain⟨W0,hW0⟩:∃W0,W0=(w.alloc (.cells #[.slice r.A r.ts.length r.c,.int .u8 r.kind,.bool r.b.1.num.neg,.slice r.b.1.num.A r.b.1.num.k r.b.1.num.c,.bool r.b.1.den.neg,.slice r.b.1.den.A r.b.1.den.k r.b.1.den.c] 68)):=⟨_,rfl⟩
 have HE:=znd (Env.lay1 (Env.start (((zbR r w h)).and ((hg.old).and (hT.old)))) hW0)
 subst hW0
 have c:=Env.c1 HE.out
 have cg:=Blk.cb HE.out.o.2.1
 have HEb:=znd HE.out.bel
 have Hw:=znd h.1
 have Hk:=znd (show r.kind=1∨r.kind=2∨r.kind=3 by omega)
 clear h hg hT hk
 go_enter Tryz.func62,Tryz.ntmps62
 go_wp2_with fail
 refine(zcj _ n hn h1n r.A r.c r.ts m HE.out.o.1.1 hl HE.out.o.2.2).mono ?_
 rintro e w1 ⟨⟨B,rfl,hB⟩,hb⟩
 replace HE:=znd (Env.call HE.out hb)
 have HB:=znd hB
 clear hb hB
 go_wp2_with fail
 go_ret
 exact⟨za7 B ⟨fun h0=>⟨Hk.out,(RightP.same Hw.out HEb.out).1 (HB.out.1 h0)⟩,fun hr=>HB.out.2 ((RightP.same Hw.out HEb.out).2 hr.2)⟩,HE.out.bel⟩
set_option maxRecDepth 100000 in
theorem zke (w:World) (n:Nat) (hn:n≤400000000000) (h1n:1≤n) (g:Nat) (m:Int) (hg:Blk w g 3 #[.int .i64 m]) (r:RoV) (h:rwD n r w) (hl:r.ts.length≤1000000) (hT:Tz w) (hk:r.kind=2):
 Calls Tryz.prog 62 #[.agg #[.slice r.A r.ts.length r.c,.int .u8 r.kind,.bool r.b.1.num.neg,.slice r.b.1.num.A r.b.1.num.k r.b.1.num.c,.bool r.b.1.den.neg,.slice r.b.1.den.A r.b.1.den.k r.b.1.den.c],.pointer (some ⟨g,0,none⟩)] w fun e w'=>zaR (rwOk m w r) e∧Below w.heap.size w w':=by
 have e0:(r.kind==1)=false:=by simp;omega
 have e1:(r.kind==2)=true:=by simp[hk]
 obtain⟨W0,hW0⟩:∃W0,W0=(w.alloc (.cells #[.slice r.A r.ts.length r.c,.int .u8 r.kind,.bool r.b.1.num.neg,.slice r.b.1.num.A r.b.1.num.k r.b.1.num.c,.bool r.b.1.den.neg,.slice r.b.1.den.A r.b.1.den.k r.b.1.den.c] 68)):=⟨_,rfl⟩
 have HE:=znd (Env.lay1 (Env.start (((zbR r w h)).and ((hg.old).and (hT.old)))) hW0)
 subst hW0
 have c:=Env.c1 HE.out
 have cg:=Blk.cb HE.out.o.2.1
 have HEb:=znd HE.out.bel
 have Hw:=znd h.1
 have Hk:=znd (show r.kind=1∨r.kind=2∨r.kind=3 by omega)
 clear h hg hT hk
 go_enter Tryz.func62,Tryz.ntmps62
 go_wp2_with fail
 refine(zcj _ n hn h1n r.A r.c r.ts m HE.out.o.1.1 hl HE.out.o.2.2).mono ?_
 rintro e w1 ⟨⟨B,rfl,hB⟩,hb⟩
 replace HE:=znd (Env.call HE.out hb)
 have HB:=znd hB
 clear hb hB
 go_wp2_with fail
 go_ret
 exact⟨za7 B ⟨fun h0=>⟨Hk.out,(RightP.same Hw.out HEb.out).1 (HB.out.1 h0)⟩,fun hr=>HB.out.2 ((RightP.same Hw.out HEb.out).2 hr.2)⟩,HE.out.bel⟩
set_option maxRecDepth 100000 in
theorem zjH (w:World) (n:Nat) (hn:n≤400000000000) (h1n:1≤n) (g:Nat) (m:Int) (hg:Blk w g 3 #[.int .i64 m]) (r:RoV) (h:rwD n r w) (hl:r.ts.length≤1000000) (hT:Tz w) (hk:r.kind=3):
 Calls Tryz.prog 62 #[.agg #[.slice r.A r.ts.length r.c,.int .u8 r.kind,.bool r.b.1.num.neg,.slice r.b.1.num.A r.b.1.num.k r.b.1.num.c,.bool r.b.1.den.neg,.slice r.b.1.den.A r.b.1.den.k r.b.1.den.c],.pointer (some ⟨g,0,none⟩)] w fun e w'=>zaR (rwOk m w r) e∧Below w.heap.size w w':=by
 have e0:(r.kind==1)=false:=by simp;omega
 have e1:(r.kind==2)=false:=by simp;omega
 have e2:(r.kind==3)=true:=by simp[hk]
 obtain⟨W0,hW0⟩:∃W0,W0=(w.alloc (.cells #[.slice r.A r.ts.length r.c,.int .u8 r.kind,.bool r.b.1.num.neg,.slice r.b.1.num.A r.b.1.num.k r.b.1.num.c,.bool r.b.1.den.neg,.slice r.b.1.den.A r.b.1.den.k r.b.1.den.c] 68)):=⟨_,rfl⟩
 have HE:=znd (Env.lay1 (Env.start (((zbR r w h)).and ((hg.old).and (hT.old)))) hW0)
 subst hW0
 have c:=Env.c1 HE.out
 have cg:=Blk.cb HE.out.o.2.1
 have HEb:=znd HE.out.bel
 have Hw:=znd h.1
 have Hk:=znd (show r.kind=1∨r.kind=2∨r.kind=3 by omega)
 clear h hg hT hk
 go_enter Tryz.func62,Tryz.ntmps62
 go_wp2_with fail
 refine(zcj _ n hn h1n r.A r.c r.ts m HE.out.o.1.1 hl HE.out.o.2.2).mono ?_
 rintro e w1 ⟨⟨B,rfl,hB⟩,hb⟩
 replace HE:=znd (Env.call HE.out hb)
 have HB:=znd hB
 clear hb hB
 go_wp2_with fail
 go_ret
 exact⟨za7 B ⟨fun h0=>⟨Hk.out,(RightP.same Hw.out HEb.out).1 (HB.out.1 h0)⟩,fun hr=>HB.out.2 ((RightP.same Hw.out HEb.out).2 hr.2)⟩,HE.out.bel⟩
set_option maxRecDepth 100000 in
theorem zjA (w:World) (n:Nat) (_hn:n≤400000000000) (_h1n:1≤n) (g:Nat) (m:Int) (hg:Blk w g 3 #[.int .i64 m]) (r:RoV) (h:rwD n r w) (_hl:r.ts.length≤1000000) (hT:Tz w) (hk:¬(r.kind=1∨r.kind=2∨r.kind=3)):
 Calls Tryz.prog 62 #[.agg #[.slice r.A r.ts.length r.c,.int .u8 r.kind,.bool r.b.1.num.neg,.slice r.b.1.num.A r.b.1.num.k r.b.1.num.c,.bool r.b.1.den.neg,.slice r.b.1.den.A r.b.1.den.k r.b.1.den.c],.pointer (some ⟨g,0,none⟩)] w fun e w'=>zaR (rwOk m w r) e∧Below w.heap.size w w':=by
 have e0:(r.kind==1)=false:=by simp;omega
 have e1:(r.kind==2)=false:=by simp;omega
 have e2:(r.kind==3)=false:=by simp;omega
 obtain⟨W0,hW0⟩:∃W0,W0=(w.alloc (.cells #[.slice r.A r.ts.length r.c,.int .u8 r.kind,.bool r.b.1.num.neg,.slice r.b.1.num.A r.b.1.num.k r.b.1.num.c,.bool r.b.1.den.neg,.slice r.b.1.den.A r.b.1.den.k r.b.1.den.c] 68)):=⟨_,rfl⟩
 have HE:=znd (Env.lay1 (Env.start (((zbR r w h)).and ((hg.old).and (hT.old)))) hW0)
 subst hW0
 have c:=Env.c1 HE.out
 have Hw:=znd h.1
 have Hk:=znd hk
 clear h hg hT hk
 go_enter Tryz.func62,Tryz.ntmps62
 go_wp2_with fail
 go_ret
 exact⟨za7 false ⟨fun h0=>absurd h0 (by decide),fun hr=>absurd hr.1 Hk.out⟩,HE.out.bel⟩
theorem zhG (w:World) (n:Nat) (hn:n≤400000000000) (h1n:1≤n) (g:Nat) (m:Int) (hg:Blk w g 3 #[.int .i64 m]) (r:RoV) (h:rwD n r w) (hl:r.ts.length≤1000000) (hT:Tz w):
 Calls Tryz.prog 62 #[.agg #[.slice r.A r.ts.length r.c,.int .u8 r.kind,.bool r.b.1.num.neg,.slice r.b.1.num.A r.b.1.num.k r.b.1.num.c,.bool r.b.1.den.neg,.slice r.b.1.den.A r.b.1.den.k r.b.1.den.c],.pointer (some ⟨g,0,none⟩)] w fun e w'=>zaR (rwOk m w r) e∧Below w.heap.size w w':=by
 by_cases h1:r.kind=1
 ·exact zjP w n hn h1n g m hg r h hl hT h1
 ·by_cases h2:r.kind=2
  ·exact zke w n hn h1n g m hg r h hl hT h2
  ·by_cases h3:r.kind=3
   ·exact zjH w n hn h1n g m hg r h hl hT h3
   ·exact zjA w n hn h1n g m hg r h hl hT (by omega)
theorem rwOk.same {n:Nat} {m:Int} {r:RoV} {w W:World} (h:rwD n r w) (hb:Below w.heap.size w W):rwOk m W r↔rwOk m w r:=and_congr Iff.rfl (RightP.same h.1 hb)
set_option maxRecDepth 100000 in
theorem zjT (w:World) (n:Nat) (hn:n≤400000000000) (h1n:1≤n) (g:Nat) (m:Int) (hg:Blk w g 3 #[.int .i64 m]) (A:Option Addr) (c:Nat) (l:List RoV) (h:LsR 6 zdK (rwD n) A l w) (hl:l.length≤1000000) (hts:∀r∈l,r.ts.length≤1000000) (hT:Tz w):
 Calls Tryz.prog 65 #[.slice A l.length c,.func (.func 62) #[] #[.pointer (some ⟨g,0,none⟩)]] w fun e w'=>zaR (∀r∈l,rwOk m w r) e∧Below w.heap.size w w':=by
 have sl1:=h.sl
 have hsz2:=zf9
 have hadd:=zaa
 have Hw:=znd h
 have Hts:=znd hts
 have Ho:=znd ((h.old zbR).and (hg.old.and hT.old))
 have Hb:=znd (Below.refl w.heap.size w)
 clear h hg hT hts
 go_enter Tryz.func65,Tryz.ntmps65
 go_wp2_with fail
 go_loopw [9] (fun iv wr=>∃i:Nat,iv=.int .i64 (i:Int)∧i≤l.length∧Hid (∀r∈l.take i,rwOk m w r)∧Hid (Below w.heap.size w wr)) (fun iv _=>l.length-(intOf iv).toNat)
 case atStart=>exact⟨0,rfl,Nat.zero_le _,znd (by simp),Hb⟩
 case round=>
  clear Hb
  obtain⟨i,rfl,hi,HP,Hb⟩:=hrel
  by_cases hlt:i<l.length
  ·have HE:=znd (Env.start ((Ho.out.below Hb.out).now|>fun h=>(LsR.old zbR h.1).and (h.2.1.old.and h.2.2.old)))
   have c0:=HE.out.o.1.rwc i hlt
   obtain⟨r,hr⟩:∃r,r=l[i]:=⟨_,rfl⟩
   rw[←hr]at c0
   have Hm:=znd (show r∈l by rw[hr];exact List.getElem_mem hlt)
   have Hr:=znd hr
   clear hr
   go_upto_region 4 with fail
   obtain⟨W2,gt,hW2,hgt,HE⟩:=Env.al HE.out 68 #[.slice r.A r.ts.length r.c,.int .u8 r.kind,.bool r.b.1.num.neg,.slice r.b.1.num.A r.b.1.num.k r.b.1.num.c,.bool r.b.1.den.neg,.slice r.b.1.den.A r.b.1.den.k r.b.1.den.c]
   rw[hW2,hgt]
   clear hW2 hgt c0
   have cb:=Env.c1 HE.out
   go_wp2_with fail
   refine(zhG _ n hn h1n g m HE.out.o.2.1 r (HE.out.o.1.ok r Hm.out) (Hts.out r Hm.out) HE.out.o.2.2).mono ?_
   rintro e w3 ⟨⟨B,rfl,hB⟩,hb⟩
   have HB:=znd (hB.trans (rwOk.same (Hw.out.ok r Hm.out) (Below.after Hb.out HE.out.bel)))
   replace HE:=znd (Env.call HE.out hb)
   clear hb hB cb
   cases B
   ·go_wp2_with fail
    go_ret
    exact⟨za7 false ⟨fun h0=>absurd h0 (by decide),fun hr=>absurd (HB.out.2 (hr r Hm.out)) (by simp)⟩,Below.after Hb.out HE.out.bel⟩
   ·go_wp2_with fail
    go_roundw
    case rel=>exact⟨i+1,by go_num,by omega,znd (zgH HP.out hlt (by rw[←Hr.out];exact HB.out.1 (by simp))),znd (Below.after Hb.out HE.out.bel)⟩
    case measure=>(simp[intOf]<;>omega)
  ·obtain rfl:i=l.length:=by omega
   have HP2:=znd (show∀r∈l,rwOk m w r by have:=HP.out;rwa [List.take_length]at this)
   go_wp2_with fail
   go_ret
   exact⟨za7 true ⟨fun _=>HP2.out,fun _=>rfl⟩,Hb.out⟩
structure PRight (p:PrV) (w:World):Prop where
 vars:p.vars.length≤600
 rows:p.rows.length≤600
 va:∀v∈p.vars,vaOk v
 ro:∀r∈p.rows,rwOk p.vars.length w r
 cost:RightP p.cost p.vars.length w
def zfD (P:Prop) (e:Ending):Prop:=∃k:Int,e=.returned (.int .i64 k)∧(k=0↔P)
theorem zee {P:Prop} (k:Int) (h:k=0↔P):zfD P (.returned (.int .i64 k)):=⟨k,rfl,h⟩
set_option maxRecDepth 100000 in
theorem zga (w:World) (n:Nat) (_hn:n≤400000000000) (_h1n:1≤n) (p:PrV) (h:PrD n p w) (hts:∀r∈p.rows,r.ts.length≤1000000) (_hck:p.cost.length≤1000000) (hT:Tz w) (e0:(600:Int)<(p.vars.length:Int)):
 Calls Tryz.prog 23 #[.agg #[.slice p.Av p.vars.length p.cv,.slice p.Ar p.rows.length p.cr,.slice p.Ak p.cost.length p.ck]] w fun e w'=>zfD (PRight p w) e∧Below w.heap.size w w':=by
 have Hw:=znd h
 have Hts:=znd hts
 have slv:=h.vars.sl
 have slr:=h.rows.sl
 have slk:=h.cost.sl
 obtain⟨W0,hW0⟩:∃W0,W0=((w.alloc (.cells #[.slice p.Av p.vars.length p.cv,.slice p.Ar p.rows.length p.cr,.slice p.Ak p.cost.length p.ck] 27)).alloc (.cells #[.int .i64 (p.vars.length:Int)] 3)):=⟨_,rfl⟩
 have HE:=znd (Env.lay2 (Env.start ((h.old).and (hT.old))) hW0)
 subst hW0
 have c:=Env.c2 HE.out
 have dd:=Env.d2 HE.out
 clear h hT hts dd
 go_enter Tryz.func23,Tryz.ntmps23
 go_wp2_with fail
 go_ret
 exact⟨zee 100 ⟨fun h0=>absurd h0 (by decide),fun hr=>False.elim (by have:=hr.vars;omega)⟩,HE.out.bel⟩
set_option maxRecDepth 100000 in
theorem zfO (w:World) (n:Nat) (_hn:n≤400000000000) (_h1n:1≤n) (p:PrV) (h:PrD n p w) (hts:∀r∈p.rows,r.ts.length≤1000000) (_hck:p.cost.length≤1000000) (hT:Tz w) (e0:¬(600:Int)<(p.vars.length:Int)) (e1:(600:Int)<(p.rows.length:Int)):
 Calls Tryz.prog 23 #[.agg #[.slice p.Av p.vars.length p.cv,.slice p.Ar p.rows.length p.cr,.slice p.Ak p.cost.length p.ck]] w fun e w'=>zfD (PRight p w) e∧Below w.heap.size w w':=by
 have Hw:=znd h
 have Hts:=znd hts
 have slv:=h.vars.sl
 have slr:=h.rows.sl
 have slk:=h.cost.sl
 obtain⟨W0,hW0⟩:∃W0,W0=((w.alloc (.cells #[.slice p.Av p.vars.length p.cv,.slice p.Ar p.rows.length p.cr,.slice p.Ak p.cost.length p.ck] 27)).alloc (.cells #[.int .i64 (p.vars.length:Int)] 3)):=⟨_,rfl⟩
 have HE:=znd (Env.lay2 (Env.start ((h.old).and (hT.old))) hW0)
 subst hW0
 have c:=Env.c2 HE.out
 have dd:=Env.d2 HE.out
 clear h hT hts dd
 go_enter Tryz.func23,Tryz.ntmps23
 go_wp2_with fail
 go_ret
 exact⟨zee 100 ⟨fun h0=>absurd h0 (by decide),fun hr=>False.elim (by have:=hr.rows;omega)⟩,HE.out.bel⟩
set_option maxRecDepth 100000 in
theorem zfR (w:World) (n:Nat) (hn:n≤400000000000) (h1n:1≤n) (p:PrV) (h:PrD n p w) (hts:∀r∈p.rows,r.ts.length≤1000000) (hck:p.cost.length≤1000000) (hT:Tz w) (e0:¬(600:Int)<(p.vars.length:Int)) (e1:¬(600:Int)<(p.rows.length:Int)):
 Calls Tryz.prog 23 #[.agg #[.slice p.Av p.vars.length p.cv,.slice p.Ar p.rows.length p.cr,.slice p.Ak p.cost.length p.ck]] w fun e w'=>zfD (PRight p w) e∧Below w.heap.size w w':=by
 have Hw:=znd h
 have Hts:=znd hts
 have slv:=h.vars.sl
 have slr:=h.rows.sl
 have slk:=h.cost.sl
 obtain⟨W0,hW0⟩:∃W0,W0=((w.alloc (.cells #[.slice p.Av p.vars.length p.cv,.slice p.Ar p.rows.length p.cr,.slice p.Ak p.cost.length p.ck] 27)).alloc (.cells #[.int .i64 (p.vars.length:Int)] 3)):=⟨_,rfl⟩
 have HE:=znd (Env.lay2 (Env.start ((h.old).and (hT.old))) hW0)
 subst hW0
 have c:=Env.c2 HE.out
 have dd:=Env.d2 HE.out
 clear h hT hts dd
 go_enter Tryz.func23,Tryz.ntmps23
 go_wp2_with fail
 refine(zjy _ n hn h1n p.Av p.cv p.vars HE.out.o.1.vars (by omega)).mono ?_
 rintro e w3 ⟨⟨B,rfl,hB⟩,hb⟩
 have HB:=znd hB
 replace HE:=znd (Env.call HE.out hb)
 replace c:=Env.c2 HE.out
 clear hb hB
 cases B
 ·go_wp2_with fail
  go_ret
  exact⟨zee 100 ⟨fun h0=>absurd h0 (by decide),fun hr=>False.elim (absurd (HB.out.2 hr.va) (by simp))⟩,HE.out.bel⟩
 ·go_wp2_with fail
  refine(zjT _ n hn h1n (w.heap.size+1) p.vars.length (HE.out.bx ⟨w.heap.size+1,3,#[.int .i64 (p.vars.length:Int)]⟩ (by simp)) p.Ar p.cr p.rows HE.out.o.1.rows (by omega) Hts.out HE.out.o.2).mono ?_
  rintro e w4 ⟨⟨B2,rfl,hB2⟩,hb⟩
  have HB2:=znd (hB2.trans (forall_congr' fun r=>forall_congr' fun hr=>rwOk.same (Hw.out.rows.ok r hr) HE.out.bel))
  replace HE:=znd (Env.call HE.out hb)
  replace c:=Env.c2 HE.out
  clear hb hB2
  cases B2
  ·go_wp2_with fail
   go_ret
   exact⟨zee 100 ⟨fun h0=>absurd h0 (by decide),fun hr=>False.elim (absurd (HB2.out.2 hr.ro) (by simp))⟩,HE.out.bel⟩
  ·go_wp2_with fail
   refine(zcj _ n hn h1n p.Ak p.ck p.cost p.vars.length HE.out.o.1.cost hck HE.out.o.2).mono ?_
   rintro e w5 ⟨⟨B3,rfl,hB3⟩,hb⟩
   have HB3:=znd (hB3.trans (RightP.same Hw.out.cost HE.out.bel))
   replace HE:=znd (Env.call HE.out hb)
   clear hb hB3 c
   cases B3
   ·go_wp2_with fail
    go_ret
    exact⟨zee 100 ⟨fun h0=>absurd h0 (by decide),fun hr=>False.elim (absurd (HB3.out.2 hr.cost) (by simp))⟩,HE.out.bel⟩
   ·go_wp2_with fail
    go_ret
    exact⟨zee 0 ⟨fun _=>⟨by omega,by omega,HB.out.1 (by simp),HB2.out.1 (by simp),HB3.out.1 (by simp)⟩,fun _=>rfl⟩,HE.out.bel⟩
theorem zeM (w:World) (n:Nat) (hn:n≤400000000000) (h1n:1≤n) (p:PrV) (h:PrD n p w) (hts:∀r∈p.rows,r.ts.length≤1000000) (hck:p.cost.length≤1000000) (hT:Tz w):
 Calls Tryz.prog 23 #[.agg #[.slice p.Av p.vars.length p.cv,.slice p.Ar p.rows.length p.cr,.slice p.Ak p.cost.length p.ck]] w fun e w'=>zfD (PRight p w) e∧Below w.heap.size w w':=by
 by_cases e0:(600:Int)<(p.vars.length:Int)
 ·exact zga w n hn h1n p h hts hck hT e0
 ·by_cases e1:(600:Int)<(p.rows.length:Int)
  ·exact zfO w n hn h1n p h hts hck hT e0 e1
  ·exact zfR w n hn h1n p h hts hck hT e0 e1

end Go.Proofs.YtfdmajmhmligpaaGreatDoor
