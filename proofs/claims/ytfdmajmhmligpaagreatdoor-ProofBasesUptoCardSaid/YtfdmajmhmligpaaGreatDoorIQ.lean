/-
 lu.next: the next pivot is one of an open row's terms; where there is none, all open rows are empty. What lu.eliminate does to the rows (plain law). lu.eliminate: the pivot's row is taken off the open rows.
-/
import Derived.Test.YtfdmajmhmligpaaGreatDoorIJ
import Derived.Test.YtfdmajmhmligpaaGreatDoorIL
import Derived.Test.YtfdmajmhmligpaaGreatDoorIE
import Derived.Test.YtfdmajmhmligpaaGreatDoorDG
namespace Go.Proofs.YtfdmajmhmligpaaGreatDoor
set_option maxHeartbeats 8000000
open Go.RowKit

section
variable {w W:World} {ls:List Ow} {old new:World→Prop}
theorem GL.alb (h:GL w ls old new W) (e:TypeId) (c:Array Value):∃W' g,W.alloc (.cells c e)=W'∧W.heap.size=g∧Hid (GL w (bow g e c.size c::ls) old new W'):=⟨_,_,rfl,rfl,znd (h.addb e c)⟩
theorem GL.c1 {α:Type} {f:α→Value} {k i:Nat} {e:TypeId} {n cap:Nat} {A:Option Addr} {l:List α} (h:GL w ls old new W) (hk:ls[k]?=some ⟨e,1,.slice A n cap,l.map fun x=>#[f x]⟩) (hi:i<l.length):W.cell? (adr A i)=some (f l[i]):=by
 have hc:=h.cell (i:=i) (j:=0) hk (by simpa using hi) (by decide)
 rw[List.getElem_map,Nat.mul_one,Nat.add_zero]at hc
 exact hc
theorem GL.p1 {α:Type} {f:α→Value} {k i:Nat} {e:TypeId} {g n cap:Nat} {A:Option Addr} (hA:A=some ⟨g,0,none⟩) {l:List α} (h:GL w ls old new W) (hk:ls[k]?=some ⟨e,1,.slice A n cap,l.map fun x=>#[f x]⟩) (hi:i<l.length) (x:α):
 GL w (ls.set k ⟨e,1,.slice A n cap,(l.set i x).map fun x=>#[f x]⟩) old new (W.setCell (adr A i) (f x)):=by
 have h0:=GL.set1 hA h hk (by simpa using hi) (f x)
 rw[show(l.set i x).map (fun x=>#[f x])=(l.map fun x=>#[f x]).set i #[f x]from List.map_set ..]
 exact h0
theorem GL.pc {k g i sz:Nat} {e:TypeId} {c0:Array Value} (h:GL w ls old new W) (hk:ls[k]?=some (bow g e sz c0)) (hi:i<sz) (u:Value):GL w (ls.set k (bow g e sz (c0.setIfInBounds i u))) old new (W.setCell ⟨g,i,none⟩ u):=by
 have h0:=h.setg (i:=0) (j:=i) hk (by simp) hi u
 simp only[Nat.zero_mul,Nat.zero_add,List.getElem_cons_zero,List.set_cons_zero]at h0
 exact h0
theorem GL.pcs {k g sz:Nat} {e:TypeId}:∀{c0:Array Value} {ls:List Ow} {W:World} (_:GL w ls old new W) (_:ls[k]?=some (bow g e sz c0)) (us:List (Nat×Value)) (_:∀p∈us,p.1<sz),GL w (ls.set k (bow g e sz (us.foldl (fun c p=>c.setIfInBounds p.1 p.2) c0))) old new (us.foldl (fun V p=>V.setCell ⟨g,p.1,none⟩ p.2) W)
 |_,_,_,h,hk,[],_=>by obtain⟨h1,h2⟩:=List.getElem?_eq_some_iff.1 hk;rw[List.foldl_nil,List.foldl_nil,←h2,List.set_getElem_self];exact h
 |_,_,_,h,hk,u::us,hi=>by
  have h1:=GL.pcs (h.pc hk (hi u (List.mem_cons_self ..)) u.2) (zaQ _ _ _ _ hk) us (fun p hp=>hi p (List.mem_cons_of_mem _ hp))
  rw[List.set_set]at h1
  exact h1
theorem GL.p3 {k g:Nat} {e:TypeId} {u0 u1 u2:Value} (h:GL w ls old new W) (hk:ls[k]?=some (bow g e 3 #[u0,u1,u2])) (a0 a1 a2:Value):GL w (ls.set k (bow g e 3 #[a0,a1,a2])) old new (((W.setCell ⟨g,0,none⟩ a0).setCell ⟨g,1,none⟩ a1).setCell ⟨g,2,none⟩ a2):=h.pcs hk [(0,a0),(1,a1),(2,a2)] (by simp)
theorem GL.st3 {k g:Nat} {e:TypeId} {u0 u1 u2:Value} (h:GL w ls old new W) (hk:ls[k]?=some (bow g e 3 #[u0,u1,u2])) (a0 a1 a2:Value):∃W',(((W.setCell ⟨g,0,none⟩ a0).setCell ⟨g,1,none⟩ a1).setCell ⟨g,2,none⟩ a2)=W'∧Hid (GL w (ls.set k (bow g e 3 #[a0,a1,a2])) old new W'):=⟨_,rfl,znd (h.p3 hk a0 a1 a2)⟩
end
theorem zj7 (w:World) (L:Nat) (hL:L≤2000):(Instr.makeSlice 79 (.int .i64 (L:Int)) (.int .i64 (L:Int))).run Tryz.prog w=.ok (.slice (some ⟨w.heap.size,0,none⟩) L L) (w.alloc (.cells (madeCells (Value.int .i64 0).cells (L*1)) 3)):=by
 obtain⟨i0,hi0,hz0,hz1,hz2⟩:=info_parts zfk
 have h:=run_makeSlice (P:=Tryz.prog) w 79 3 i0 (.int .i64 0) zes hi0 hz0 .i64 .i64 (L:Int) (L:Int) (by omega) (by omega) (by rw[hz1,Int.toNat_natCast];omega) (by rw[hz2];omega) (by omega)
 rw[Int.toNat_natCast,hz1]at h
 exact h
theorem zdi (w:World):(sizeOf (Tryz.prog.elem 166)).run Tryz.prog w=.ok 1 w:=by kernel_rfl
@[reducible] def icl (z:Int):Array Value:=#[.int .i64 z]
@[reducible] def bcl (b:Bool):Array Value:=#[.bool b]
theorem LsR.c1 {α:Type} {f:α→Value} {ok:α→World→Prop} {A:Option Addr} {l:List α} {w:World} (h:LsR 1 (fun x=>#[f x]) ok A l w) (i:Nat) (hi:i<l.length):w.cell? (adr A i)=some (f l[i]):=by
 have hc:=h.cell i hi 0 (by decide)
 rwa [Nat.mul_one,Nat.add_zero]at hc
def veN (v:VeV) (V:World):Prop:=LsR 5 tecells teN v.A v.ts V
theorem zld (v:VeV) (V:World) (h:veN v V):Rests V (·<V.heap.size) (veN v):=LsR.old zda h
theorem zdk {α:Type} (p:α) (V:World) (_:(fun(_:α) (_:World)=>True) p V):Rests V (·<V.heap.size) ((fun(_:α) (_:World)=>True) p):=.pure trivial _ _
structure NextP (vs:List VeV) (bl:List Bool) (k:Nat) (c r:Nat) (B:Bool):Prop where
 yes:B=true→bl[r]?=some true∧∃h:r<vs.length,∃t∈(vs[r]).ts,t.pl=(c:Int)
 no:B=false→∀i (h:i<vs.length),i<k→bl[i]?=some true→(vs[i]).ts=[]
theorem NextP.step {vs:List VeV} {bl:List Bool} {k c r:Nat} {B:Bool} (h:NextP vs bl k c r B) (hk:k<vs.length) (hB:B=false→bl[k]?=some true→(vs[k]).ts=[]):NextP vs bl (k+1) c r B:=
 ⟨h.yes,fun e i hi hlt ho=>by
  by_cases e2:i=k
  ·subst e2;exact hB e ho
  ·exact h.no e i hi (by omega) ho⟩
def zin (vs:List VeV) (bl:List Bool) (k:Nat) (w:World) (e:Ending) (w':World):Prop:=∃(z:Int) (c r:Nat) (B:Bool),e=.returned (.tuple #[.agg #[.int .i64 z,.int .i64 (c:Int),.int .i64 (r:Int)],.bool B])∧Hid (NextP vs bl k c r B)∧Below w.heap.size w w'
def zmt (w:World) (e:Ending) (w':World):Prop:=∃B:Bool,e=.returned (.bool B)∧Below w.heap.size w w'
set_option maxRecDepth 100000 in
theorem zh7 (w:World) (a b c a' b' c':Int):Calls Tryz.prog 138 #[.agg #[.int .i64 a,.int .i64 b,.int .i64 c],.agg #[.int .i64 a',.int .i64 b',.int .i64 c']] w (zmt w):=by
 obtain⟨W0,hW0⟩:∃W0,W0=((w.alloc (.cells #[.int .i64 a,.int .i64 b,.int .i64 c] 168)).alloc (.cells #[.int .i64 a',.int .i64 b',.int .i64 c'] 168)):=⟨_,rfl⟩
 have HE:=znd (Env.lay2 (old:=fun _=>True) (Env.start (.pure trivial _ _)) hW0)
 subst hW0
 have c0:=Env.c2 HE.out
 have dd:=Env.d2 HE.out
 by_cases h1:a=a'
 ·by_cases h2:b=b'
  ·subst h1
   subst h2
   go_enter Tryz.func138,Tryz.ntmps138
   go_wp2_with fail
   go_ret
   exact⟨_,rfl,HE.out.bel⟩
  ·subst h1
   go_enter Tryz.func138,Tryz.ntmps138
   go_wp2_with fail
   go_ret
   exact⟨_,rfl,HE.out.bel⟩
 ·go_enter Tryz.func138,Tryz.ntmps138
  go_wp2_with fail
  go_ret
  exact⟨_,rfl,HE.out.bel⟩
set_option maxRecDepth 100000 in
theorem zjJ (w:World) (R O:Option Addr) (rc oc:Nat) (vs:List VeV) (bl:List Bool) (h:LsR 1 za3 veN R vs w) (ho:LsR 1 bcl (fun _ _=>True) O bl w) (hl:bl.length=vs.length) (hvs:vs.length≤20) (hp:∀v∈vs,v.ts.length≤20∧∀t∈v.ts,0≤t.pl∧t.pl<(vs.length:Int)):Calls Tryz.prog 128 #[.slice R vs.length rc,.slice O vs.length oc] w (zin vs bl vs.length w):=by
 have slR:=h.sl
 have slO:=ho.sl
 have szc:=zaw
 have szb:=zdi
 have szi:=zcX
 have szv:=zai
 have hadd:=zaa
 obtain⟨L,hL⟩:∃L,L=vs.length:=⟨_,rfl⟩
 have HL:=znd hL
 have Hb:=znd hl
 rw[hl]at slO
 rw[←hL]at slR slO hvs hp⊢
 have HP:=znd hp
 have HG0:=znd (show GL w [] (fun V=>LsR 1 za3 veN R vs V∧LsR 1 bcl (fun _ _=>True) O bl V) (fun _=>True) w from(GL.start (Env.start ((h.old zld).and (ho.old zdk)))).imp (fun _ h=>h.2) (fun _ h=>h))
 clear h ho hL hl hp
 go_enter Tryz.func128,Tryz.ntmps128
 go_upto_region 1 with fail
 obtain⟨W1,g4,hW1,hg4,HG1⟩:=HG0.out.alb 168 #[.int .i64 0,.int .i64 0,.int .i64 0]
 rw[hW1,hg4]
 clear hW1 hg4 HG0
 go_wp2_with fail
 rw[zj7 _ L (by omega)]
 obtain⟨C,hC⟩:∃C:Option Addr,C=some ⟨W1.heap.size,0,none⟩:=⟨_,rfl⟩
 have HG:=znd (HG1.out.addz (e:=3) (sz:=1) (z:=(Value.int .i64 0).cells) rfl (by decide) L (by simp[maxLen];omega))
 rw[←hC]at HG⊢
 have HC:=znd hC
 have slC:Sl C L:=by rw[hC];exact Sl.some_ _ _ _
 clear hC HG1
 generalize W1.alloc (.cells (madeCells (Value.int .i64 0).cells (L*1)) 3)=W2 at HG⊢
 go_wp2_with fail
 go_loopw [24] (fun iv wr=>∃(i:Nat) (zs:List Int),iv=.int .i64 (i:Int)∧i≤L∧Hid (zs.length=L)∧Hid (GL w [⟨3,1,.slice C L L,List.map icl zs⟩,bow g4 168 3 #[.int .i64 0,.int .i64 0,.int .i64 0]] (fun V=>LsR 1 za3 veN R vs V∧LsR 1 bcl (fun _ _=>True) O bl V) (fun _=>True) wr)) (fun iv _=>L-(intOf iv).toNat)
 case atStart=>exact⟨0,List.replicate L 0,rfl,Nat.zero_le _,znd (by simp),by rw[List.map_replicate];exact HG⟩
 case round=>
  clear HG
  obtain⟨i,zs,rfl,hi,Hz,HG⟩:=hrel
  by_cases hlt:i<L
  ·have hiv:i<vs.length:=by rw[←HL.out];exact hlt
   have hib:i<bl.length:=by rw[Hb.out];exact hiv
   have cv:=HG.out.o.1.vc i hiv
   have cb:=HG.out.o.2.c1 i hib
   have HV:=znd (show∀V,LsR 1 za3 veN R vs V→veN vs[i] V from fun V h=>h.ok _ (List.getElem_mem hiv))
   have Hp:=znd (HP.out _ (List.getElem_mem hiv))
   obtain⟨v,hv⟩:∃v,v=vs[i]:=⟨_,rfl⟩
   obtain⟨b,hb⟩:∃b,b=bl[i]:=⟨_,rfl⟩
   have HVI:=znd hv
   have HBI:=znd hb
   rw[←hv]at cv HV Hp
   rw[←hb]at cb
   clear hv hb
   cases b
   ·go_wp2_with fail
    go_roundw
    case rel=>exact⟨i+1,zs,by go_num,by omega,Hz,HG⟩
    case measure=>(simp[intOf]<;>omega)
   ·obtain⟨T,hT⟩:∃T,T=v.ts.length:=⟨_,rfl⟩
    have HT:=znd hT
    have slT:=(HV.out _ HG.out.o.1).sl
    have hT9:T≤20:=by rw[hT];exact Hp.out.1
    rw[←hT]at cv slT
    clear hT
    go_wp2_with fail
    go_loopw [35] (fun iv wr=>∃(k:Nat) (zs:List Int),iv=.int .i64 (k:Int)∧k≤T∧Hid (zs.length=L)∧Hid (GL w [⟨3,1,.slice C L L,List.map icl zs⟩,bow g4 168 3 #[.int .i64 0,.int .i64 0,.int .i64 0]] (fun V=>LsR 1 za3 veN R vs V∧LsR 1 bcl (fun _ _=>True) O bl V) (fun _=>True) wr)) (fun iv _=>T-(intOf iv).toNat)
    case atStart=>exact⟨0,zs,rfl,Nat.zero_le _,Hz,HG⟩
    case round=>
     clear HG Hz
     obtain⟨k,zs,rfl,hk,Hz,HG⟩:=hrel
     by_cases hkt:k<T
     ·have hkv:k<v.ts.length:=by rw[←HT.out];exact hkt
      have c0:=(HV.out _ HG.out.o.1).tc k hkv
      have hp2:=Hp.out.2 _ (List.getElem_mem hkv)
      obtain⟨t,ht⟩:∃t,t=v.ts[k]:=⟨_,rfl⟩
      have HTM:=znd (show t∈v.ts by rw[ht];exact List.getElem_mem hkv)
      rw[←ht]at c0 hp2
      clear ht hkv
      obtain⟨tp,tr,tq⟩:=t
      obtain⟨p,rfl⟩:∃p:Nat,tp=(p:Int):=⟨tp.toNat,by have h9:=hp2.1;simp only at h9;omega⟩
      have hpz:p<zs.length:=by have h9:=hp2.2;simp only at h9;rw[Hz.out];omega
      have hp0:(0:Int)≤(p:Int):=by omega
      have hp1:(p:Int)<(L:Int):=by have h9:=hp2.2;simp only at h9;exact h9
      clear hp2
      clear HTM
      go_upto_region 9 with fail
      obtain⟨W5,gt,hW5,hgt,HG2⟩:=HG.out.al 65 #[.int .i64 (p:Int),.bool tr.num.neg,.slice tr.num.A tr.num.k tr.num.c,.bool tr.den.neg,.slice tr.den.A tr.den.k tr.den.c]
      rw[hW5,hgt]
      clear hW5 hgt c0 HG
      have HG:=HG2
      clear HG2
      have c:=Blk.cb HG.out.n.1
      have ci:=HG.out.c1 (f:=Value.int .i64) (k:=0) (l:=zs) rfl hpz
      have fr:=HG.out.free HC.out (k:=0) rfl p
      have HS:=znd (fun z=>(HG.out.p1 (f:=Value.int .i64) HC.out (k:=0) (l:=zs) rfl hpz z).imp (fun _ h=>h) (fun _ h=>h.2))
      go_wp2_with fail
      go_roundw
      case rel=>exact⟨k+1,_,by go_num,by omega,znd (by rw[List.length_set];exact Hz.out),znd (HS.out _)⟩
      case measure=>(simp[intOf]<;>omega)
     ·obtain rfl:k=T:=by omega
      have hnu:¬(k:Int)<(k:Int):=by omega
      go_wp2_with fail
      go_roundw
      case rel=>exact⟨i+1,zs,by go_num,by omega,Hz,HG⟩
      case measure=>(simp[intOf]<;>omega)
  ·obtain rfl:L=i:=by omega
   have hnu:¬(L:Int)<(L:Int):=by omega
   go_upto_region 14 with fail
   obtain⟨W6,g12,hW6,hg12,HG2⟩:=HG.out.alb 168 #[.int .i64 0,.int .i64 0,.int .i64 0]
   rw[hW6,hg12]
   clear hW6 hg12 HG
   go_wp2_with fail
   go_loopw [50,13] (fun iv bv wr=>∃(i:Nat) (z:Int) (c r:Nat) (B:Bool),iv=.int .i64 (i:Int)∧bv=.bool B∧i≤L∧Hid (NextP vs bl i c r B)∧Hid (GL w [bow g12 168 3 #[.int .i64 z,.int .i64 (c:Int),.int .i64 (r:Int)],⟨3,1,.slice C L L,List.map icl zs⟩,bow g4 168 3 #[.int .i64 0,.int .i64 0,.int .i64 0]] (fun V=>LsR 1 za3 veN R vs V∧LsR 1 bcl (fun _ _=>True) O bl V) (fun _=>True) wr)) (fun iv _ _=>L-(intOf iv).toNat)
   case atStart=>exact⟨0,0,0,0,false,rfl,rfl,Nat.zero_le _,znd ⟨fun h=>absurd h (by decide),fun _ i _ hi=>absurd hi (Nat.not_lt_zero _)⟩,HG2⟩
   case round=>
    clear HG2
    obtain⟨i,z,c,r,B,rfl,rfl,hi,HN,HG⟩:=hrel
    by_cases hlt:i<L
    ·have hiv:i<vs.length:=by rw[←HL.out];exact hlt
     have hib:i<bl.length:=by rw[Hb.out];exact hiv
     have cv:=HG.out.o.1.vc i hiv
     have cb:=HG.out.o.2.c1 i hib
     have HV:=znd (show∀V,LsR 1 za3 veN R vs V→veN vs[i] V from fun V h=>h.ok _ (List.getElem_mem hiv))
     have Hp:=znd (HP.out _ (List.getElem_mem hiv))
     obtain⟨v,hv⟩:∃v,v=vs[i]:=⟨_,rfl⟩
     obtain⟨b,hb⟩:∃b,b=bl[i]:=⟨_,rfl⟩
     have HVI:=znd hv
     have HBI:=znd hb
     rw[←hv]at cv HV Hp
     rw[←hb]at cb
     clear hv hb
     cases b
     ·go_wp2_with fail
      go_roundw
      case rel=>exact⟨i+1,z,c,r,B,by go_num,rfl,by omega,znd (HN.out.step hiv (fun _ h=>by rw[List.getElem?_eq_getElem hib,←HBI.out]at h;cases h)),HG⟩
      case measure=>(simp[intOf]<;>omega)
     ·obtain⟨T,hT⟩:∃T,T=v.ts.length:=⟨_,rfl⟩
      have HT:=znd hT
      have slT:=(HV.out _ HG.out.o.1).sl
      have hT9:T≤20:=by rw[hT];exact Hp.out.1
      rw[←hT]at cv slT
      clear hT
      go_wp2_with fail
      go_loopw [62,13] (fun iv bv wr=>∃(k:Nat) (z:Int) (c r:Nat) (B:Bool),iv=.int .i64 (k:Int)∧bv=.bool B∧k≤T∧Hid (NextP vs bl i c r B∧(B=false→k=0))∧Hid (GL w [bow g12 168 3 #[.int .i64 z,.int .i64 (c:Int),.int .i64 (r:Int)],⟨3,1,.slice C L L,List.map icl zs⟩,bow g4 168 3 #[.int .i64 0,.int .i64 0,.int .i64 0]] (fun V=>LsR 1 za3 veN R vs V∧LsR 1 bcl (fun _ _=>True) O bl V) (fun _=>True) wr)) (fun iv _ _=>T-(intOf iv).toNat)
      case atStart=>exact⟨0,z,c,r,B,rfl,rfl,Nat.zero_le _,znd ⟨HN.out,fun _=>rfl⟩,HG⟩
      case round=>
       clear HG HN
       obtain⟨k,z,c,r,B,rfl,rfl,hk,HN,HG⟩:=hrel
       by_cases hkt:k<T
       ·have hkv:k<v.ts.length:=by rw[←HT.out];exact hkt
        have c0:=(HV.out _ HG.out.o.1).tc k hkv
        have hp2:=Hp.out.2 _ (List.getElem_mem hkv)
        obtain⟨t,ht⟩:∃t,t=v.ts[k]:=⟨_,rfl⟩
        have HTM:=znd (show t∈v.ts by rw[ht];exact List.getElem_mem hkv)
        rw[←ht]at c0 hp2
        clear ht hkv
        obtain⟨tp,tr,tq⟩:=t
        obtain⟨p,rfl⟩:∃p:Nat,tp=(p:Int):=⟨tp.toNat,by have h9:=hp2.1;simp only at h9;omega⟩
        have hpz:p<zs.length:=by have h9:=hp2.2;simp only at h9;rw[Hz.out];omega
        have hp0:(0:Int)≤(p:Int):=by omega
        have hp1:(p:Int)<(L:Int):=by have h9:=hp2.2;simp only at h9;exact h9
        clear hp2
        go_upto_region 22 with fail
        obtain⟨W5,gt,hW5,hgt,HG2⟩:=HG.out.al 65 #[.int .i64 (p:Int),.bool tr.num.neg,.slice tr.num.A tr.num.k tr.num.c,.bool tr.den.neg,.slice tr.den.A tr.den.k tr.den.c]
        rw[hW5,hgt]
        clear hW5 hgt c0 HG
        have HG:=HG2
        clear HG2
        obtain⟨zq,hzq⟩:∃zq,zq=zs[p]:=⟨_,rfl⟩
        have HCI:=znd (show∀V {nw:World→Prop},GL w [bow g12 168 3 #[.int .i64 z,.int .i64 (c:Int),.int .i64 (r:Int)],⟨3,1,.slice C L L,List.map icl zs⟩,bow g4 168 3 #[.int .i64 0,.int .i64 0,.int .i64 0]] (fun V=>LsR 1 za3 veN R vs V∧LsR 1 bcl (fun _ _=>True) O bl V) nw V→V.cell? (adr C p)=some (.int .i64 zq)from fun V _ h=>by rw[hzq];exact h.c1 (f:=Value.int .i64) (k:=1) (l:=zs) rfl hpz)
        clear hzq
        have ci:=HCI.out _ HG.out
        have cx:=Blk.cb HG.out.n.1
        have HGb:=HG.out.box 168 #[.int .i64 0,.int .i64 0,.int .i64 0]
        have ci2:=HCI.out _ HGb
        have cx2:=Blk.cb HGb.n.2.1
        go_region
        obtain⟨W6,g18,hW6,hg18,HG2⟩:=HG.out.al 168 #[.int .i64 (wrap64 (((T:Int)-1)*wrap64 (zq-1))),.int .i64 (p:Int),.int .i64 (i:Int)]
        rw[hW6,hg18]
        clear hW6 hg18 HG HGb ci ci2 cx cx2
        have HG:=znd (HG2.out.drew.imp (fun _ h=>h) (fun _ h=>h.1))
        clear HG2
        generalize W6.drew=W7 at HG⊢
        generalize wrap64 (((T:Int)-1)*wrap64 (zq-1))=ze at HG⊢
        have HNN:=znd (show NextP vs bl i p i true∧(true=false→k+1=0)from⟨⟨fun _=>⟨by rw[HBI.out];exact List.getElem?_eq_getElem hib,hiv,_,by rw[←HVI.out];exact HTM.out,rfl⟩,fun h=>absurd h (by decide)⟩,fun h=>absurd h (by decide)⟩)
        have HPS:=znd (show∀V,GL w [bow g12 168 3 #[.int .i64 z,.int .i64 (c:Int),.int .i64 (r:Int)],⟨3,1,.slice C L L,List.map icl zs⟩,bow g4 168 3 #[.int .i64 0,.int .i64 0,.int .i64 0]] (fun V=>LsR 1 za3 veN R vs V∧LsR 1 bcl (fun _ _=>True) O bl V) (fun V=>Blk V g18 168 #[.int .i64 ze,.int .i64 (p:Int),.int .i64 (i:Int)]) V→GL w [bow g12 168 3 #[.int .i64 ze,.int .i64 (p:Int),.int .i64 (i:Int)],⟨3,1,.slice C L L,List.map icl zs⟩,bow g4 168 3 #[.int .i64 0,.int .i64 0,.int .i64 0]] (fun V=>LsR 1 za3 veN R vs V∧LsR 1 bcl (fun _ _=>True) O bl V) (fun _=>True) (((V.setCell ⟨g12,0,none⟩ (.int .i64 ze)).setCell ⟨g12,1,none⟩ (.int .i64 (p:Int))).setCell ⟨g12,2,none⟩ (.int .i64 (i:Int)))from fun V h=>(h.p3 (k:=0) rfl _ _ _).imp (fun _ h=>h) (fun _ _=>trivial))
        have c18:=Blk.cb HG.out.n
        have c12:=HG.out.cb (k:=0) rfl
        cases B
        ·go_wp2_with fail
         go_roundw
         case rel=>exact⟨k+1,ze,p,i,true,by go_num,rfl,by omega,HNN,znd (HPS.out _ HG.out)⟩
         case measure=>(simp[intOf]<;>omega)
        ·go_wp2_with fail
         refine(zh7 _ _ _ _ _ _ _).mono ?_
         rintro e w1 ⟨B1,rfl,hb⟩
         replace HG:=znd (HG.out.skip hb)
         clear hb c18 c12
         have c18:=Blk.cb HG.out.n
         have c12:=HG.out.cb (k:=0) rfl
         cases B1
         ·go_wp2_with fail
          go_roundw
          case rel=>exact⟨k+1,z,c,r,true,by go_num,rfl,by omega,znd ⟨HN.out.1,fun h=>absurd h (by decide)⟩,znd (HG.out.imp (fun _ h=>h) (fun _ _=>trivial))⟩
          case measure=>(simp[intOf]<;>omega)
         ·go_wp2_with fail
          go_roundw
          case rel=>exact⟨k+1,ze,p,i,true,by go_num,rfl,by omega,HNN,znd (HPS.out _ HG.out)⟩
          case measure=>(simp[intOf]<;>omega)
       ·obtain rfl:k=T:=by omega
        have hnu:¬(k:Int)<(k:Int):=by omega
        go_wp2_with fail
        go_roundw
        case rel=>exact⟨i+1,z,c,r,B,by go_num,rfl,by omega,znd (HN.out.1.step hiv (fun h _=>by rw[←HVI.out];exact List.eq_nil_of_length_eq_zero (by rw[←HT.out];exact HN.out.2 h))),HG⟩
        case measure=>(simp[intOf]<;>omega)
    ·obtain rfl:L=i:=by omega
     have hnu2:¬(L:Int)<(L:Int):=by omega
     have c12:=HG.out.cb (k:=0) rfl
     have c4:=HG.out.cb (k:=2) rfl
     go_wp2_with fail
     obtain⟨WF,hWF,HGF⟩:=HG.out.st3 (k:=2) rfl (.int .i64 z) (.int .i64 (c:Int)) (.int .i64 (r:Int))
     rw[hWF]
     clear hWF c4 c12
     have c4:=HGF.out.cb (k:=2) rfl
     exact bodyPost_ret (v:=.tuple #[.agg #[.int .i64 z,.int .i64 (c:Int),.int .i64 (r:Int)],.bool B]) (by simp[results,Tryz.results128,go_sem,c4]) rfl ⟨z,c,r,B,rfl,HN,HGF.out.bel⟩

def rowQ (vs:List VeV) (i:Nat) (a:Int):Rat:=getQ (((vs[i]?).map fun v=>v.ts.map plq).getD []) a
theorem zat {vs:List VeV} {i:Nat} (h:i<vs.length) (a:Int):rowQ vs i a=getQ ((vs[i]).ts.map plq) a:=by
 unfold rowQ;rw[List.getElem?_eq_getElem h];rfl
theorem zcv {vs vs':List VeV} {i:Nat} (h:vs'[i]?=vs[i]?) (a:Int):rowQ vs' i a=rowQ vs i a:=by unfold rowQ;rw[h]
theorem zgs {vs:List VeV} {i:Nat} (h:i<vs.length) (v:VeV) (a:Int):rowQ (vs.set i v) i a=getQ (v.ts.map plq) a:=by
 unfold rowQ;rw[List.getElem?_set_self h];rfl
structure ElI (L nl:Nat) (vs:List VeV) (bl:List Bool) (r c:Nat) (k:Nat) (ts:List TeV) (vs2:List VeV):Prop where
 len:vs2.length=L
 rise:Rise ts
 pl:∀t∈ts,0≤t.pl∧t.pl<(k:Int)
 sz:∀t∈ts,Sz t.q (2*nl+1)
 on:∀i,i<k→bl[i]?=some true→getQ (ts.map plq) (i:Int)*rowQ vs r c=rowQ vs i c∧∀a,rowQ vs2 i a=rowQ vs i a-getQ (ts.map plq) (i:Int)*rowQ vs r a
 off:∀i,bl[i]?≠some true∨k≤i→getQ (ts.map plq) (i:Int)=0∧vs2[i]?=vs[i]?
 vec:∀v∈vs2,VecP L (4*nl+4) v.ts∧∀t∈v.ts,nzT t=true
section
variable {L nl r c k:Nat} {vs vs2:List VeV} {bl:List Bool} {ts:List TeV}
theorem VecP.up {m n n':Nat} {ts:List TeV} (h:VecP m n ts) (hn:n≤n'):VecP m n' ts:=⟨h.rise,h.pl,fun t ht=>(h.sz t ht).up hn⟩
theorem ElI.start (hl:vs.length=L) (hv:∀v∈vs,VecP L nl v.ts∧∀t∈v.ts,nzT t=true):ElI L nl vs bl r c 0 [] vs:=
 ⟨hl,.nil,by simp,by simp,fun i hi=>absurd hi (Nat.not_lt_zero _),fun i _=>⟨rfl,rfl⟩,fun v h=>⟨(hv v h).1.up (by omega),(hv v h).2⟩⟩
theorem ElI.skip (h:ElI L nl vs bl r c k ts vs2) (hb:bl[k]?≠some true):ElI L nl vs bl r c (k+1) ts vs2:=
 ⟨h.len,h.rise,fun t ht=>⟨(h.pl t ht).1,by have:=(h.pl t ht).2;omega⟩,h.sz,fun i hi hb'=>by
  by_cases e:i=k
  ·subst e;exact absurd hb' hb
  ·exact h.on i (by omega) hb',fun i hi=>h.off i (hi.imp id fun h=>by omega),h.vec⟩
theorem ElI.zero (h:ElI L nl vs bl r c k ts vs2) (h0:rowQ vs k c=0):ElI L nl vs bl r c (k+1) ts vs2:=
 ⟨h.len,h.rise,fun t ht=>⟨(h.pl t ht).1,by have:=(h.pl t ht).2;omega⟩,h.sz,fun i hi hb'=>by
  by_cases e:i=k
  ·subst e
   have h1:=h.off i (.inr (Nat.le_refl _))
   rw[h1.1,h0]
   exact⟨by grind,fun a=>by rw[zcv h1.2];grind⟩
  ·exact h.on i (by omega) hb',fun i hi=>h.off i (hi.imp id fun h=>by omega),h.vec⟩
theorem zeS {us:List (Int×Rat)} (h:us.Pairwise fun p q=>p.1<q.1):∀p∈us,getQ us p.1=p.2:=by
 induction us with
 |nil=>intro p hp;cases hp
 |cons x us ih=>
  intro p hp
  obtain⟨h1,h2⟩:=List.pairwise_cons.1 h
  show(if x.1=p.1 then x.2 else 0)+getQ us p.1=p.2
  rcases List.mem_cons.1 hp with rfl|hp
  ·rw[if_pos rfl,zan (fun q hq=>by have:=h1 q hq;omega),Rat.add_zero]
  ·rw[if_neg (by have:=h1 p hp;omega),ih h2 p hp,Rat.zero_add]
theorem zkr {us:List (Int×Rat)} (h:us.Pairwise fun p q=>p.1<q.1) {n:Nat} (hs:∀a,Sz (getQ us a) n):∀p∈us,Sz p.2 n:=fun p hp=>by rw[←zeS h p hp];exact hs _
theorem zgf {us:List (Int×Rat)} (h:us.Pairwise fun p q=>p.1<q.1) (hz:∀p∈us,nzP p=true) {P:Int→Prop} (hp:∀a,getQ us a≠0→P a):∀p∈us,P p.1:=fun p hm=>hp _ fun e=>by
 have h1:=hz p hm
 rw[zeS h p hm]at e
 unfold nzP at h1
 rw[e]at h1
 exact absurd h1 (by decide)
theorem zeP {L nl:Nat} {v:VeV} (h:VecP L nl v.ts) {a:Int} (ha:¬(0≤a∧a<(L:Int))):getQ (v.ts.map plq) a=0:=zan fun p hp=>by
 obtain⟨t,ht,rfl⟩:=List.mem_map.1 hp
 intro e
 exact ha (e▸h.pl t ht)
theorem VecP.of {us:List TeV} {n:Nat} (h:(us.map plq).Pairwise fun p q=>p.1<q.1) (hz:∀p∈us.map plq,nzP p=true) (hs:∀a,Sz (getQ (us.map plq) a) n) (hp:∀a,¬(0≤a∧a<(L:Int))→getQ (us.map plq) a=0):VecP L n us∧∀t∈us,nzT t=true:=by
 refine⟨⟨zc9 h,fun t ht=>?_,fun t ht=>zkr h hs _ (List.mem_map_of_mem (f:=plq) ht)⟩,fun t ht=>hz _ (List.mem_map_of_mem (f:=plq) ht)⟩
 exact zgf (P:=fun a=>0≤a∧a<(L:Int)) h hz (fun a ha=>by
  by_cases e:0≤a∧a<(L:Int)
  ·exact e
  ·exact absurd (hp a e) ha) _ (List.mem_map_of_mem (f:=plq) ht)
theorem zcV (ts:List TeV) (x:TeV) (a:Int):getQ ((ts++[x]).map plq) a=getQ (ts.map plq) a+(if x.pl=a then x.q else 0):=by
 rw[List.map_append,zaB];congr 1;exact zaY _ _
theorem ElI.step (h:ElI L nl vs bl r c k ts vs2) (hl:vs.length=L) (hk:k<L) (hr:r<L) (hbk:bl[k]?=some true) (hq:rowQ vs r c≠0) {nv:∀v∈vs,VecP L nl v.ts} (tr:RV) (v:VeV)
 (hv:(v.ts.map plq).Pairwise fun p q=>p.1<q.1) (hz:∀p∈v.ts.map plq,nzP p=true)
 (he:∀a,getQ (v.ts.map plq) a=(if a=(c:Int) then 0 else rowQ vs k a)+ -(rowQ vs k c/rowQ vs r c)*(if a=(c:Int) then 0 else rowQ vs r a)) (h1:1≤nl):
 ElI L nl vs bl r c (k+1) (ts++[⟨(k:Int),tr,rowQ vs k c/rowQ vs r c⟩]) (vs2.set k v):=by
 have hks:k<vs.length:=by omega
 have hrs:r<vs.length:=by omega
 have hk2:k<vs2.length:=by rw[h.len];exact hk
 have o:=h.off k (.inr (Nat.le_refl _))
 have gz:∀a:Int,Sz (rowQ vs k a) nl:=fun a=>by rw[zat hks];exact zb4 (nv _ (List.getElem_mem hks)).rise h1 (nv _ (List.getElem_mem hks)).sz a
 have gr:∀a:Int,Sz (rowQ vs r a) nl:=fun a=>by rw[zat hrs];exact zb4 (nv _ (List.getElem_mem hrs)).rise h1 (nv _ (List.getElem_mem hrs)).sz a
 have s0:∀n,1≤n→Sz 0 n:=fun n hn=>zaM.up hn
 refine⟨by rw[List.length_set];exact h.len,?_,fun t ht=>?_,fun t ht=>?_,fun i hi hb'=>?_,fun i hi=>?_,fun u hu=>?_⟩
 ·refine List.pairwise_append.2 ⟨h.rise,List.pairwise_singleton _ _,fun a ha b hb=>?_⟩
  rw[List.mem_singleton.1 hb];exact(h.pl a ha).2
 ·rcases List.mem_append.1 ht with ht|ht
  ·exact⟨(h.pl t ht).1,by have:=(h.pl t ht).2;omega⟩
  ·rw[List.mem_singleton.1 ht];exact⟨Int.natCast_nonneg _,by show(k:Int)<((k+1:Nat):Int);omega⟩
 ·rcases List.mem_append.1 ht with ht|ht
  ·exact h.sz t ht
  ·rw[List.mem_singleton.1 ht];exact((gz c).quo (gr c)).up (by omega)
 ·by_cases e:i=k
  ·subst e
   rw[zcV,o.1,if_pos rfl]
   refine⟨?_,fun a=>?_⟩
   ·show(0+rowQ vs i c/rowQ vs r c)*_=_
    rw[Rat.zero_add,Rat.div_mul_cancel hq]
   ·rw[zgs hk2,he]
    show _=_-(0+rowQ vs i c/rowQ vs r c)*_
    by_cases ea:a=(c:Int)
    ·subst ea
     have:=Rat.div_mul_cancel (a:=rowQ vs i c) hq
     rw[if_pos rfl,if_pos rfl];grind
    ·rw[if_neg ea,if_neg ea];grind
  ·have h9:=h.on i (by omega) hb'
   rw[zcV,if_neg (show¬(k:Int)=(i:Int) by omega),Rat.add_zero]
   refine⟨h9.1,fun a=>?_⟩
   rw[←h9.2 a]
   exact zcv (List.getElem?_set_ne (fun e'=>e e'.symm)) a
 ·have hne:i≠k:=fun e=>by
   subst e
   rcases hi with hi|hi
   ·exact hi hbk
   ·omega
  have h9:=h.off i (hi.imp id fun h=>by omega)
  rw[zcV,if_neg (show¬(k:Int)=(i:Int) by omega),Rat.add_zero]
  exact⟨h9.1,(List.getElem?_set_ne (fun e=>hne e.symm)).trans h9.2⟩
 ·rcases List.mem_or_eq_of_mem_set hu with hu|rfl
  ·exact h.vec u hu
  ·refine VecP.of hv hz (fun a=>?_) (fun a ha=>?_)
   ·rw[he]
    have e1:Sz (if a=(c:Int) then 0 else rowQ vs k a) nl:=by split;exact s0 _ h1;exact gz a
    have e2:Sz (if a=(c:Int) then 0 else rowQ vs r a) nl:=by split;exact s0 _ h1;exact gr a
    exact(e1.add ((((gz c).quo (gr c)).neg).mul e2)).up (by omega)
   ·have e3:rowQ vs r a=0:=by rw[zat hrs];exact zeP (nv _ (List.getElem_mem hrs)) ha
    have e4:rowQ vs k a=0:=by rw[zat hks];exact zeP (nv _ (List.getElem_mem hks)) ha
    rw[he,e4,e3]
    simp only[ite_self,Rat.mul_zero,Rat.add_zero]
end
structure ElimP (L nl:Nat) (vs:List VeV) (bl:List Bool) (r c:Nat) (s:SpV) (vs':List VeV):Prop where
 row:s.row=r
 col:s.col=c
 q:s.q=rowQ vs r c
 rest:∀a,getQ (s.rest.map plq) a=if a=(c:Int) then 0 else rowQ vs r a
 vr:VecP L nl s.rest
 el:ElI L nl vs bl r c L s.taken vs'

section
variable {w W:World} {ls:List Ow} {bs:List Bo} {old new:World→Prop}
theorem ziq (u0 u1 u2 u3 u4 u5 u6 u7 v:Value):#[u0,u1,u2,u3,u4,u5,u6,u7].setIfInBounds 7 v=#[u0,u1,u2,u3,u4,u5,u6,v]:=by kernel_rfl
theorem zgC (u0 u1 u2 u3 u4 u5 u6 u7 a0 a1 a2 a3 a4 a5 a6 a7:Value):((((((((#[u0,u1,u2,u3,u4,u5,u6,u7].setIfInBounds 0 a0).setIfInBounds 1 a1).setIfInBounds 2 a2).setIfInBounds 3 a3).setIfInBounds 4 a4).setIfInBounds 5 a5).setIfInBounds 6 a6).setIfInBounds 7 a7)=#[a0,a1,a2,a3,a4,a5,a6,a7]:=by kernel_rfl
theorem Env.put8 {g:Nat} {t:TypeId} {u0 u1 u2 u3 u4 u5 u6 u7:Value} (h:Env w (⟨g,t,#[u0,u1,u2,u3,u4,u5,u6,u7]⟩::bs) old new W) (a0 a1 a2 a3 a4 a5 a6 a7:Value):Env w (⟨g,t,#[a0,a1,a2,a3,a4,a5,a6,a7]⟩::bs) old new (((((((((W.setCell ⟨g,0,none⟩ a0).setCell ⟨g,1,none⟩ a1).setCell ⟨g,2,none⟩ a2).setCell ⟨g,3,none⟩ a3).setCell ⟨g,4,none⟩ a4).setCell ⟨g,5,none⟩ a5).setCell ⟨g,6,none⟩ a6).setCell ⟨g,7,none⟩ a7)):=by
 have h9:=(((((((h.put 0 a0).put 1 a1).put 2 a2).put 3 a3).put 4 a4).put 5 a5).put 6 a6).put 7 a7
 rw[zgC]at h9
 exact h9
theorem GL.alab (h:GL w ls old new W) (t:TypeId) (cs:Array Value) (e:TypeId) (c:Array Value):∃W' g,((W.alloc (.cells cs t)).alloc (.cells c e))=W'∧W.heap.size=g∧Hid (GL w (bow (g+1) e c.size c::ls) old (fun V=>Blk V g t cs∧new V) W'):=by
 refine⟨_,_,rfl,rfl,znd ?_⟩
 have h9:=(h.box t cs).addb e c
 have e1:(W.alloc (.cells cs t)).heap.size=W.heap.size+1:=by simp
 rw[e1]at h9
 exact h9
theorem GL.st8 {k g:Nat} {e:TypeId} {u0 u1 u2 u3 u4 u5 u6 u7:Value} (h:GL w ls old new W) (hk:ls[k]?=some (bow g e 8 #[u0,u1,u2,u3,u4,u5,u6,u7])) (a0 a1 a2 a3 a4 a5 a6 a7:Value):∃W',((((((((W.setCell ⟨g,0,none⟩ a0).setCell ⟨g,1,none⟩ a1).setCell ⟨g,2,none⟩ a2).setCell ⟨g,3,none⟩ a3).setCell ⟨g,4,none⟩ a4).setCell ⟨g,5,none⟩ a5).setCell ⟨g,6,none⟩ a6).setCell ⟨g,7,none⟩ a7)=W'∧Hid (GL w (ls.set k (bow g e 8 #[a0,a1,a2,a3,a4,a5,a6,a7])) old new W'):=
by
 have h9:=h.pcs hk [(0,a0),(1,a1),(2,a2),(3,a3),(4,a4),(5,a5),(6,a6),(7,a7)] (by simp)
 simp only[List.foldl_cons,List.foldl_nil,zgC]at h9
 exact⟨_,rfl,znd h9⟩
theorem GL.envE {k:Nat} {e:TypeId} {sz n cap:Nat} {A:Option Addr} {cs:List (Array Value)} (h:GL w ls old new W) (hk:ls[k]?=some ⟨e,sz,.slice A n cap,cs⟩):Env W [] (fun V=>El V sz A cs∧old V∧new V) (fun _=>True) W:=by
 have ho:OwnE W w.heap.size e sz (.slice A n cap) cs:=h.own _ (List.mem_of_getElem? hk)
 exact Env.start ((El.old ho.el.1).and ((h.rso.lt.mono fun _ hn=>hn.2).and (h.rsn.lt.mono fun _ hn=>hn.2)))
end
theorem El.vc {V:World} {A:Option Addr} {vs:List VeV} (h:El V 1 A (vs.map za3)) (i:Nat) (hi:i<vs.length):V.cell? (adr A i)=some (.slice (vs[i]).A (vs[i]).ts.length (vs[i]).c):=by
 have hc:=h.cell i (by simpa using hi) 0 (by decide)
 rw[List.getElem_map,Nat.mul_one,Nat.add_zero]at hc
 exact hc
def VF (f:Int→Rat) (N L:Nat) (v:VeV):Prop:=(v.ts.map plq).Pairwise (fun p q=>p.1<q.1)∧(∀p∈v.ts.map plq,nzP p=true∧Sz p.2 N)∧v.ts.length≤L∧∀a,getQ (v.ts.map plq) a=f a
def veF (f:Int→Rat) (N L:Nat) (v:VeV) (V:World):Prop:=VF f N L v∧veN v V
theorem RetC.v {f:Int→Rat} {N L:Nat} {w w':World} {e:Ending} (h:RetC f N L w e w'):∃v:VeV,e=.returned (.slice v.A v.ts.length v.c)∧Rests w' (w.heap.size≤·) (veF f N L v)∧Below w.heap.size w w':=by
 obtain⟨us,h1,h2,h3,h4,A,c,ts,rfl,-,h6,h7,h8⟩:=h
 subst h6
 exact⟨⟨A,c,ts⟩,rfl,Rests.and (.pure ⟨h1,h2,by rwa [List.length_map]at h3,h4⟩ _ _) h7,h8⟩
theorem VF.sz {f:Int→Rat} {N L:Nat} {v:VeV} (h:VF f N L v):∀t∈v.ts,Sz t.q N:=fun _t ht=>(h.2.1 _ (List.mem_map_of_mem (f:=plq) ht)).2
theorem veN.d {v:VeV} {n:Nat} {V:World} (h:veN v V) (hs:∀t∈v.ts,Sz t.q n):LsR 5 tecells (teD n) v.A v.ts V:=LsR.imp h fun t ht h=>RatN.rat h (hs t ht)
def zly (w:World) (ls:List Ow) (old new:World→Prop) (L nl:Nat) (R O:Option Addr) (rc oc:Nat) (vs:List VeV) (bl:List Bool) (r c:Nat) (e:Ending) (w':World):Prop:=∃(s:SpV) (vs':List VeV),e=.returned (.agg (zaL s))∧Hid (ElimP L nl vs bl r c s vs')∧GL w (⟨25,1,.slice R L rc,List.map za3 vs'⟩::⟨4,1,.slice O L oc,List.map bcl bl⟩::ls) old (fun V=>spN s V∧(∀v∈vs',veN v V)∧new V) w'
set_option maxRecDepth 100000 in
theorem zeR (w W:World) (ls:List Ow) (old new:World→Prop) (L nl:Nat) (hL:L≤17) (h1l:1≤nl) (hnl:nl≤100000000) (R O:Option Addr) (gR rc oc:Nat) (hR:R=some ⟨gR,0,none⟩) (vs:List VeV) (bl:List Bool) (hvl:vs.length=L) (hbl:bl.length=L) (hslO:Sl O L) (hv:∀v∈vs,VecP L nl v.ts∧∀t∈v.ts,nzT t=true)
 (h:GL w (⟨25,1,.slice R L rc,List.map za3 vs⟩::⟨4,1,.slice O L oc,List.map bcl bl⟩::ls) old (fun V=>(∀v∈vs,veN v V)∧new V) W) (z:Int) (c r:Nat) (_hc:c<L) (hr:r<L) (hq:rowQ vs r (c:Int)≠0) (hbr:bl[r]?≠some true) (hT:∀V,old V→Tz V):
 Calls Tryz.prog 129 #[.slice R L rc,.slice O L oc,.agg #[.int .i64 z,.int .i64 (c:Int),.int .i64 (r:Int)]] W (zly w ls old new L nl R O rc oc vs bl r c):=by
 have slR:Sl R L:=by rw[hR];exact Sl.some_ _ _ _
 have slO:=hslO
 have szc:=zaw
 have szb:=zdi
 have szv:=zai
 have hadd:=zaa
 have HV:=znd hv
 have HB:=znd hbl
 have HVL:=znd hvl
 have HR:=znd hR
 have HTZ:=znd hT
 have HQ0:=znd hq
 have HBR:=znd hbr
 have HG0:=znd h
 have hrv:r<vs.length:=by omega
 have hr0:(0:Int)≤(r:Int):=by omega
 have hr1:(r:Int)<(L:Int):=by omega
 clear h hR hv hT hq hvl hbl hbr hslO
 go_enter Tryz.func129,Tryz.ntmps129
 go_upto_region 1 with fail
 obtain⟨W1,g5,hW1,hg5,HG⟩:=HG0.out.alab 168 #[.int .i64 z,.int .i64 (c:Int),.int .i64 (r:Int)] 150 #[.int .i64 0,.int .i64 0,.bool false,.slice none 0 0,.bool false,.slice none 0 0,.slice none 0 0,.slice none 0 0]
 rw[hW1,hg5]
 clear hW1 hg5 HG0
 obtain⟨v0,hv0⟩:∃v0,v0=vs[r]:=⟨_,rfl⟩
 have H0:=znd (HV.out _ (List.getElem_mem hrv))
 have HRQ:=znd (fun a=>zat hrv a)
 have HM0:=znd (show v0∈vs by rw[hv0];exact List.getElem_mem hrv)
 have cv:=HG.out.vc (k:=1) rfl hrv
 rw[←hv0]at cv H0 HRQ
 clear hv0
 have c5:=Blk.cb HG.out.n.1
 go_upto_region 2 with fail
 clear cv
 have HE:=znd HG.out.env
 clear c5
 go_cut [8] (fun v wx=>∃(g8:Nat) (kq:RV) (vp:VeV),v=.pointer (some ⟨g8,0,none⟩)∧Hid (Env W1 [⟨g8,150,#[.int .i64 (r:Int),.int .i64 (c:Int),.bool kq.num.neg,.slice kq.num.A kq.num.k kq.num.c,.bool kq.den.neg,.slice kq.den.A kq.den.k kq.den.c,.slice vp.A vp.ts.length vp.c,.slice none 0 0]⟩] (fun V=>old V∧Blk V g5 168 #[.int .i64 z,.int .i64 (c:Int),.int .i64 (r:Int)]∧(∀v∈vs,veN v V)∧new V) (fun V=>veF (fun b=>if b=(c:Int) then 0 else getQ (v0.ts.map plq) b) nl (v0.ts.length+1) vp V∧RatN kq (getQ (v0.ts.map plq) (c:Int)) V∧True) wx))
 case first=>
  have v09:v0.ts.length*(nl+1)≤20*(nl+1):=Nat.mul_le_mul_right _ (by have:=H0.out.1.len;omega)
  have HO9:=znd (fun(V:World) (h:old V∧Blk V g5 168 #[.int .i64 z,.int .i64 (c:Int),.int .i64 (r:Int)]∧(∀v∈vs,veN v V)∧new V)=>Blk.cb h.2.1)
  refine znp [(0,some 17,[],.pu (.pointer (some ⟨g5,2,none⟩))),(1,some 18,[0],.pu (.int .i64 (r:Int))),(2,some 19,[],.pu (.pointer (some ⟨g5,1,none⟩))),(3,some 20,[2],.pu (.int .i64 (c:Int))),(4,some 21,[],.pu (.slice v0.A v0.ts.length v0.c)),(5,some 22,[],.pu (.pointer (some ⟨g5,1,none⟩))),(6,some 23,[5],.pu (.int .i64 (c:Int))),(7,some 24,[4,6],.ca (fun kq:RV=>.agg #[.bool kq.num.neg,.slice kq.num.A kq.num.k kq.num.c,.bool kq.den.neg,.slice kq.den.A kq.den.k kq.den.c]) (fun kq=>RatN kq (getQ (v0.ts.map plq) (c:Int)))),(8,some 25,[],.pu (.slice v0.A v0.ts.length v0.c)),(9,some 26,[],.pu (.pointer (some ⟨g5,1,none⟩))),(10,some 27,[9],.pu (.int .i64 (c:Int))),(11,some 28,[],.pu (.agg #[.bool false,.slice none 0 0,.bool false,.slice none 0 0])),(12,some 29,[8,10,11],.ca (fun vp:VeV=>.slice vp.A vp.ts.length vp.c) (fun vp=>veF (fun b=>if b=(c:Int) then 0 else getQ (v0.ts.map plq) b) nl (v0.ts.length+1) vp)),(13,some 30,[1,3,7,12],.fn [1,3,7,12] (fun l=>bldV l [.slice none 0 0])),(14,some 8,[],.bx 150 #[.int .i64 0,.int .i64 0,.bool false,.slice none 0 0,.bool false,.slice none 0 0,.slice none 0 0,.slice none 0 0])] 1 _ HE.out (by kernel_rfl) (by kernel_rfl) rfl rfl ?_ ?_
  ·refine armD (armD (armD (armD (armD (armD (armD (armC rfl ?_ (armD (armD (armD (armD (armC rfl ?_ (armD (armD trivial))))))))))))))
   ·intro u ao W ea HE K hK
    simp only[Act.put,List.setIfInBounds_toArray,List.set_cons_zero,List.set_cons_succ]at ea
    subst ea
    refine⟨?_⟩
    rw[if_pos (by rfl)]
    simp only[q1,q2,q3]
    go_simp
    refine(zdz _ nl (1+v0.ts.length*(nl+1)+nl) (by omega) h1l v0.A v0.c v0.ts ((HE.out.o.2.2.1 v0 HM0.out).d H0.out.1.sz) (by omega) (by omega) (c:Int) (HTZ.out _ HE.out.o.1)).mono ?_
    rintro e wq ⟨kq,rfl,hk,hb⟩
    (try(go_wp2_with fail))
    exact hK.out _ _ _ rfl hb ⟨kq,rfl,hk.ltX⟩
   ·intro u ao W ea HE K hK
    simp only[Act.put,List.setIfInBounds_toArray,List.set_cons_zero,List.set_cons_succ]at ea
    subst ea
    refine⟨?_⟩
    rw[if_pos (by rfl)]
    simp only[q1,q2,q3]
    go_simp
    refine((zg4 _ nl (by omega) h1l v0.A v0.c v0.ts ((HE.out.o.2.2.1 v0 HM0.out).d H0.out.1.sz) H0.out.1.rise (by have:=H0.out.1.len;omega) (c:Int) zeroR 0 (RatN.rat (zbX _) (zaM.up h1l)) (HTZ.out _ HE.out.o.1)).mono (fun _ _ h=>RetC.v h)).mono ?_
    rintro e wq ⟨vp,rfl,hk,hb⟩
    (try(go_wp2_with fail))
    exact hK.out _ _ _ rfl hb ⟨vp,rfl,hk.ltX⟩
  ·intro u kq vp g8 ao W ea HE
   simp only[Act.put,List.setIfInBounds_toArray,List.set_cons_zero,List.set_cons_succ]at ea
   simp only[List.map,evU,bldV,List.flatMap_cons,List.flatMap_nil,List.append_nil,reduceIte]at ea
   subst ea
   refine znw 15 rfl (by kernel_rfl) (fun K hK=>?_)
   rw[if_pos (by rfl)]
   try simp only[p1,p2,p3,p4]
   simp only[q1,q2,q3]
   have cc9:=Env.cs HE.out
   simp only[CBs]at cc9
   go_simp
   (try(go_wp2_with fail))
   replace HE:=znd (Env.put8 HE.out (.int .i64 (r:Int)) (.int .i64 (c:Int)) (.bool kq.num.neg) (.slice kq.num.A kq.num.k kq.num.c) (.bool kq.den.neg) (.slice kq.den.A kq.den.k kq.den.c) (.slice vp.A vp.ts.length vp.c) (.slice none 0 0))
   refine hK.out _ _ ?_
   clear hK K cc9
   refine znE (by kernel_rfl) ?_
   try simp only[p1,p2,p3,p4]
   go_wp2_with fail
   go_meet
   exact⟨g8,kq,vp,rfl,HE⟩
 case rest=>
  obtain⟨g8,kq,vp,rfl,HE2⟩:=hcut
  obtain⟨ts,hts⟩:∃ts:List TeV,ts=[]:=⟨_,rfl⟩
  obtain⟨tA,htA⟩:∃tA:Option Addr,tA=none:=⟨_,rfl⟩
  obtain⟨tc,htc⟩:∃tc:Nat,tc=0:=⟨_,rfl⟩
  obtain⟨vs2,hvs2⟩:∃vs2,vs2=vs:=⟨_,rfl⟩
  have HF:=znd (show VF (fun b=>if b=(c:Int) then 0 else rowQ vs r b) nl (v0.ts.length+1) vp from by simp only[HRQ.out];exact HE2.out.n.1.1)
  have HG3:=znd (show GL w (⟨65,5,.slice tA (List.length ts) tc,List.map tecells ts⟩::bow g8 150 8 #[.int .i64 (r:Int),.int .i64 (c:Int),.bool kq.num.neg,.slice kq.num.A kq.num.k kq.num.c,.bool kq.den.neg,.slice kq.den.A kq.den.k kq.den.c,.slice vp.A vp.ts.length vp.c,.slice tA ts.length tc]::bow (g5+1) 150 8 #[.int .i64 0,.int .i64 0,.bool false,.slice none 0 0,.bool false,.slice none 0 0,.slice none 0 0,.slice none 0 0]::⟨25,1,.slice R L rc,List.map za3 vs2⟩::⟨4,1,.slice O L oc,List.map bcl bl⟩::ls) old (fun V=>(∀v∈vs2,veN v V)∧(∀t∈ts,teN t V)∧veN vp V∧RatN kq (rowQ vs r (c:Int)) V∧Blk V g5 168 #[.int .i64 z,.int .i64 (c:Int),.int .i64 (r:Int)]∧new V) wc from by
   have h1:=((HG.out.join (((GL.ofEnv (bs1:=[⟨g8,150,#[.int .i64 (r:Int),.int .i64 (c:Int),.bool kq.num.neg,.slice kq.num.A kq.num.k kq.num.c,.bool kq.den.neg,.slice kq.den.A kq.den.k kq.den.c,.slice vp.A vp.ts.length vp.c,.slice none 0 0]⟩]) (bs2:=[]) HE2.out).imp (φ:=fun _=>True) (fun _ _=>trivial) (fun _ h=>h)))).new_ 65 5).imp (φ:=old) (ψ:=fun V=>(∀v∈vs,veN v V)∧(∀t∈([]:List TeV),teN t V)∧veN vp V∧RatN kq (rowQ vs r (c:Int)) V∧Blk V g5 168 #[.int .i64 z,.int .i64 (c:Int),.int .i64 (r:Int)]∧new V) (fun _ h=>h) (fun V h=>⟨h.2.2.1,by simp,h.1.1.2,by rw[HRQ.out];exact h.1.2.1,h.2.1,h.2.2.2⟩)
   rw[hts,htA,htc,hvs2]
   exact h1)
  clear HG HE HE2
  have HI:=znd (show ElI L nl vs bl r c 0 ts vs2 from by rw[hts,hvs2];exact ElI.start HVL.out HV.out)
  have HG:=HG3
  clear HG3 hts htA htc hvs2
  go_wp2_with fail
  go_loopw [33] (fun iv wr=>∃(i:Nat) (tA:Option Addr) (tc:Nat) (ts:List TeV) (vs2:List VeV),iv=.int .i64 (i:Int)∧i≤L∧Hid (ElI L nl vs bl r c i ts vs2)∧Hid (GL w (⟨65,5,.slice tA (List.length ts) tc,List.map tecells ts⟩::bow g8 150 8 #[.int .i64 (r:Int),.int .i64 (c:Int),.bool kq.num.neg,.slice kq.num.A kq.num.k kq.num.c,.bool kq.den.neg,.slice kq.den.A kq.den.k kq.den.c,.slice vp.A vp.ts.length vp.c,.slice tA ts.length tc]::bow (g5+1) 150 8 #[.int .i64 0,.int .i64 0,.bool false,.slice none 0 0,.bool false,.slice none 0 0,.slice none 0 0,.slice none 0 0]::⟨25,1,.slice R L rc,List.map za3 vs2⟩::⟨4,1,.slice O L oc,List.map bcl bl⟩::ls) old (fun V=>(∀v∈vs2,veN v V)∧(∀t∈ts,teN t V)∧veN vp V∧RatN kq (rowQ vs r (c:Int)) V∧Blk V g5 168 #[.int .i64 z,.int .i64 (c:Int),.int .i64 (r:Int)]∧new V) wr)) (fun iv _=>L-(intOf iv).toNat)
  case atStart=>exact⟨0,tA,tc,ts,vs2,rfl,Nat.zero_le _,HI,HG⟩
  case round=>
   clear HG HI
   obtain⟨i,tA,tc,ts,vs2,rfl,hi,HI,HG⟩:=hrel
   by_cases hlt:i<L
   ·have hib:i<bl.length:=by rw[HB.out];exact hlt
    have hiv:i<vs2.length:=by rw[HI.out.len];exact hlt
    have cb:=HG.out.c1 (f:=Value.bool) (k:=4) (l:=bl) rfl hib
    obtain⟨b,hb⟩:∃b,b=bl[i]:=⟨_,rfl⟩
    have HBI:=znd (show bl[i]?=some b by rw[hb];exact List.getElem?_eq_getElem hib)
    rw[←hb]at cb
    clear hb
    cases b
    ·go_wp2_with fail
     go_roundw
     case rel=>exact⟨i+1,tA,tc,ts,vs2,by go_num,by omega,znd (HI.out.skip (by rw[HBI.out];simp)),HG⟩
     case measure=>(simp[intOf]<;>omega)
    ·have hi0:(0:Int)≤(i:Int):=by omega
     have hi1:(i:Int)<(L:Int):=by omega
     go_upto_region 7 with fail
     obtain⟨v,hv⟩:∃v,v=vs2[i]:=⟨_,rfl⟩
     have H1:=znd (HI.out.vec _ (List.getElem_mem hiv))
     have HVM:=znd (show v∈vs2 by rw[hv];exact List.getElem_mem hiv)
     have HVC:=znd (show∀V,El V 1 R (vs2.map za3)→V.cell? (adr R i)=some (.slice v.A v.ts.length v.c)from fun V h=>by rw[hv];exact h.vc i hiv)
     have HRI:=znd (show∀a,getQ (v.ts.map plq) a=rowQ vs i a from fun a=>by rw[hv,←zat hiv,zcv (HI.out.off i (.inr (Nat.le_refl _))).2])
     rw[←hv]at H1
     clear hv cb
     have HE:=znd (HG.out.envE (k:=3) rfl)
     have v9:v.ts.length*(4*nl+4+1)≤20*(4*nl+4+1):=Nat.mul_le_mul_right _ (by have:=H1.out.1.len;omega)
     obtain⟨Wi,hWi⟩:∃Wi:World,Wi=wr:=⟨_,rfl⟩
     rw[←hWi]at HE HG⊢
     clear hWi
     go_cut [10] (fun v5 wx=>∃(g10:Nat) (kx:RV),v5=.pointer (some ⟨g10,0,none⟩)∧Hid (Env Wi [⟨g10,48,#[.bool kx.num.neg,.slice kx.num.A kx.num.k kx.num.c,.bool kx.den.neg,.slice kx.den.A kx.den.k kx.den.c]⟩] (fun V=>El V 1 R (vs2.map za3)∧old V∧(∀v∈vs2,veN v V)∧(∀t∈ts,teN t V)∧veN vp V∧RatN kq (rowQ vs r (c:Int)) V∧Blk V g5 168 #[.int .i64 z,.int .i64 (c:Int),.int .i64 (r:Int)]∧new V) (fun V=>RatN kx (getQ (v.ts.map plq) (c:Int)) V∧True) wx))
     case first=>
      have HO9:=znd (fun(V:World) (h:(fun V=>El V 1 R (vs2.map za3)∧old V∧(∀v∈vs2,veN v V)∧(∀t∈ts,teN t V)∧veN vp V∧RatN kq (rowQ vs r (c:Int)) V∧Blk V g5 168 #[.int .i64 z,.int .i64 (c:Int),.int .i64 (r:Int)]∧new V) V)=>And.intro (Blk.cb h.2.2.2.2.2.2.1) (HVC.out _ h.1))
      refine znp [(0,some 41,[],.pu (.slice R L rc)),(1,some 42,[],.pu (.int .i64 (i:Int))),(2,some 43,[0,1],.pu (.pointer (some (adr R i)))),(3,some 44,[2],.pu (.slice v.A v.ts.length v.c)),(4,some 45,[],.pu (.pointer (some ⟨g5,1,none⟩))),(5,some 46,[4],.pu (.int .i64 (c:Int))),(6,some 47,[3,5],.ca (fun kx:RV=>.agg #[.bool kx.num.neg,.slice kx.num.A kx.num.k kx.num.c,.bool kx.den.neg,.slice kx.den.A kx.den.k kx.den.c]) (fun kx=>RatN kx (getQ (v.ts.map plq) (c:Int)))),(7,some 10,[],.bx 48 #[.bool false,.slice none 0 0,.bool false,.slice none 0 0])] 1 _ HE.out (by kernel_rfl) (by kernel_rfl) rfl rfl ?_ ?_
      ·refine armD (armD (armD (armD (armD (armD (armC rfl ?_ (armD trivial)))))))
       ·intro u ao W ea HE K hK
        simp only[Act.put,List.setIfInBounds_toArray,List.set_cons_zero,List.set_cons_succ]at ea
        subst ea
        refine⟨?_⟩
        rw[if_pos (by rfl)]
        simp only[q1,q2,q3]
        go_simp
        refine(zdz _ (4*nl+4) (1+v.ts.length*(4*nl+4+1)+(4*nl+4)) (by omega) (by omega) v.A v.c v.ts ((HE.out.o.2.2.1 v HVM.out).d H1.out.1.sz) (by omega) (by omega) (c:Int) (HTZ.out _ HE.out.o.2.1)).mono ?_
        rintro e wq ⟨kx,rfl,hk,hb⟩
        (try(go_wp2_with fail))
        exact hK.out _ _ _ rfl hb ⟨kx,rfl,hk.ltX⟩
      ·intro u kx g10 ao W ea HE
       simp only[Act.put,List.setIfInBounds_toArray,List.set_cons_zero,List.set_cons_succ]at ea
       subst ea
       refine znw 8 rfl (by kernel_rfl) (fun K hK=>?_)
       rw[if_pos (by rfl)]
       try simp only[p1,p2,p3,p4]
       simp only[q1,q2,q3]
       have cc9:=Env.cs HE.out
       simp only[CBs]at cc9
       go_simp
       (try(go_wp2_with fail))
       replace HE:=znd (Env.put4 HE.out (.bool kx.num.neg) (.slice kx.num.A kx.num.k kx.num.c) (.bool kx.den.neg) (.slice kx.den.A kx.den.k kx.den.c))
       refine hK.out _ _ ?_
       clear hK K cc9
       refine znE (by kernel_rfl) ?_
       try simp only[p1,p2,p3,p4]
       go_wp2_with fail
       go_meet
       exact⟨g10,kx,rfl,HE⟩
     case rest=>
      obtain⟨g10,kx,rfl,HE2⟩:=hcut
      have HG2:=znd ((HG.out.keep HE2.out.made HE2.out.bel).imp (φ:=old) (ψ:=fun V=>RatN kx (getQ (v.ts.map plq) (c:Int)) V∧Blk V g10 48 #[.bool kx.num.neg,.slice kx.num.A kx.num.k kx.num.c,.bool kx.den.neg,.slice kx.den.A kx.den.k kx.den.c]∧(∀v∈vs2,veN v V)∧(∀t∈ts,teN t V)∧veN vp V∧RatN kq (rowQ vs r (c:Int)) V∧Blk V g5 168 #[.int .i64 z,.int .i64 (c:Int),.int .i64 (r:Int)]∧new V) (fun _ h=>h) (fun V h=>⟨h.1.2.1,h.1.1 _ (List.mem_singleton.2 rfl),h.2⟩))
      clear HE HE2 HG
      have HG:=HG2
      clear HG2
      have HSX:=znd (show Sz (rowQ vs i c) (4*nl+4)from by rw[←HRI.out];exact zb4 H1.out.1.rise (by omega) H1.out.1.sz _)
      have HKX:=znd (fun(V:World) (h:RatN kx (getQ (v.ts.map plq) (c:Int)) V)=>show RatN kx (rowQ vs i c) V from by rw[←HRI.out];exact h)
      have cx:=Blk.cb HG.out.n.2.1
      go_wp2_with fail
      refine(zaV _ kx (rowQ vs i c) (4*nl+4) (by omega) (RatN.rat (HKX.out _ HG.out.n.1) HSX.out)).mono ?_
      rintro e w1 ⟨rfl,hb⟩
      replace HG:=znd (HG.out.skip hb)
      clear hb cx
      obtain⟨S0,hS0⟩:∃S0,((rowQ vs i c).num.sign==0)=S0:=⟨_,rfl⟩
      have HS0:=znd hS0
      have hS1:=hS0
      clear hS0
      cases S0
      ·have hS2:=hS1
       clear hS1
       have cx:=Blk.cb HG.out.n.2.1
       have c8:=HG.out.cb (k:=1) rfl
       go_wp2_with fail
       have HSQ:=znd (show Sz (rowQ vs r c) nl from by rw[HRQ.out];exact zb4 H0.out.1.rise h1l H0.out.1.sz _)
       refine(zeD _ kx kq (rowQ vs i c) (rowQ vs r c) (4*nl+4) (by omega) (by omega) (RatN.rat (HKX.out _ HG.out.n.1) HSX.out) ((RatN.rat HG.out.n.2.2.2.2.2.1 HSQ.out).mono9 (by omega)) (HTZ.out _ HG.out.o)).mono ?_
       rintro e w2 ⟨k2,rfl,hk9,hb9⟩
       replace HG:=znd (HG.out.call hk9 hb9)
       clear hk9 hb9 cx c8 hS2
       go_upto_region 10 with fail
       obtain⟨W9,g11,hW9,hg11,HG2⟩:=HG.out.al 48 #[.bool k2.num.neg,.slice k2.num.A k2.num.k k2.num.c,.bool k2.den.neg,.slice k2.den.A k2.den.k k2.den.c]
       rw[hW9,hg11]
       clear hW9 hg11 HG
       have HG:=znd (HG2.out.imp (φ:=old) (ψ:=fun V=>(RatN k2 (rowQ vs i c/rowQ vs r c) V∧Blk V g11 48 #[.bool k2.num.neg,.slice k2.num.A k2.num.k k2.num.c,.bool k2.den.neg,.slice k2.den.A k2.den.k k2.den.c])∧(∀v∈vs2,veN v V)∧(∀t∈ts,teN t V)∧veN vp V∧RatN kq (rowQ vs r (c:Int)) V∧Blk V g5 168 #[.int .i64 z,.int .i64 (c:Int),.int .i64 (r:Int)]∧new V) (fun _ h=>h) (fun V h=>⟨⟨h.2.1,h.1⟩,h.2.2.2.2⟩))
       clear HG2
       have HSQ2:=znd (show Sz (rowQ vs i c/rowQ vs r c) (5*nl+5)from(HSX.out.quo HSQ.out).up (by omega))
       have HSQ3:=znd (show Sz (rowQ vs i c/rowQ vs r c) (5*nl+5)from HSQ2.out)
       have HV2:=znd (show∀V {nw:World→Prop},GL w (⟨65,5,.slice tA (List.length ts) tc,List.map tecells ts⟩::bow g8 150 8 #[.int .i64 (r:Int),.int .i64 (c:Int),.bool kq.num.neg,.slice kq.num.A kq.num.k kq.num.c,.bool kq.den.neg,.slice kq.den.A kq.den.k kq.den.c,.slice vp.A vp.ts.length vp.c,.slice tA ts.length tc]::bow (g5+1) 150 8 #[.int .i64 0,.int .i64 0,.bool false,.slice none 0 0,.bool false,.slice none 0 0,.slice none 0 0,.slice none 0 0]::⟨25,1,.slice R L rc,List.map za3 vs2⟩::⟨4,1,.slice O L oc,List.map bcl bl⟩::ls) old nw V→V.cell? (adr R i)=some (.slice v.A v.ts.length v.c)∧CB g8 #[.int .i64 (r:Int),.int .i64 (c:Int),.bool kq.num.neg,.slice kq.num.A kq.num.k kq.num.c,.bool kq.den.neg,.slice kq.den.A kq.den.k kq.den.c,.slice vp.A vp.ts.length vp.c,.slice tA ts.length tc] V from fun V _ h=>⟨HVC.out _ ((h.own _ (List.mem_of_getElem? (i:=3) rfl)).el).1,h.cb (k:=1) rfl⟩)
       have fr:=HG.out.free HR.out (k:=3) rfl i
       refine wp_region_noPanic ?_
       refine zab 16 (fun V=>(V.cell? (adr R i)=some (.slice v.A v.ts.length v.c)∧CB g8 #[.int .i64 (r:Int),.int .i64 (c:Int),.bool kq.num.neg,.slice kq.num.A kq.num.k kq.num.c,.bool kq.den.neg,.slice kq.den.A kq.den.k kq.den.c,.slice vp.A vp.ts.length vp.c,.slice tA ts.length tc] V)∧CB g5 #[.int .i64 z,.int .i64 (c:Int),.int .i64 (r:Int)] V∧CB g11 #[.bool k2.num.neg,.slice k2.num.A k2.num.k k2.num.c,.bool k2.den.neg,.slice k2.den.A k2.den.k k2.den.c] V) (by kernel_rfl) (by with_reducible first|exact⟨HV2.out _ HG.out,Blk.cb HG.out.n.2.2.2.2.2.1,Blk.cb HG.out.n.1.2⟩|exact⟨HV2.out _ HG.out.drew,Blk.cb HG.out.drew.n.2.2.2.2.2.1,Blk.cb HG.out.drew.n.1.2⟩|exact⟨HV2.out _ HG.out,Blk.cb HG.out.n.2.2.2.2.2.2.1,Blk.cb HG.out.n.2.1.2⟩|exact⟨HV2.out _ HG.out.drew,Blk.cb HG.out.drew.n.2.2.2.2.2.2.1,Blk.cb HG.out.drew.n.2.1.2⟩|exact⟨HV2.out _ HG.out,Blk.cb HG.out.n.2.2.2.2.2.2.2.1,Blk.cb HG.out.n.2.2.1.2⟩|exact⟨HV2.out _ HG.out.drew,Blk.cb HG.out.drew.n.2.2.2.2.2.2.2.1,Blk.cb HG.out.drew.n.2.2.1.2⟩|exact⟨HV2.out _ HG.out,Blk.cb HG.out.n.2.2.2.2.2.2.2.2.1,Blk.cb HG.out.n.2.2.2.1.2⟩|exact⟨HV2.out _ HG.out.drew,Blk.cb HG.out.drew.n.2.2.2.2.2.2.2.2.1,Blk.cb HG.out.drew.n.2.2.2.1.2⟩) (fun hHeld=>?_)
       replace HG:=znd HG.out.drew
       refine gTa 0 55 hHeld ?_
       refine gTa 1 56 hHeld ?_
       refine gTa 2 57 hHeld ?_
       refine gTa 3 58 hHeld ?_
       refine gTa 4 59 hHeld ?_
       refine gTa 5 60 hHeld ?_
       refine gTa 6 61 hHeld ?_
       refine gTa 7 62 hHeld ?_
       refine gTa 8 63 hHeld ?_
       refine gTa 10 65 hHeld ?_
       refine gTa 12 67 hHeld ?_
       refine gTa 13 68 hHeld ?_
       refine gC 9 rfl (by kernel_rfl) (by rfl) (fun K hK=>?_)
       clear hHeld
       simp only[q1,q2,q3]
       go_simp
       refine(zg4 _ (4*nl+4) (by omega) (by omega) v.A v.c v.ts ((HG.out.n.2.1 v HVM.out).d H1.out.1.sz) H1.out.1.rise (by have:=H1.out.1.len;omega) (c:Int) zeroR 0 (RatN.rat (zbX _) (zaM.up (by omega))) (HTZ.out _ HG.out.o)).mono ?_
       intro e wq hret
       obtain⟨v2,rfl,hk9,hb9⟩:=RetC.v hret
       replace HG:=znd (HG.out.call hk9 hb9)
       clear hret hk9 hb9
       (try(go_wp2_with fail))
       refine hK.out _ _ (by with_reducible first|exact⟨HV2.out _ HG.out,Blk.cb HG.out.n.2.2.2.2.2.1,Blk.cb HG.out.n.1.2⟩|exact⟨HV2.out _ HG.out.drew,Blk.cb HG.out.drew.n.2.2.2.2.2.1,Blk.cb HG.out.drew.n.1.2⟩|exact⟨HV2.out _ HG.out,Blk.cb HG.out.n.2.2.2.2.2.2.1,Blk.cb HG.out.n.2.1.2⟩|exact⟨HV2.out _ HG.out.drew,Blk.cb HG.out.drew.n.2.2.2.2.2.2.1,Blk.cb HG.out.drew.n.2.1.2⟩|exact⟨HV2.out _ HG.out,Blk.cb HG.out.n.2.2.2.2.2.2.2.1,Blk.cb HG.out.n.2.2.1.2⟩|exact⟨HV2.out _ HG.out.drew,Blk.cb HG.out.drew.n.2.2.2.2.2.2.2.1,Blk.cb HG.out.drew.n.2.2.1.2⟩|exact⟨HV2.out _ HG.out,Blk.cb HG.out.n.2.2.2.2.2.2.2.2.1,Blk.cb HG.out.n.2.2.2.1.2⟩|exact⟨HV2.out _ HG.out.drew,Blk.cb HG.out.drew.n.2.2.2.2.2.2.2.2.1,Blk.cb HG.out.drew.n.2.2.2.1.2⟩) (fun hHeld=>?_)
       clear hK K
       try simp only[p1,p2,p3,p4]
       refine gC 11 rfl (by kernel_rfl) (by rfl) (fun K hK=>?_)
       clear hHeld
       simp only[q1,q2,q3]
       go_simp
       refine(zgk _ k2 (rowQ vs i c/rowQ vs r c) (5*nl+5) (by omega) (by omega) (RatN.rat HG.out.n.2.1.1 HSQ2.out) (HTZ.out _ HG.out.o)).mono ?_
       rintro e wq ⟨k3,rfl,hk9,hb9⟩
       replace HG:=znd (HG.out.call hk9 hb9)
       clear hk9 hb9
       (try(go_wp2_with fail))
       refine hK.out _ _ (by with_reducible first|exact⟨HV2.out _ HG.out,Blk.cb HG.out.n.2.2.2.2.2.1,Blk.cb HG.out.n.1.2⟩|exact⟨HV2.out _ HG.out.drew,Blk.cb HG.out.drew.n.2.2.2.2.2.1,Blk.cb HG.out.drew.n.1.2⟩|exact⟨HV2.out _ HG.out,Blk.cb HG.out.n.2.2.2.2.2.2.1,Blk.cb HG.out.n.2.1.2⟩|exact⟨HV2.out _ HG.out.drew,Blk.cb HG.out.drew.n.2.2.2.2.2.2.1,Blk.cb HG.out.drew.n.2.1.2⟩|exact⟨HV2.out _ HG.out,Blk.cb HG.out.n.2.2.2.2.2.2.2.1,Blk.cb HG.out.n.2.2.1.2⟩|exact⟨HV2.out _ HG.out.drew,Blk.cb HG.out.drew.n.2.2.2.2.2.2.2.1,Blk.cb HG.out.drew.n.2.2.1.2⟩|exact⟨HV2.out _ HG.out,Blk.cb HG.out.n.2.2.2.2.2.2.2.2.1,Blk.cb HG.out.n.2.2.2.1.2⟩|exact⟨HV2.out _ HG.out.drew,Blk.cb HG.out.drew.n.2.2.2.2.2.2.2.2.1,Blk.cb HG.out.drew.n.2.2.2.1.2⟩) (fun hHeld=>?_)
       clear hK K
       try simp only[p1,p2,p3,p4]
       refine gC 14 rfl (by kernel_rfl) (by rfl) (fun K hK=>?_)
       clear hHeld
       simp only[q1,q2,q3]
       go_simp
       refine(zdp _ (4*nl+4) (5*nl+5) (by omega) (by omega) (by omega) (by omega) v2.A vp.A v2.c vp.c v2.ts vp.ts k3 (-(rowQ vs i c/rowQ vs r c)) (HG.out.n.2.1.2.d HG.out.n.2.1.1.sz) (LsR.imp (HG.out.n.2.2.2.2.2.1.d HF.out.sz) (fun _ _ h=>RatD.mono9 h (by omega))) (RatN.rat HG.out.n.1 HSQ2.out.neg) (zc9 HG.out.n.2.1.1.1) (zc9 HF.out.1) (by have:=HG.out.n.2.1.1.2.2.1;have:=H1.out.1.len;omega) (by have:=HF.out.2.2.1;have:=H0.out.1.len;omega) (HTZ.out _ HG.out.o)).mono ?_
       intro e wq hret
       obtain⟨v3,rfl,hk9,hb9⟩:=RetC.v hret
       replace HG:=znd (HG.out.call hk9 hb9)
       clear hret hk9 hb9
       (try(go_wp2_with fail))
       refine hK.out _ _ (by with_reducible first|exact⟨HV2.out _ HG.out,Blk.cb HG.out.n.2.2.2.2.2.1,Blk.cb HG.out.n.1.2⟩|exact⟨HV2.out _ HG.out.drew,Blk.cb HG.out.drew.n.2.2.2.2.2.1,Blk.cb HG.out.drew.n.1.2⟩|exact⟨HV2.out _ HG.out,Blk.cb HG.out.n.2.2.2.2.2.2.1,Blk.cb HG.out.n.2.1.2⟩|exact⟨HV2.out _ HG.out.drew,Blk.cb HG.out.drew.n.2.2.2.2.2.2.1,Blk.cb HG.out.drew.n.2.1.2⟩|exact⟨HV2.out _ HG.out,Blk.cb HG.out.n.2.2.2.2.2.2.2.1,Blk.cb HG.out.n.2.2.1.2⟩|exact⟨HV2.out _ HG.out.drew,Blk.cb HG.out.drew.n.2.2.2.2.2.2.2.1,Blk.cb HG.out.drew.n.2.2.1.2⟩|exact⟨HV2.out _ HG.out,Blk.cb HG.out.n.2.2.2.2.2.2.2.2.1,Blk.cb HG.out.n.2.2.2.1.2⟩|exact⟨HV2.out _ HG.out.drew,Blk.cb HG.out.drew.n.2.2.2.2.2.2.2.2.1,Blk.cb HG.out.drew.n.2.2.2.1.2⟩) (fun hHeld=>?_)
       clear hK K
       try simp only[p1,p2,p3,p4]
       refine gTa 15 70 hHeld ?_
       have fr:=HG.out.free HR.out (k:=3) rfl i
       have cvv:=(HV2.out _ HG.out).1
       refine gL rfl (by kernel_rfl) (by kernel_rfl) (by rfl) (fun K hK=>?_)
       clear hHeld
       simp only[q1,q2,q3]
       go_simp
       (try(go_wp2_with fail))
       refine hK.out _ _ ?_
       clear hK K
       try simp only[p1,p2,p3,p4]
       refine NoPanic.normal ?_
       clear fr cvv
       replace HG:=znd (HG.out.putV HR.out (k:=3) rfl hiv v3)
       have HI2:=znd (HI.out.step (nv:=fun v hv=>(HV.out v hv).1) HVL.out hlt hr HBI.out HQ0.out k2 v3 HG.out.n.1.1.1 (fun p hp=>(HG.out.n.1.1.2.1 p hp).1) (fun a=>by have e1:=HG.out.n.1.1.2.2.2 a;have e2:=HG.out.n.2.2.1.1.2.2.2 a;have e3:=HF.out.2.2.2 a;simp only at e1 e2 e3;rw[e1,e2,e3,HRI.out a]) h1l)
       have HG2:=znd (show GL w (⟨65,5,.slice tA (List.length ts) tc,List.map tecells ts⟩::bow g8 150 8 #[.int .i64 (r:Int),.int .i64 (c:Int),.bool kq.num.neg,.slice kq.num.A kq.num.k kq.num.c,.bool kq.den.neg,.slice kq.den.A kq.den.k kq.den.c,.slice vp.A vp.ts.length vp.c,.slice tA ts.length tc]::bow (g5+1) 150 8 #[.int .i64 0,.int .i64 0,.bool false,.slice none 0 0,.bool false,.slice none 0 0,.slice none 0 0,.slice none 0 0]::⟨25,1,.slice R L rc,List.map za3 (vs2.set i v3)⟩::⟨4,1,.slice O L oc,List.map bcl bl⟩::ls) old (fun V=>(RatN k2 (rowQ vs i c/rowQ vs r c) V∧Blk V g11 48 #[.bool k2.num.neg,.slice k2.num.A k2.num.k k2.num.c,.bool k2.den.neg,.slice k2.den.A k2.den.k k2.den.c])∧(∀v∈(vs2.set i v3),veN v V)∧(∀t∈ts,teN t V)∧veN vp V∧RatN kq (rowQ vs r (c:Int)) V∧Blk V g5 168 #[.int .i64 z,.int .i64 (c:Int),.int .i64 (r:Int)]∧new V) _ from HG.out.imp (fun _ h=>h) (fun V h=>⟨h.2.2.2.1,zb2 (P:=fun v=>veN v V) h.2.2.2.2.1 h.1.2,h.2.2.2.2.2⟩))
       clear HG
       have HG:=HG2
       clear HG2
       generalize World.setCell _ _ _=Wz at HG⊢
       have HLT:=znd (show ts.length≤1000000 from by have h9:=VecP.len (m:=L) (nl:=2*nl+1) (ts:=ts) ⟨HI.out.rise,fun t ht=>⟨(HI.out.pl t ht).1,by have:=(HI.out.pl t ht).2;omega⟩,HI.out.sz⟩;omega)
       obtain⟨Ap,cp,w8,hrun,hG⟩:=GL.appT zaE HG.out HG.out.env ⟨(i:Int),k2,(rowQ vs i c/rowQ vs r c)⟩ HLT.out
       have Hrun:=znd hrun
       have HG2:=znd (show GL w (⟨65,5,.slice Ap (List.length (ts++[⟨(i:Int),k2,(rowQ vs i c/rowQ vs r c)⟩])) cp,List.map tecells (ts++[⟨(i:Int),k2,(rowQ vs i c/rowQ vs r c)⟩])⟩::bow g8 150 8 #[.int .i64 (r:Int),.int .i64 (c:Int),.bool kq.num.neg,.slice kq.num.A kq.num.k kq.num.c,.bool kq.den.neg,.slice kq.den.A kq.den.k kq.den.c,.slice vp.A vp.ts.length vp.c,.slice tA ts.length tc]::bow (g5+1) 150 8 #[.int .i64 0,.int .i64 0,.bool false,.slice none 0 0,.bool false,.slice none 0 0,.slice none 0 0,.slice none 0 0]::⟨25,1,.slice R L rc,List.map za3 (vs2.set i v3)⟩::⟨4,1,.slice O L oc,List.map bcl bl⟩::ls) old (fun V=>(RatN k2 (rowQ vs i c/rowQ vs r c) V∧Blk V g11 48 #[.bool k2.num.neg,.slice k2.num.A k2.num.k k2.num.c,.bool k2.den.neg,.slice k2.den.A k2.den.k k2.den.c])∧(∀v∈(vs2.set i v3),veN v V)∧(∀t∈ts,teN t V)∧veN vp V∧RatN kq (rowQ vs r (c:Int)) V∧Blk V g5 168 #[.int .i64 z,.int .i64 (c:Int),.int .i64 (r:Int)]∧new V) w8 from hG.imp (fun _ h=>h) (fun V h=>h.2))
       clear hrun hG
       have c8:=HG.out.cb (k:=1) rfl
       have c11:=Blk.cb HG.out.n.1.2
       have c82:=HG2.out.cb (k:=1) rfl
       clear HG
       go_wp2_with (at_builtin;refine zac rfl (.tmp 72) (.tmp 76) 25 _ _ _ rfl rfl rfl Hrun.out ?_)
       clear Hrun c8 c11
       go_wp2_with fail
       clear c82
       have HG3:=znd (show GL w (⟨65,5,.slice Ap (List.length (ts++[⟨(i:Int),k2,(rowQ vs i c/rowQ vs r c)⟩])) cp,List.map tecells (ts++[⟨(i:Int),k2,(rowQ vs i c/rowQ vs r c)⟩])⟩::bow g8 150 8 #[.int .i64 (r:Int),.int .i64 (c:Int),.bool kq.num.neg,.slice kq.num.A kq.num.k kq.num.c,.bool kq.den.neg,.slice kq.den.A kq.den.k kq.den.c,.slice vp.A vp.ts.length vp.c,.slice Ap (List.length (ts++[⟨(i:Int),k2,(rowQ vs i c/rowQ vs r c)⟩])) cp]::bow (g5+1) 150 8 #[.int .i64 0,.int .i64 0,.bool false,.slice none 0 0,.bool false,.slice none 0 0,.slice none 0 0,.slice none 0 0]::⟨25,1,.slice R L rc,List.map za3 (vs2.set i v3)⟩::⟨4,1,.slice O L oc,List.map bcl bl⟩::ls) old (fun V=>(RatN k2 (rowQ vs i c/rowQ vs r c) V∧Blk V g11 48 #[.bool k2.num.neg,.slice k2.num.A k2.num.k k2.num.c,.bool k2.den.neg,.slice k2.den.A k2.den.k k2.den.c])∧(∀v∈(vs2.set i v3),veN v V)∧(∀t∈ts,teN t V)∧veN vp V∧RatN kq (rowQ vs r (c:Int)) V∧Blk V g5 168 #[.int .i64 z,.int .i64 (c:Int),.int .i64 (r:Int)]∧new V) _ from by
        have h9:=HG2.out.pc (k:=1) rfl (i:=7) (by decide) (.slice Ap (ts.length+1) cp)
        have hln:List.length (ts++[⟨(i:Int),k2,(rowQ vs i c/rowQ vs r c)⟩])=ts.length+1:=by simp
        rw[ziq]at h9
        rw[hln]at h9⊢
        exact h9)
       clear HG2
       go_roundw
       case rel=>exact⟨i+1,Ap,cp,(ts++[⟨(i:Int),k2,(rowQ vs i c/rowQ vs r c)⟩]),(vs2.set i v3),by go_num,by omega,HI2,znd (HG3.out.imp (fun _ h=>h) (fun V h=>⟨h.2.1,fun t ht=>by
        rcases List.mem_append.1 ht with ht|ht
        ·exact h.2.2.1 t ht
        ·rw[List.mem_singleton.1 ht];exact h.1.1,h.2.2.2⟩))⟩
       case measure=>(simp[intOf]<;>omega)
      ·have h0:rowQ vs i (c:Int)=0:=Rat.num_eq_zero.1 (Int.sign_eq_zero_iff_zero.1 (by simpa using hS1))
       have H00:=znd h0
       clear h0
       have hS2:(rowQ vs i (c:Int)).num.sign=0:=by simpa using hS1
       go_wp2_with fail
       go_roundw
       case rel=>exact⟨i+1,tA,tc,ts,vs2,by go_num,by omega,znd (HI.out.zero H00.out),znd (HG.out.imp (fun _ h=>h) (fun V h=>h.2.2))⟩
       case measure=>(simp[intOf]<;>omega)
   ·obtain rfl:L=i:=by omega
    have hnu:¬(L:Int)<(L:Int):=by omega
    have c8:=HG.out.cb (k:=1) rfl
    have c6:=HG.out.cb (k:=2) rfl
    go_wp2_with fail
    obtain⟨WF,hWF,HGF⟩:=HG.out.st8 (k:=2) rfl (.int .i64 (r:Int)) (.int .i64 (c:Int)) (.bool kq.num.neg) (.slice kq.num.A kq.num.k kq.num.c) (.bool kq.den.neg) (.slice kq.den.A kq.den.k kq.den.c) (.slice vp.A vp.ts.length vp.c) (.slice tA ts.length tc)
    rw[hWF]
    clear hWF c6 c8
    have c6:=HGF.out.cb (k:=2) rfl
    have HGE:=znd (GL.drop_ (GL.drop_ (GL.read HGF.out)))
    exact bodyPost_ret (v:=.agg #[.int .i64 (r:Int),.int .i64 (c:Int),.bool kq.num.neg,.slice kq.num.A kq.num.k kq.num.c,.bool kq.den.neg,.slice kq.den.A kq.den.k kq.den.c,.slice vp.A vp.ts.length vp.c,.slice tA ts.length tc]) (by simp[results,Tryz.results129,go_sem,c6]) rfl ⟨⟨r,c,kq,rowQ vs r (c:Int),vp.A,vp.c,vp.ts,tA,tc,ts⟩,vs2,rfl,znd ⟨rfl,rfl,rfl,HF.out.2.2.2,⟨zc9 HF.out.1,fun t ht=>zgf (P:=fun a=>0≤a∧a<(L:Int)) HF.out.1 (fun p hp=>(HF.out.2.1 p hp).1) (fun a ha=>by
     by_cases e9:0≤a∧a<(L:Int)
     ·exact e9
     ·refine absurd ?_ ha
      rw[HF.out.2.2.2 a]
      show(if a=(c:Int) then 0 else rowQ vs r a)=0
      rw[HRQ.out a,zeP H0.out.1 e9]
      simp) _ (List.mem_map_of_mem (f:=plq) ht),HF.out.sz⟩,HI.out⟩,HGE.out.imp (fun _ h=>h) (fun V h=>⟨⟨h.2.2.2.2.2.2.1,h.2.2.2.2.2.1,⟨h.2.2.1,h.2.2.2.2.1⟩⟩,h.2.2.2.1,h.2.2.2.2.2.2.2.2⟩)⟩
end Go.Proofs.YtfdmajmhmligpaaGreatDoor
