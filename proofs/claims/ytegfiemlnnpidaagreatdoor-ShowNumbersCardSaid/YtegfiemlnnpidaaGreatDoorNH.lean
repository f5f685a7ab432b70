/-
 shapes.exact. Calls that write one box (a captured variable) and leave all else alone. shapes: the tests of numbers, of fractions, of rows, of groups; all. shapes: groups, plain, affine, pool, conv, behind. shapes: conv, behind. shapes: sizes, Check, Sizes. shapes: Check, Sizes.
-/
import Derived.Test.YtegfiemlnnpidaaGreatDoorNA
import Derived.Test.YtegfiemlnnpidaaGreatDoorSS
import Derived.Test.YtegfiemlnnpidaaGreatDoorRQ
import Derived.Test.YtegfiemlnnpidaaGreatDoorLowB
namespace Go.Proofs.YtegfiemlnnpidaaGreatDoor
set_option maxHeartbeats 8000000
open Go.RowKit

set_option maxRecDepth 100000 in
theorem zsr (w:World) (i j:IV) (z y:Int) (n:Nat) (_hn:n<=17592186044416) (_h:IntD i y n w) (_h':IntN j z w) (hne:i.neg≠j.neg):
 Calls Tryz.prog 98 #[iA i,iA j] w fun e w'=>e=.returned (.bool false)/\Below w.heap.size w w':=by
 have HE:=znd (lyII i j (Rests.pure trivial w _));have c:=Env.c2 HE.out;have dd:=Env.d2 HE.out;have he:(i.neg==j.neg)=false:=by simpa using hne
 clear _h _h' hne;unfold iA;go_enter Tryz.func98,Tryz.ntmps98;go_wp2_with fail;go_ret;exact⟨rfl,HE.out.bel⟩
set_option maxRecDepth 100000 in
theorem zsG (w:World) (i j:IV) (z y:Int) (n:Nat) (hn:n<=17592186044416) (h:IntD i y n w) (h':IntN j z w) (hne:i.neg=j.neg) (B:Bool) (hB:∀l,i.k=l.length->Rd w .u64 i.A l->decide (l=digs B64 z.natAbs)=B):
 Calls Tryz.prog 98 #[iA i,iA j] w fun e w'=>e=.returned (.bool B)/\Below w.heap.size w w':=by
 obtain⟨l,hk,hrd,-,-⟩:=h.ex;have hB2:=hB l hk hrd;have hln:l.length<=17592186044416:=by have:=h.le;omega
 have hjk:=h'.k;have HE:=znd (lyII i j (((zam hrd (fun k hk=>hrd.lt k hk))).and ((zam h'.rd (fun k hk=>h'.rd.lt k hk)))));have c:=Env.c2 HE.out;have dd:=Env.d2 HE.out;have KE:=znd (fun(V:World) (h1:Rd V .u64 i.A l) (h2:Rd V .u64 j.A (digs B64 z.natAbs))=>(show Calls Tryz.prog 53 #[.slice i.A i.k i.c,.slice j.A j.k j.c] V fun e w'=>e=.returned (.bool B)/\Below V.heap.size V w' from by rw[hk,hjk,<-hB2];exact ziU V _ _ _ _ _ _ hln h1 h2));have he:(i.neg==j.neg)=true:=by rw[hne];simp
 clear h h' hB hrd hk hjk hB2 hne;unfold iA;go_enter Tryz.func98,Tryz.ntmps98;go_wp2_with fail;refine(KE.out _ HE.out.o.1 HE.out.o.2).mono ?_;rintro e w1 ⟨rfl,hb⟩;replace HE:=znd (Env.call HE.out hb);clear hb;go_wp2_with fail;go_ret;exact⟨rfl,HE.out.bel⟩
theorem zqs (w:World) (i j:IV) (z y:Int) (n:Nat) (hn:n<=17592186044416) (h:IntD i y n w) (h':IntN j z w):Calls Tryz.prog 98 #[iA i,iA j] w fun e w'=>(∃B,e=.returned (.bool B)/\(B=true↔IntN i z w))/\Below w.heap.size w w':=by
 by_cases hne:i.neg=j.neg
 ·obtain⟨l,hk,hrd,hx,hz⟩:=h.ex;have key:(l=digs B64 z.natAbs)↔IntN i z w:=by
   constructor
   ·intro e;refine⟨by rw[hk,e],h.cap,by rw[hne];exact h'.neg,by rw[<-e];exact hrd⟩
   ·intro hi;have h1:l.length=(digs B64 z.natAbs).length:=by rw[<-hk];exact hi.k
    exact zdT _ _ h1 fun t ht=>by
     have c1:=hrd.cell t ht;have c2:=hi.rd.cell t (by omega);rw[c1]at c2;have c3:((nth l t:Nat):Int)=((nth (digs B64 z.natAbs) t:Nat):Int):=by simpa using c2
     omega
  refine(zsG w i j z y n hn h h' hne (decide (l=digs B64 z.natAbs)) (fun l' hk' hrd'=>?_)).mono ?_
  ·have:l'=l:=zdT _ _ (by omega) fun t ht=>by
    have c1:=hrd'.cell t ht;have c2:=hrd.cell t (by omega);rw[c1]at c2;have c3:((nth l' t:Nat):Int)=((nth l t:Nat):Int):=by simpa using c2
    omega
   rw[this]
  ·rintro e w' ⟨rfl,hb⟩;exact⟨⟨_,rfl,by rw[decide_eq_true_eq];exact key⟩,hb⟩
 ·refine(zsr w i j z y n hn h h' hne).mono ?_;rintro e w' ⟨rfl,hb⟩;refine⟨⟨false,rfl,fun h0=>absurd h0 (by decide),fun hi=>?_⟩,hb⟩;exact absurd (hi.neg.trans h'.neg.symm) hne
set_option maxRecDepth 100000 in
theorem zqA (w:World) (r:RV) (q:Rat) (n:Nat) (hn:n<=400000000000) (h1n:1<=n) (h:RatD r q n w) (hT:Tz w):
 Calls Tryz.prog 62 #[rA r] w fun e w'=>(∃B,e=.returned (.bool B)/\(B=true↔RatN r q w))/\Below w.heap.size w w':=by
 obtain⟨x,d,hx,hd,hq⟩:=h.ex;have HE:=znd (lyR r (((RatD.old h)).and ((hx.old).and ((hd.old).and (hT.old)))));have c:=Env.c1 HE.out;have HX:=znd hx;have HD:=znd hd;clear h hx hd hT hq;unfold rA;go_enter Tryz.func62,Tryz.ntmps62;go_wp2_with fail;refine(zaG _ r q n (by omega) h1n HE.out.o.1 HE.out.o.2.2.2).mono ?_;rintro e w1 ⟨k,rfl,hk,hb⟩;replace HE:=znd (Env.ret HE.out hk hb);clear hk hb;go_upto_region 3 with fail;obtain⟨W2,g4,hW2,hg4,HE⟩:=Env.al HE.out 55 (cR k);rw[hW2,hg4];clear hW2 hg4;replace c:=Env.c2 HE.out;go_wp2_with fail;refine(zqs _ r.num k.num q.num x n (by omega) HE.out.o.2.1 HE.out.n.1.num).mono ?_;rintro e w3 ⟨⟨B1,rfl,hB1⟩,hb⟩;have H1:=znd (hB1.trans (HX.out.same HE.out.bel));replace HE:=znd (Env.call HE.out hb);replace c:=Env.c2 HE.out;clear hb hB1
 cases B1
 ·go_wp2_with fail;exact bodyPost_ret (v:=.bool false) (by simp[results,Tryz.results62,go_sem]) rfl (⟨⟨false,rfl,⟨fun h0=>absurd h0 (by decide),fun hr=>H1.out.2 hr.num⟩⟩,HE.out.bel⟩)
 ·go_wp2_with fail;refine(zqs _ r.den k.den (dn q) d n (by omega) HE.out.o.2.2.1 HE.out.n.1.den).mono ?_;rintro e w4 ⟨⟨B2,rfl,hB2⟩,hb⟩;have H2:=znd (hB2.trans (HD.out.same HE.out.bel));replace HE:=znd (Env.call HE.out hb);replace c:=Env.c2 HE.out;clear hb hB2;go_wp2_with fail;exact bodyPost_ret (v:=.bool B2) (by simp[results,Tryz.results62,go_sem]) rfl (⟨⟨B2,rfl,⟨fun h0=>⟨H1.out.1 (by simp),H2.out.1 h0⟩,fun hr=>H2.out.2 hr.den⟩⟩,HE.out.bel⟩)

structure Upd (g:Nat) (t:TypeId) (cs:Array Value) (w w':World):Prop where
 os:w'.os=w.os
 tape:w'.tape=w.tape
 output:w'.output=w.output
 size:w.heap.size<=w'.heap.size
 blk:Blk w' g t cs
 block:∀k,k<w.heap.size->k≠g->w'.heap[k]?=w.heap[k]?
section
variable {w w' w1 w2 W W':World} {g:Nat} {t:TypeId} {cs cs':Array Value} {F:Nat->Prop} {φ ψ old new:World->Prop} {bs:List Bo}
theorem Upd.keep (h:Blk w g t cs) (hb:Below w.heap.size w w'):Upd g t cs w w':=
 ⟨hb.os,hb.tape,hb.output,hb.size,h.below hb h.lt,fun k hk _=>hb.block k hk⟩
theorem Upd.set1 {v0:Value} (h:Blk w g t #[v0]) (hb:Below w.heap.size w w') (v:Value):Upd g t #[v] w (w'.setCell ⟨g,0,none⟩ v):=
 ⟨hb.os,hb.tape,hb.output,by simp only[World.setCell,Array.size_modify];exact hb.size,(h.below hb h.lt).set_ 0 v,fun k hk hg=>(Below.heap_setCell _ _ _ _ hg).trans (hb.block k hk)⟩
theorem Upd.trans (h:Upd g t cs w w1) (k:Upd g t cs' w1 w2):Upd g t cs' w w2:=
 ⟨k.os.trans h.os,k.tape.trans h.tape,k.output.trans h.output,Nat.le_trans h.size k.size,k.blk,fun i hi hg=>(k.block i (Nat.lt_of_lt_of_le hi h.size) hg).trans (h.block i hi hg)⟩
theorem Upd.call (h:Upd g t cs w w1) (hb:Below w1.heap.size w1 w2):Upd g t cs w w2:=h.trans (.keep h.blk hb)
theorem Upd.below {B:Nat} (h:Upd g t cs w w') (hB:B<=w.heap.size) (hg:B<=g):Below B w w':=
 ⟨h.os,h.tape,h.output,h.size,fun k hk=>h.block k (Nat.lt_of_lt_of_le hk hB) (by omega)⟩
theorem Rests.upd (h:Rests w F φ) (hF:¬F g) (hu:Upd g t cs w w'):Rests w' F φ:=
 ⟨h.lift _ fun b hf hlt=>hu.block b hlt (fun e=>hF (e▸hf)),fun _ hw=>h.lift _ fun b hf hlt=>(hw b hf (Nat.lt_of_lt_of_le hlt hu.size)).trans (hu.block b hlt (fun e=>hF (e▸hf)))⟩
theorem Env.upd {cs0:Array Value} (h:Env w (⟨g,t,cs0⟩::bs) old new W) (hu:Upd g t cs W W'):Env w (⟨g,t,cs⟩::bs) old new W':=by
 have hne:∀b∈bs,g≠b.g:=(List.pairwise_cons.1 h.nd).1;have hwg:w.heap.size<=g:=h.own _ (List.mem_cons_self ..);have hfr:∀n,(∀b∈(⟨g,t,cs0⟩::bs:List Bo),b.g≠n)->∀b∈(⟨g,t,cs⟩::bs:List Bo),b.g≠n:=fun n hn b hm=>by
  rcases List.mem_cons.1 hm with rfl|hm
  ·exact hn ⟨g,t,cs0⟩ (List.mem_cons_self ..)
  ·exact hn b (List.mem_cons_of_mem _ hm)
 refine⟨fun b hm=>?_,(h.rso.upd (fun k=>k _ (List.mem_cons_self ..) rfl) hu).mono hfr,(h.rsn.upd (fun k=>k.2 _ (List.mem_cons_self ..) rfl) hu).mono fun n hn=>⟨hn.1,hfr n hn.2⟩,h.bel.trans (hu.below h.bel.size hwg),fun b hm=>?_,.cons hne (List.pairwise_cons.1 h.nd).2⟩
 ·rcases List.mem_cons.1 hm with rfl|hm
  ·exact hu.blk
  ·have hb:=h.bx b (List.mem_cons_of_mem _ hm);exact(hu.block _ hb.lt (fun e=>hne b hm e.symm)).trans hb
 ·rcases List.mem_cons.1 hm with rfl|hm
  ·exact hwg
  ·exact h.own b (List.mem_cons_of_mem _ hm)
theorem Env.apart (h:Env w (⟨g,t,cs⟩::bs) old new W):Rests W (fun n=>n≠g) (fun V=>old V/\new V):=
 (h.rso.mono fun n hn (e:n=g)=>hn _ (List.mem_cons_self ..) e.symm).and (h.rsn.mono fun n hn (e:n=g)=>hn.2 _ (List.mem_cons_self ..) e.symm)
theorem Env.box (h:Env w (⟨g,t,cs⟩::bs) old new W):Blk W g t cs:=h.bx _ (List.mem_cons_self ..)
theorem Upd.other {g':Nat} {t':TypeId} {cs2:Array Value} (h:Upd g t cs w w1) (k:Upd g' t' cs2 w1 w2) (hg:g≠g') (hw:w.heap.size<=g'):Upd g t cs w w2:=
 ⟨k.os.trans h.os,k.tape.trans h.tape,k.output.trans h.output,Nat.le_trans h.size k.size,(k.block g h.blk.lt hg).trans h.blk,fun i hi hgi=>(k.block i (Nat.lt_of_lt_of_le hi h.size) (by omega)).trans (h.block i hi hgi)⟩
theorem Upd.al (h:Upd g t cs w W) (hr:Rests W F φ) (t':TypeId) (cs':Array Value):∃W2 gl,W.alloc (.cells cs' t')=W2/\W.heap.size=gl/\Hid (Upd g t cs w W2/\Blk W2 gl t' cs'/\w.heap.size<=gl/\g≠gl/\Rests W2 (·≠gl) φ):=
 ⟨_,_,rfl,rfl,znd ⟨h.call (Below.of_alloc W _),Blk.new W t' cs',h.size,by have:=h.blk.lt;omega,(hr.lt.alloc _).mono fun b hb=>by have:=hb.1;have:=hb.2;omega⟩⟩
theorem Env.nbr (h:Env w (⟨g,t,cs⟩::bs) old new W) {b:Bo} (hb:b∈bs):Rests W (·≠g) (fun V=>Blk V b.g b.t b.cs):=
 have h0:=h.bx b (List.mem_cons_of_mem _ hb)
 ⟨h0,fun _ hw=>(hw b.g (fun e=>(List.pairwise_cons.1 h.nd).1 b hb e.symm) h0.lt).trans h0⟩
end
def zuG (P:Prop) (g:Nat) (t:TypeId) (z:Int) (w:World) (e:Ending) (w':World):Prop:=
 ∃B s,e=.returned (.bool B)/\(B=true↔P)/\(P->s=z)/\Upd g t #[.int .i64 s] w w'
def zpx (P:Prop) (g:Nat) (t:TypeId) (z:Int) (w:World) (e:Ending) (w':World):Prop:=
 ∃B,e=.returned (.bool B)/\(B=true↔P)/\Upd g t #[.int .i64 z] w w'
def zuY (P:Prop) (g:Nat) (t:TypeId) (w:World) (e:Ending) (w':World):Prop:=
 ∃B x,e=.returned (.bool B)/\(B=true↔P)/\Upd g t #[.int .i64 x] w w'

theorem zoC {α:Type} {l:List α} {P:α->Prop} {i:Nat} (h:∀v∈l.take i,P v) (hi:i<l.length) (h1:P l[i]):∀v∈l.take (i+1),P v:=by
 rw[List.take_succ_eq_append_getElem hi];intro v hv;rcases List.mem_append.1 hv with hv|hv
 ·exact h v hv
 ·rw[List.mem_singleton.1 hv];exact h1
set_option maxRecDepth 100000 in
theorem zs5 (w:World) (z:Int):Calls Tryz.prog 163 #[.int .i64 z] w fun e w'=>zaR (z=0) e/\w'=w:=by
 go_enter Tryz.func163,Tryz.ntmps163;go_wp2_with fail;go_ret;exact⟨za7 _ (by first|exact decide_eq_true_iff|exact beq_iff_eq|simp),rfl⟩
set_option maxRecDepth 100000 in
theorem zse (w:World) (A:Option Addr) (c:Nat) (l:List Int) (h:LsR 1 zoA okI A l w) (hl:l.length<=1000000):
 Calls Tryz.prog 160 #[.slice A l.length c,.func (.func 163) #[] #[]] w fun e w'=>zaR (∀z∈l,z=0) e/\Below w.heap.size w w':=by
 have sl1:=h.sl;have hsz2:=zcX;have hadd:=zaa;have Ho:=znd h;clear h;go_enter Tryz.func160,Tryz.ntmps160;go_wp2_with fail;go_loopw [9] (fun iv wr=>∃i:Nat,iv=.int .i64 (i:Int)/\i<=l.length/\Hid (∀z∈l.take i,z=0)/\wr=w) (fun iv _=>l.length-(intOf iv).toNat)
 case atStart=>exact⟨0,rfl,Nat.zero_le _,znd (by simp),rfl⟩
 case round=>
  obtain⟨i,rfl,hi,HP,rfl⟩:=hrel;by_cases hlt:i<l.length
  ·have c0:=Ho.out.ic i hlt;obtain⟨v,hv⟩:∃v,v=l[i]:=⟨_,rfl⟩;rw[<-hv]at c0;have Hm:=znd (show v∈l by rw[hv];exact List.getElem_mem hlt);have Hv:=znd hv;clear hv;go_wp2_with fail;refine(zs5 _ v).mono ?_;rintro e w3 ⟨⟨B,rfl,hB⟩,rfl⟩;have HB:=znd hB;clear hB
   cases B
   ·go_wp2_with fail;go_ret;exact⟨za7 false ⟨fun h0=>absurd h0 (by decide),fun hr=>absurd (HB.out.2 (hr v Hm.out)) (by simp)⟩,Below.refl _ _⟩
   ·go_wp2_with fail;go_roundw
    case rel=>exact⟨i+1,by go_num,by omega,znd (zoC HP.out hlt (by rw[<-Hv.out];exact HB.out.1 (by simp))),(by first|trivial|rfl)⟩
    case measure=>(simp[intOf]<;>omega)
  ·obtain rfl:i=l.length:=by omega
   have HP2:=znd (show∀z∈l,z=0 by have:=HP.out;rwa [List.take_length]at this);go_wp2_with fail;go_ret;exact⟨za7 true ⟨fun _=>HP2.out,fun _=>rfl⟩,Below.refl _ _⟩
set_option maxRecDepth 100000 in
theorem ztS (w:World) (z:Int) (hz:¬1<=z):Calls Tryz.prog 161 #[.int .i64 z] w fun e w'=>zaR (side z) e/\w'=w:=by
 have hz':¬z≥1:=hz;have Hz:=znd hz;go_enter Tryz.func161,Tryz.ntmps161;go_wp2_with fail;go_ret;exact⟨za7 false ⟨fun h=>absurd h (by decide),fun h=>by have h1:=h.1;have h2:=Hz.out;omega⟩,rfl⟩
set_option maxRecDepth 100000 in
theorem zu7 (w:World) (z:Int) (hz:1<=z):Calls Tryz.prog 161 #[.int .i64 z] w fun e w'=>zaR (side z) e/\w'=w:=by
 have hz':z≥1:=hz;go_enter Tryz.func161,Tryz.ntmps161;go_wp2_with fail;go_ret;exact⟨za7 _ (by unfold side;simp only[decide_eq_true_iff];omega),rfl⟩
theorem zta (w:World) (z:Int):Calls Tryz.prog 161 #[.int .i64 z] w fun e w'=>zaR (side z) e/\w'=w:=by
 by_cases hz:1<=z
 ·exact zu7 w z hz
 ·exact ztS w z hz
set_option maxRecDepth 100000 in
theorem zt8 (w:World) (A:Option Addr) (c:Nat) (l:List Int) (h:LsR 1 zoA okI A l w) (hl:l.length<=1000000):
 Calls Tryz.prog 160 #[.slice A l.length c,.func (.func 161) #[] #[]] w fun e w'=>zaR (∀z∈l,side z) e/\Below w.heap.size w w':=by
 have sl1:=h.sl;have hsz2:=zcX;have hadd:=zaa;have Ho:=znd h;clear h;go_enter Tryz.func160,Tryz.ntmps160;go_wp2_with fail;go_loopw [9] (fun iv wr=>∃i:Nat,iv=.int .i64 (i:Int)/\i<=l.length/\Hid (∀z∈l.take i,side z)/\wr=w) (fun iv _=>l.length-(intOf iv).toNat)
 case atStart=>exact⟨0,rfl,Nat.zero_le _,znd (by simp),rfl⟩
 case round=>
  obtain⟨i,rfl,hi,HP,rfl⟩:=hrel;by_cases hlt:i<l.length
  ·have c0:=Ho.out.ic i hlt;obtain⟨v,hv⟩:∃v,v=l[i]:=⟨_,rfl⟩;rw[<-hv]at c0;have Hm:=znd (show v∈l by rw[hv];exact List.getElem_mem hlt);have Hv:=znd hv;clear hv;go_wp2_with fail;refine(zta _ v).mono ?_;rintro e w3 ⟨⟨B,rfl,hB⟩,rfl⟩;have HB:=znd hB;clear hB
   cases B
   ·go_wp2_with fail;go_ret;exact⟨za7 false ⟨fun h0=>absurd h0 (by decide),fun hr=>absurd (HB.out.2 (hr v Hm.out)) (by simp)⟩,Below.refl _ _⟩
   ·go_wp2_with fail;go_roundw
    case rel=>exact⟨i+1,by go_num,by omega,znd (zoC HP.out hlt (by rw[<-Hv.out];exact HB.out.1 (by simp))),(by first|trivial|rfl)⟩
    case measure=>(simp[intOf]<;>omega)
  ·obtain rfl:i=l.length:=by omega
   have HP2:=znd (show∀z∈l,side z by have:=HP.out;rwa [List.take_length]at this);go_wp2_with fail;go_ret;exact⟨za7 true ⟨fun _=>HP2.out,fun _=>rfl⟩,Below.refl _ _⟩
set_option maxRecDepth 100000 in
theorem zu6 (w:World) (n:Nat) (hn:n<=400000000000) (h1n:1<=n) (r:RV) (q:Rat) (h:RatD r q n w) (hT:Tz w):
 Calls Tryz.prog 159 #[rA r] w fun e w'=>zaR (RatN r q w) e/\Below w.heap.size w w':=by
 have HE:=znd (lyR r (((RatD.old h)).and (hT.old)));have c:=Env.c1 HE.out;have HR:=znd h;clear h hT;unfold rA;go_enter Tryz.func159,Tryz.ntmps159;go_wp2_with fail;refine(zqA _ r q n hn h1n HE.out.o.1 HE.out.o.2).mono ?_;rintro e w1 ⟨⟨B,rfl,hB⟩,hb⟩;have HB:=znd (hB.trans (RatD.same HR.out HE.out.bel));replace HE:=znd (Env.call HE.out hb);clear hb hB;go_wp2_with fail;exact bodyPost_ret (v:=.bool B) (by simp[results,Tryz.results159,go_sem]) rfl ⟨za7 B HB.out,HE.out.bel⟩
set_option maxRecDepth 100000 in
theorem ztW (w:World) (n:Nat) (hn:n<=400000000000) (h1n:1<=n) (A:Option Addr) (c:Nat) (l:List (RV×Rat)) (h:LsR 4 rtcells (roD n) A l w) (hl:l.length<=1000000) (hT:Tz w) (k:Nat) (hk:k=l.length):
 Calls Tryz.prog 60 #[.slice A k c,.func (.func 159) #[] #[]] w fun e w'=>zaR (∀p∈l,exP w p) e/\Below w.heap.size w w':=by
 subst hk;have sl1:=h.sl;have hsz2:=zal;have hadd:=zaa;have Ho:=znd ((h.old zbQ).and hT.old);have HD:=znd (show∀p∈l,RatD p.1 p.2 n w from h.ok);have Hb:=znd (Below.refl w.heap.size w);clear h hT;go_enter Tryz.func60,Tryz.ntmps60;go_wp2_with fail;go_loopw [9] (fun iv wr=>∃i:Nat,iv=.int .i64 (i:Int)/\i<=l.length/\Hid (∀v∈l.take i,exP w v)/\Hid (Below w.heap.size w wr)) (fun iv _=>l.length-(intOf iv).toNat)
 case atStart=>exact⟨0,rfl,Nat.zero_le _,znd (by simp),Hb⟩
 case round=>
  clear Hb;obtain⟨i,rfl,hi,HP,Hb⟩:=hrel;by_cases hlt:i<l.length
  ·have HE:=znd (Env.start ((LsR.old zbQ (Ho.out.below Hb.out).now.1).and (Ho.out.below Hb.out).now.2.old));have c0:=HE.out.o.1.rc i hlt;obtain⟨v,hv⟩:∃v,v=l[i]:=⟨_,rfl⟩;rw[<-hv]at c0;have Hm:=znd (show v∈l by rw[hv];exact List.getElem_mem hlt);have Hv:=znd hv;clear hv;go_upto_region 4 with fail;obtain⟨W2,gt,hW2,hgt,HE⟩:=Env.al HE.out 55 (cR v.1);rw[hW2,hgt];clear hW2 hgt c0;have cb:=Env.c1 HE.out;go_wp2_with fail;refine(zu6 _ n hn h1n v.1 v.2 (HE.out.o.1.ok v Hm.out) HE.out.o.2).mono ?_;rintro e w3 ⟨⟨B,rfl,hB⟩,hb⟩;have HB:=znd (hB.trans (RatD.same (HD.out v Hm.out) (Below.after Hb.out HE.out.bel)));replace HE:=znd (Env.call HE.out hb);clear hb hB cb
   cases B
   ·go_wp2_with fail;go_ret;exact⟨za7 false ⟨fun h0=>absurd h0 (by decide),fun hr=>absurd (HB.out.2 (hr v Hm.out)) (by simp)⟩,Below.after Hb.out HE.out.bel⟩
   ·go_wp2_with fail;go_roundw
    case rel=>exact⟨i+1,by go_num,by omega,znd (zoC HP.out hlt (by rw[<-Hv.out];exact HB.out.1 (by simp))),znd (Below.after Hb.out HE.out.bel)⟩
    case measure=>(simp[intOf]<;>omega)
  ·obtain rfl:i=l.length:=by omega
   have HP2:=znd (show∀v∈l,exP w v by have:=HP.out;rwa [List.take_length]at this);go_wp2_with fail;go_ret;exact⟨za7 true ⟨fun _=>HP2.out,fun _=>rfl⟩,Hb.out⟩
set_option maxRecDepth 100000 in
theorem ztE (w:World) (n:Nat) (hn:n<=400000000000) (h1n:1<=n) (r:RV) (q:Rat) (h:RatD r q n w) (hT:Tz w):
 Calls Tryz.prog 162 #[rA r] w fun e w'=>zaR (RatN r q w) e/\Below w.heap.size w w':=by
 have HE:=znd (lyR r (((RatD.old h)).and (hT.old)));have c:=Env.c1 HE.out;have HR:=znd h;clear h hT;unfold rA;go_enter Tryz.func162,Tryz.ntmps162;go_wp2_with fail;refine(zqA _ r q n hn h1n HE.out.o.1 HE.out.o.2).mono ?_;rintro e w1 ⟨⟨B,rfl,hB⟩,hb⟩;have HB:=znd (hB.trans (RatD.same HR.out HE.out.bel));replace HE:=znd (Env.call HE.out hb);clear hb hB;go_wp2_with fail;exact bodyPost_ret (v:=.bool B) (by simp[results,Tryz.results162,go_sem]) rfl ⟨za7 B HB.out,HE.out.bel⟩
set_option maxRecDepth 100000 in
theorem zrb (w:World) (n:Nat) (hn:n<=400000000000) (h1n:1<=n) (A:Option Addr) (c:Nat) (l:List (RV×Rat)) (h:LsR 4 rtcells (roD n) A l w) (hl:l.length<=1000000) (hT:Tz w) (k:Nat) (hk:k=l.length):
 Calls Tryz.prog 60 #[.slice A k c,.func (.func 162) #[] #[]] w fun e w'=>zaR (∀p∈l,exP w p) e/\Below w.heap.size w w':=by
 subst hk;have sl1:=h.sl;have hsz2:=zal;have hadd:=zaa;have Ho:=znd ((h.old zbQ).and hT.old);have HD:=znd (show∀p∈l,RatD p.1 p.2 n w from h.ok);have Hb:=znd (Below.refl w.heap.size w);clear h hT;go_enter Tryz.func60,Tryz.ntmps60;go_wp2_with fail;go_loopw [9] (fun iv wr=>∃i:Nat,iv=.int .i64 (i:Int)/\i<=l.length/\Hid (∀v∈l.take i,exP w v)/\Hid (Below w.heap.size w wr)) (fun iv _=>l.length-(intOf iv).toNat)
 case atStart=>exact⟨0,rfl,Nat.zero_le _,znd (by simp),Hb⟩
 case round=>
  clear Hb;obtain⟨i,rfl,hi,HP,Hb⟩:=hrel;by_cases hlt:i<l.length
  ·have HE:=znd (Env.start ((LsR.old zbQ (Ho.out.below Hb.out).now.1).and (Ho.out.below Hb.out).now.2.old));have c0:=HE.out.o.1.rc i hlt;obtain⟨v,hv⟩:∃v,v=l[i]:=⟨_,rfl⟩;rw[<-hv]at c0;have Hm:=znd (show v∈l by rw[hv];exact List.getElem_mem hlt);have Hv:=znd hv;clear hv;go_upto_region 4 with fail;obtain⟨W2,gt,hW2,hgt,HE⟩:=Env.al HE.out 55 (cR v.1);rw[hW2,hgt];clear hW2 hgt c0;have cb:=Env.c1 HE.out;go_wp2_with fail;refine(ztE _ n hn h1n v.1 v.2 (HE.out.o.1.ok v Hm.out) HE.out.o.2).mono ?_;rintro e w3 ⟨⟨B,rfl,hB⟩,hb⟩;have HB:=znd (hB.trans (RatD.same (HD.out v Hm.out) (Below.after Hb.out HE.out.bel)));replace HE:=znd (Env.call HE.out hb);clear hb hB cb
   cases B
   ·go_wp2_with fail;go_ret;exact⟨za7 false ⟨fun h0=>absurd h0 (by decide),fun hr=>absurd (HB.out.2 (hr v Hm.out)) (by simp)⟩,Below.after Hb.out HE.out.bel⟩
   ·go_wp2_with fail;go_roundw
    case rel=>exact⟨i+1,by go_num,by omega,znd (zoC HP.out hlt (by rw[<-Hv.out];exact HB.out.1 (by simp))),znd (Below.after Hb.out HE.out.bel)⟩
    case measure=>(simp[intOf]<;>omega)
  ·obtain rfl:i=l.length:=by omega
   have HP2:=znd (show∀v∈l,exP w v by have:=HP.out;rwa [List.take_length]at this);go_wp2_with fail;go_ret;exact⟨za7 true ⟨fun _=>HP2.out,fun _=>rfl⟩,Hb.out⟩
set_option maxRecDepth 100000 in
theorem zu1 (w:World) (n:Nat) (hn:n<=400000000000) (h1n:1<=n) (gt gn:Nat) (s m:Int) (hb:Blk w gt 3 #[.int .i64 s]) (hs0:0<=s) (hs1:s<=1000000000000) (v:VeV) (hl:v.ts.length<=1000000) (P:Prop) (h:Rests w (·≠gt) (fun V=>Blk V gn 3 #[.int .i64 m]/\LsR 5 zw7 (teD n) v.A v.ts V/\Tz V/\(RightP v.ts m V↔P))):
 Calls Tryz.prog 156 #[.slice v.A v.ts.length v.c,.pointer (some ⟨gt,0,none⟩),.pointer (some ⟨gn,0,none⟩)] w (zpx P gt 3 (s+v.ts.length) w):=by
 have c0:=hb.cb;have hadd:IntKind.i64.wrap (s+(v.ts.length:Int))=s+(v.ts.length:Int):=by rw[IntKind.wrap_i64];omega
 have HU:=znd (Upd.set1 hb (Below.refl _ _) (.int .i64 (s+v.ts.length)));have HR:=znd (h.upd (by simp) HU.out);clear h hb;go_enter Tryz.func156,Tryz.ntmps156;go_upto_region 2 with fail;revert HU HR;generalize World.setCell w _ _=W1;intro HU HR;have cn:=(HR.out.now.1).cb;clear c0 hadd;go_wp2_with fail;refine(zcj _ n hn h1n v.A v.c v.ts m HR.out.now.2.1 hl HR.out.now.2.2.1).mono ?_;rintro e w2 ⟨⟨B,rfl,hB⟩,hb⟩;have HB:=znd (hB.trans HR.out.now.2.2.2);replace HU:=znd (HU.out.call hb);clear hb hB cn;go_wp2_with fail;exact bodyPost_ret (v:=.bool B) (by simp[results,Tryz.results156,go_sem]) rfl ⟨B,rfl,HB.out,HU.out⟩
def veS (vs:List VeV):Int:=(vs.map fun v=>(v.ts.length:Int)).sum
theorem zt9 {vs:List VeV} (h:∀v∈vs,v.ts.length<=1000):0<=veS vs/\veS vs<=1000*vs.length:=by
 induction vs with
 |nil=>simp[veS]
 |cons v vs ih=>
  have h1:=ih fun u hu=>h u (List.mem_cons_of_mem _ hu);have h2:=h v (List.mem_cons_self ..);unfold veS at h1⊢;simp only[List.map_cons,List.sum_cons,List.length_cons];omega
set_option maxRecDepth 100000 in
theorem zun (w:World) (n:Nat) (hn:n<=400000000000) (h1n:1<=n) (gt gn:Nat) (s m:Int) (hb:Blk w gt 3 #[.int .i64 s]) (hs:s=0) (A:Option Addr) (c:Nat) (vs:List VeV) (hl:vs.length<=100000) (hv:∀v∈vs,v.ts.length<=1000) (P:VeV->Prop) (h:Rests w (·≠gt) (fun V=>Blk V gn 3 #[.int .i64 m]/\LsR 1 za3 (veF (teD n)) A vs V/\Tz V/\∀v∈vs,(RightP v.ts m V↔P v))) (k:Nat) (hk:k=vs.length):
 Calls Tryz.prog 158 #[.slice A k c,.func (.func 156) #[] #[.pointer (some ⟨gt,0,none⟩),.pointer (some ⟨gn,0,none⟩)]] w (zuG (∀v∈vs,P v) gt 3 (veS vs) w):=by
 subst hk;have sl1:=h.now.2.1.sl;have hsz2:=zaw;have hadd:=zaa;have Hs:=znd (fun(i:Nat)=>zt9 (vs:=vs.take i) fun v hm=>hv v (List.mem_of_mem_take hm));have Hu:=znd (Upd.keep hb (Below.refl _ _));have Hh:=znd h;have Hv:=znd hv;subst hs;clear h hb hv;go_enter Tryz.func158,Tryz.ntmps158;go_wp2_with fail;go_loopw [9] (fun iv wr=>∃i:Nat,iv=.int .i64 (i:Int)/\i<=vs.length/\Hid (∀v∈vs.take i,P v)/\Hid (Upd gt 3 #[.int .i64 (veS (vs.take i))] w wr)) (fun iv _=>vs.length-(intOf iv).toNat)
 case atStart=>exact⟨0,rfl,Nat.zero_le _,znd (by simp),Hu⟩
 case round=>
  clear Hu;obtain⟨i,rfl,hi,HP,Hu⟩:=hrel;by_cases hlt:i<vs.length
  ·have HR:=znd (Hh.out.upd (by simp) Hu.out);have c0:=HR.out.now.2.1.vc i hlt;have Hn:=znd (show veS (vs.take i)+((vs[i]).ts.length:Int)=veS (vs.take (i+1))from(zpO hlt).symm);obtain⟨v,hv⟩:∃v,v=vs[i]:=⟨_,rfl⟩;rw[<-hv]at c0 Hn;have Hm:=znd (show v∈vs by rw[hv];exact List.getElem_mem hlt);have Hve:=znd hv;clear hv;go_wp2_with fail;refine(zu1 _ n hn h1n gt gn _ m Hu.out.blk (Hs.out i).1 (by have:=(Hs.out i).2;rw[List.length_take]at this;omega) v (by have:=Hv.out v Hm.out;omega) (P v) (HR.out.imp fun V h=>⟨h.1,h.2.1.ok v Hm.out,h.2.2.1,h.2.2.2 v Hm.out⟩)).mono ?_;rintro e w3 ⟨B,rfl,hB,hu⟩;rw[Hn.out]at hu;have HB:=znd hB;replace Hu:=znd (Hu.out.trans hu);clear hu hB HR c0
   cases B
   ·go_wp2_with fail;go_ret;exact⟨false,_,rfl,⟨fun h0=>absurd h0 (by decide),fun hr=>absurd (HB.out.2 (hr v Hm.out)) (by simp)⟩,fun hr=>absurd (HB.out.2 (hr v Hm.out)) (by simp),Hu.out⟩
   ·go_wp2_with fail;go_roundw
    case rel=>exact⟨i+1,by go_num,by omega,znd (zoC HP.out hlt (by rw[<-Hve.out];exact HB.out.1 (by simp))),Hu⟩
    case measure=>(simp[intOf]<;>omega)
  ·obtain rfl:i=vs.length:=by omega
   have HP2:=znd (show∀v∈vs,P v by have:=HP.out;rwa [List.take_length]at this);have hu:=Hu.out;rw[List.take_length]at hu;replace Hu:=znd hu;clear hu;go_wp2_with fail;go_ret;exact⟨true,_,rfl,⟨fun _=>HP2.out,fun _=>rfl⟩,fun _=>rfl,Hu.out⟩
set_option maxRecDepth 100000 in
theorem ztB (w:World) (gl gn:Nat) (y m z:Int) (hb:Blk w gl 3 #[.int .i64 y]) (hn:Blk w gn 3 #[.int .i64 m]) (h:¬y<z):
 Calls Tryz.prog 165 #[.int .i64 z,.pointer (some ⟨gl,0,none⟩),.pointer (some ⟨gn,0,none⟩)] w (zpx (y<z/\z<m) gl 3 z w):=by
 have c0:=hb.cb;have c1:=hn.cb;have HU:=znd (Upd.set1 hb (Below.refl _ _) (.int .i64 z));have h':¬z>y:=h;have Hh:=znd h;clear hb hn;go_enter Tryz.func165,Tryz.ntmps165;go_wp2_with fail;go_ret;exact⟨false,rfl,⟨fun h0=>absurd h0 (by decide),fun h0=>by have h1:=h0.1;have h2:=Hh.out;omega⟩,HU.out⟩
set_option maxRecDepth 100000 in
theorem zsR (w:World) (gl gn:Nat) (y m z:Int) (hb:Blk w gl 3 #[.int .i64 y]) (hn:Blk w gn 3 #[.int .i64 m]) (h:y<z):
 Calls Tryz.prog 165 #[.int .i64 z,.pointer (some ⟨gl,0,none⟩),.pointer (some ⟨gn,0,none⟩)] w (zpx (y<z/\z<m) gl 3 z w):=by
 have c0:=hb.cb;have c1:=hn.cb;have HU:=znd (Upd.set1 hb (Below.refl _ _) (.int .i64 z));have h':z>y:=h;clear hb hn;go_enter Tryz.func165,Tryz.ntmps165;go_wp2_with fail;go_ret;exact⟨_,rfl,(by simp only[decide_eq_true_iff];omega),HU.out⟩
theorem zsn (w:World) (gl gn:Nat) (y m z:Int) (hb:Blk w gl 3 #[.int .i64 y]) (hn:Blk w gn 3 #[.int .i64 m]):
 Calls Tryz.prog 165 #[.int .i64 z,.pointer (some ⟨gl,0,none⟩),.pointer (some ⟨gn,0,none⟩)] w (zpx (y<z/\z<m) gl 3 z w):=by
 by_cases h:y<z
 ·exact zsR w gl gn y m z hb hn h
 ·exact ztB w gl gn y m z hb hn h
def RisI (m:Int):Int->List Int->Prop
 |_,[]=>True
 |y,z::l=>(y<z/\z<m)/\RisI m z l
theorem zrI {m:Int}:∀{l:List Int} {y:Int},RisI m y l↔(∀z∈l,y<z/\z<m)/\l.Pairwise (·<·)
 |[],y=>by simp[RisI]
 |z::l,y=>by
  unfold RisI;rw[zrI (l:=l) (y:=z)];simp only[List.mem_cons,forall_eq_or_imp,List.pairwise_cons];constructor
  ·rintro⟨h1,h2,h3⟩;exact⟨⟨h1,fun x hx=>⟨by have:=(h2 x hx).1;omega,(h2 x hx).2⟩⟩,fun x hx=>(h2 x hx).1,h3⟩
  ·rintro⟨⟨h1,h2⟩,h3,h4⟩;exact⟨h1,fun x hx=>⟨h3 x hx,(h2 x hx).2⟩,h4⟩
theorem zpB {m:Int} {g:GrV}:GrP m g↔0<g.l.length/\RisI m (-1) g.l:=by
 unfold GrP;rw[zrI,List.length_pos_iff];refine and_congr Iff.rfl (and_congr (forall_congr' fun z=>forall_congr' fun _=>?_) Iff.rfl);omega
theorem zpa {m:Int} {l:List Int} {i:Nat} (hi:i<l.length) {y:Int}:RisI m y (l.drop i)↔(y<l[i]/\l[i]<m)/\RisI m l[i] (l.drop (i+1)):=by
 rw[List.drop_eq_getElem_cons hi];exact Iff.rfl
set_option maxRecDepth 100000 in
theorem zsp (w:World) (gl gn:Nat) (y m:Int) (hb:Blk w gl 3 #[.int .i64 y]) (A:Option Addr) (c:Nat) (l:List Int) (hl:l.length<=1000000) (h:Rests w (·≠gl) (fun V=>Blk V gn 3 #[.int .i64 m]/\LsR 1 zoA okI A l V)):
 Calls Tryz.prog 160 #[.slice A l.length c,.func (.func 165) #[] #[.pointer (some ⟨gl,0,none⟩),.pointer (some ⟨gn,0,none⟩)]] w (zuY (RisI m y l) gl 3 w):=by
 have sl1:=h.now.2.sl;have hsz2:=zcX;have hadd:=zaa;have Hu:=znd (Upd.keep hb (Below.refl _ _));have Hh:=znd h;clear h hb;go_enter Tryz.func160,Tryz.ntmps160;go_wp2_with fail;go_loopw [9] (fun iv wr=>∃(i:Nat) (x:Int),iv=.int .i64 (i:Int)/\i<=l.length/\Hid (RisI m y l↔RisI m x (l.drop i))/\Hid (Upd gl 3 #[.int .i64 x] w wr)) (fun iv _=>l.length-(intOf iv).toNat)
 case atStart=>exact⟨0,y,rfl,Nat.zero_le _,znd Iff.rfl,Hu⟩
 case round=>
  clear Hu;obtain⟨i,x,rfl,hi,HP,Hu⟩:=hrel;by_cases hlt:i<l.length
  ·have HR:=znd (Hh.out.upd (by simp) Hu.out);have c0:=HR.out.now.2.ic i hlt;have Hn:=znd (HP.out.trans (zpa hlt));obtain⟨v,hv⟩:∃v,v=l[i]:=⟨_,rfl⟩;rw[<-hv]at c0 Hn;clear hv;go_wp2_with fail;refine(zsn _ gl gn x m v Hu.out.blk HR.out.now.1).mono ?_;rintro e w3 ⟨B,rfl,hB,hu⟩;have HB:=znd hB;replace Hu:=znd (Hu.out.trans hu);clear hu hB HR c0
   cases B
   ·go_wp2_with fail;go_ret;exact⟨false,_,rfl,⟨fun h0=>absurd h0 (by decide),fun hr=>absurd (HB.out.2 (Hn.out.1 hr).1) (by simp)⟩,Hu.out⟩
   ·go_wp2_with fail;go_roundw
    case rel=>exact⟨i+1,v,by go_num,by omega,znd (Hn.out.trans ⟨fun h=>h.2,fun h=>⟨HB.out.1 (by first|rfl|trivial),h⟩⟩),Hu⟩
    case measure=>(simp[intOf]<;>omega)
  ·obtain rfl:i=l.length:=by omega
   have HP2:=znd (show RisI m y l from HP.out.2 (by rw[List.drop_length];trivial));go_wp2_with fail;go_ret;exact⟨true,_,rfl,⟨fun _=>HP2.out,fun _=>rfl⟩,Hu.out⟩

theorem IntD.iffR {i:IV} {y z:Int} {n:Nat} {w:World} (h:IntD i y n w):Rests w (·<w.heap.size) (fun V=>IntN i z V↔IntN i z w):=by
 obtain⟨l,hk,hrd,-,-⟩:=h.ex;have hr:Rests w (·<w.heap.size) (fun V=>Rd V .u64 i.A l):=zam hrd fun k hk=>hrd.lt k hk;exact⟨Iff.rfl,fun w' hw=>by rw[zgL hk (hr.lift w' hw) h.cap,zgL hk hrd h.cap]⟩
theorem RatD.iffR {r:RV} {q q':Rat} {n:Nat} {w:World} (h:RatD r q n w):Rests w (·<w.heap.size) (fun V=>RatN r q' V↔RatN r q' w):=by
 obtain⟨x,d,hx,hd,-⟩:=h.ex;refine⟨Iff.rfl,fun w' hw=>⟨fun k=>⟨(hx.iffR.lift w' hw).1 k.num,(hd.iffR.lift w' hw).1 k.den⟩,fun k=>⟨(hx.iffR.lift w' hw).2 k.num,(hd.iffR.lift w' hw).2 k.den⟩⟩⟩
theorem RightP.iffR {ts:List TeV} {n:Nat} {A:Option Addr} {w:World} (h:LsR 5 zw7 (teD n) A ts w):Rests w (·<w.heap.size) (fun V=>∀m,RightP ts m V↔RightP ts m w):=by
 refine⟨fun _=>Iff.rfl,fun w' hw m=>⟨fun⟨h1,h2,h3,h4⟩=>⟨h1,h2,h3,fun t ht=>((RatD.iffR (h.ok t ht)).lift w' hw).1 (h4 t ht)⟩,fun⟨h1,h2,h3,h4⟩=>⟨h1,h2,h3,fun t ht=>((RatD.iffR (h.ok t ht)).lift w' hw).2 (h4 t ht)⟩⟩⟩
structure LaI (w:World) (l:LaV) (V:World):Prop where
 rows:∀v∈l.rows,∀m,RightP v.ts m V↔RightP v.ts m w
 bias:∀p∈l.bias,exP V p↔exP w p
 kern:∀p∈l.kern,exP V p↔exP w p
theorem LaD.iffR {n:Nat} {l:LaV} {w:World} (h:LaD n l w):Rests w (·<w.heap.size) (LaI w l):=
 ⟨⟨fun _ _ _=>Iff.rfl,fun _ _=>Iff.rfl,fun _ _=>Iff.rfl⟩,fun w' hw=>⟨fun v hv=>(RightP.iffR (show LsR 5 zw7 (teD n) v.A v.ts w from h.rows.ok v hv)).lift w' hw,fun p hp=>(RatD.iffR (h.bias.ok p hp)).lift w' hw,fun p hp=>(RatD.iffR (h.kern.ok p hp)).lift w' hw⟩⟩
theorem zrH {w:World} {g:Nat} {t:TypeId} {l:List Int} (h:Blk w g t (l.map fun z=>Value.int .i64 z).toArray):LsR 1 zoA okI (some ⟨g,0,none⟩) l w:=by
 refine⟨⟨Sl.some_ _ _ _,fun i hi=>?_,fun i hi j hj=>?_⟩,fun _ _=>trivial⟩
 ·rw[List.getElem_map];rfl
 ·obtain rfl:j=0:=by omega
  rw[za6,Nat.zero_add,Nat.mul_one,Nat.add_zero,h.cell,List.getElem_map];have hi':i<l.length:=by simpa using hi
  simp[zoA,hi']
structure Lens (l:LaV) (nr nb nk ng:Nat):Prop where
 r:nr=l.rows.length
 b:nb=l.bias.length
 k:nk=l.kern.length
 g:ng=l.grs.length
theorem Lens.of (l:LaV):Lens l l.rows.length l.bias.length l.kern.length l.grs.length:=⟨rfl,rfl,rfl,rfl⟩
theorem zrg {α:Type} {l:List α} {k:Nat} (h:k=l.length) (hk:¬0<k):l=[]:=List.eq_nil_of_length_eq_zero (by omega)
theorem zoy {α:Type} {l:List α} {k:Nat} (h:k=l.length):l=[]↔k=0:=by rw[h];exact List.length_eq_zero_iff.symm
def BehRes (P:Prop) (u t:Int) (e:Ending):Prop:=(P/\e=.returned (.tuple #[.int .i64 u,.int .i64 t,.bool true]))\/(¬P/\e=.returned (.tuple #[.int .i64 0,.int .i64 0,.bool false]))
theorem BehRes.no {P:Prop} {u t:Int} {w w':World} {e:Ending} (hP:¬P) (h:e=.returned (.tuple #[.int .i64 0,.int .i64 0,.bool false])/\Below w.heap.size w w'):BehRes P u t e/\Below w.heap.size w w':=⟨.inr ⟨hP,h.1⟩,h.2⟩
set_option maxRecDepth 100000 in
theorem zt7 (w:World) (gt gn:Nat) (s m:Int) (hb:Blk w gt 3 #[.int .i64 s]) (hs0:0<=s) (hs1:s<=1000000000000) (g:GrV) (hl:g.l.length<=1000000) (h:Rests w (·≠gt) (fun V=>Blk V gn 3 #[.int .i64 m]/\grD g V)) (hlen:¬0<g.l.length):
 Calls Tryz.prog 164 #[.slice g.A g.l.length g.c,.pointer (some ⟨gt,0,none⟩),.pointer (some ⟨gn,0,none⟩)] w (zpx (GrP m g) gt 3 (s+g.l.length) w):=by
 have c0:=hb.cb;have hadd:IntKind.i64.wrap (s+(g.l.length:Int))=s+(g.l.length:Int):=by rw[IntKind.wrap_i64];omega
 have HU:=znd (Upd.set1 hb (Below.refl _ _) (.int .i64 (s+g.l.length)));have HR:=znd (h.upd (by simp) HU.out);clear h hb;obtain⟨k,hk⟩:∃k,k=g.l.length:=⟨_,rfl⟩;rw[<-hk]at hadd HU HR hlen⊢;have Hk:=znd hk;clear hk;go_enter Tryz.func164,Tryz.ntmps164;go_upto_region 2 with fail;revert HU HR;generalize World.setCell w _ _=W1;intro HR HU;clear c0 hadd;go_upto_region 3 with fail;obtain⟨W2,gl,hW2,hgl,HA⟩:=Upd.al HU.out HR.out 3 #[.int .i64 (-1)];rw[hW2,hgl];clear hW2 hgl HR;have Hl:=znd hlen;have hlen':(k:Int)=0:=by omega
 have hk0:k=0:=by omega
 clear hlen;subst hk0;go_wp2_with fail;go_ret;exact⟨false,rfl,⟨fun h0=>absurd h0 (by decide),fun h0=>absurd (zpB.1 h0).1 (by rw[<-Hk.out];decide)⟩,HA.out.1⟩
set_option maxRecDepth 100000 in
theorem ztM (w:World) (gt gn:Nat) (s m:Int) (hb:Blk w gt 3 #[.int .i64 s]) (hs0:0<=s) (hs1:s<=1000000000000) (g:GrV) (hl:g.l.length<=1000000) (h:Rests w (·≠gt) (fun V=>Blk V gn 3 #[.int .i64 m]/\grD g V)) (hlen:0<g.l.length):
 Calls Tryz.prog 164 #[.slice g.A g.l.length g.c,.pointer (some ⟨gt,0,none⟩),.pointer (some ⟨gn,0,none⟩)] w (zpx (GrP m g) gt 3 (s+g.l.length) w):=by
 have c0:=hb.cb;have hadd:IntKind.i64.wrap (s+(g.l.length:Int))=s+(g.l.length:Int):=by rw[IntKind.wrap_i64];omega
 have HU:=znd (Upd.set1 hb (Below.refl _ _) (.int .i64 (s+g.l.length)));have HR:=znd (h.upd (by simp) HU.out);clear h hb;obtain⟨k,hk⟩:∃k,k=g.l.length:=⟨_,rfl⟩;rw[<-hk]at hadd HU HR hlen⊢;have Hk:=znd hk;clear hk;go_enter Tryz.func164,Tryz.ntmps164;go_upto_region 2 with fail;revert HU HR;generalize World.setCell w _ _=W1;intro HR HU;clear c0 hadd;go_upto_region 3 with fail;obtain⟨W2,gl,hW2,hgl,HA⟩:=Upd.al HU.out HR.out 3 #[.int .i64 (-1)];rw[hW2,hgl];clear hW2 hgl HR;have Hl:=znd hlen;have cl:=HA.out.2.1.cb;go_wp2_with fail;refine(show Calls Tryz.prog 160 #[.slice g.A k g.c,.func (.func 165) #[] #[.pointer (some ⟨gl,0,none⟩),.pointer (some ⟨gn,0,none⟩)]] W2 _ from by rw[Hk.out];exact zsp W2 gl gn (-1) m HA.out.2.1 g.A g.c g.l hl (HA.out.2.2.2.2.imp fun V h=>⟨h.1,h.2⟩)).mono ?_;rintro e w3 ⟨B,x,rfl,hB,hu⟩;have HB:=znd hB;have HU3:=znd (HA.out.1.other hu HA.out.2.2.2.1 HA.out.2.2.1);clear hB hu cl HU;go_wp2_with fail;exact bodyPost_ret (v:=.bool B) (by simp[results,Tryz.results164,go_sem]) rfl ⟨B,rfl,HB.out.trans ⟨fun h=>zpB.2 ⟨by rw[<-Hk.out];exact Hl.out,h⟩,fun h=>(zpB.1 h).2⟩,HU3.out⟩
theorem ztx (w:World) (gt gn:Nat) (s m:Int) (hb:Blk w gt 3 #[.int .i64 s]) (hs0:0<=s) (hs1:s<=1000000000000) (g:GrV) (hl:g.l.length<=1000000) (h:Rests w (·≠gt) (fun V=>Blk V gn 3 #[.int .i64 m]/\grD g V)):
 Calls Tryz.prog 164 #[.slice g.A g.l.length g.c,.pointer (some ⟨gt,0,none⟩),.pointer (some ⟨gn,0,none⟩)] w (zpx (GrP m g) gt 3 (s+g.l.length) w):=by
 by_cases hlen:0<g.l.length
 ·exact ztM w gt gn s m hb hs0 hs1 g hl h hlen
 ·exact zt7 w gt gn s m hb hs0 hs1 g hl h hlen
def grS (gs:List GrV):Int:=(gs.map fun g=>(g.l.length:Int)).sum
theorem zsN {gs:List GrV} (h:∀g∈gs,g.l.length<=1000):0<=grS gs/\grS gs<=1000*gs.length:=by
 induction gs with
 |nil=>simp[grS]
 |cons v vs ih=>
  have h1:=ih fun u hu=>h u (List.mem_cons_of_mem _ hu);have h2:=h v (List.mem_cons_self ..);unfold grS at h1⊢;simp only[List.map_cons,List.sum_cons,List.length_cons];omega
set_option maxRecDepth 100000 in
theorem zts (w:World) (gt gn:Nat) (s m:Int) (hb:Blk w gt 3 #[.int .i64 s]) (hs:s=0) (A:Option Addr) (c:Nat) (gs:List GrV) (hl:gs.length<=100000) (hv:∀g∈gs,g.l.length<=1000) (h:Rests w (·≠gt) (fun V=>Blk V gn 3 #[.int .i64 m]/\LsR 1 zoN grD A gs V)) (k:Nat) (hk:k=gs.length):
 Calls Tryz.prog 166 #[.slice A k c,.func (.func 164) #[] #[.pointer (some ⟨gt,0,none⟩),.pointer (some ⟨gn,0,none⟩)]] w (zuG (∀g∈gs,GrP m g) gt 3 (grS gs) w):=by
 subst hk;have sl1:=h.now.2.sl;have hsz2:=zp2;have hadd:=zaa;have Hs:=znd (fun(i:Nat)=>zsN (gs:=gs.take i) fun v hm=>hv v (List.mem_of_mem_take hm));have Hu:=znd (Upd.keep hb (Below.refl _ _));have Hh:=znd h;have Hv:=znd hv;subst hs;clear h hb hv;go_enter Tryz.func166,Tryz.ntmps166;go_wp2_with fail;go_loopw [9] (fun iv wr=>∃i:Nat,iv=.int .i64 (i:Int)/\i<=gs.length/\Hid (∀v∈gs.take i,GrP m v)/\Hid (Upd gt 3 #[.int .i64 (grS (gs.take i))] w wr)) (fun iv _=>gs.length-(intOf iv).toNat)
 case atStart=>exact⟨0,rfl,Nat.zero_le _,znd (by simp),Hu⟩
 case round=>
  clear Hu;obtain⟨i,rfl,hi,HP,Hu⟩:=hrel;by_cases hlt:i<gs.length
  ·have HR:=znd (Hh.out.upd (by simp) Hu.out);have c0:=HR.out.now.2.gc i hlt;have Hn:=znd (show grS (gs.take i)+((gs[i]).l.length:Int)=grS (gs.take (i+1))from(zpO hlt).symm);obtain⟨v,hv⟩:∃v,v=gs[i]:=⟨_,rfl⟩;rw[<-hv]at c0 Hn;have Hm:=znd (show v∈gs by rw[hv];exact List.getElem_mem hlt);have Hve:=znd hv;clear hv;go_wp2_with fail;refine(ztx _ gt gn _ m Hu.out.blk (Hs.out i).1 (by have:=(Hs.out i).2;rw[List.length_take]at this;omega) v (by have:=Hv.out v Hm.out;omega) (HR.out.imp fun V h=>⟨h.1,h.2.ok v Hm.out⟩)).mono ?_;rintro e w3 ⟨B,rfl,hB,hu⟩;rw[Hn.out]at hu;have HB:=znd hB;replace Hu:=znd (Hu.out.trans hu);clear hu hB HR c0
   cases B
   ·go_wp2_with fail;go_ret;exact⟨false,_,rfl,⟨fun h0=>absurd h0 (by decide),fun hr=>absurd (HB.out.2 (hr v Hm.out)) (by simp)⟩,fun hr=>absurd (HB.out.2 (hr v Hm.out)) (by simp),Hu.out⟩
   ·go_wp2_with fail;go_roundw
    case rel=>exact⟨i+1,by go_num,by omega,znd (zoC HP.out hlt (by rw[<-Hve.out];exact HB.out.1 (by simp))),Hu⟩
    case measure=>(simp[intOf]<;>omega)
  ·obtain rfl:i=gs.length:=by omega
   have HP2:=znd (show∀v∈gs,GrP m v by have:=HP.out;rwa [List.take_length]at this);have hu:=Hu.out;rw[List.take_length]at hu;replace Hu:=znd hu;clear hu;go_wp2_with fail;go_ret;exact⟨true,_,rfl,⟨fun _=>HP2.out,fun _=>rfl⟩,fun _=>rfl,Hu.out⟩
set_option maxRecDepth 100000 in
theorem zub (w:World) (l:LaV) (nr nb nk ng:Nat) (HL:Hid (Lens l nr nb nk ng)) (hk:l.kern≠[]):Calls Tryz.prog 120 #[lA l nr nb nk ng] w fun e w'=>zaR (zoF l) e/\Below w.heap.size w w':=by
 have HK:=znd hk;have HE:=znd (layL l nr nb nk ng (Rests.pure trivial w _));have c:=Env.c1 HE.out;clear hk;unfold lA;go_enter Tryz.func120,Tryz.ntmps120;go_upto_region 2 with fail;obtain⟨W2,g4,hW2,hg4,HE⟩:=Env.al HE.out 3 #[.int .i64 l.ch,.int .i64 l.high,.int .i64 l.wide,.int .i64 l.out,.int .i64 l.kh,.int .i64 l.kw,.int .i64 l.st,.int .i64 l.pad];replace hg4:w.heap.size+1=g4:=by rw[<-hg4];simp
 rw[hW2,hg4];clear hW2 hg4;replace c:=Env.c2 HE.out;have hk0:nk≠0:=fun h=>HK.out ((zoy HL.out.k).2 h);have hk1:((nk:Int)==0)=false:=by simp[hk0]
 go_wp2_with fail;exact bodyPost_ret (v:=.bool false) (by simp[results,Tryz.results120,go_sem]) rfl ⟨za7 false ⟨fun h0=>absurd h0 (by decide),fun h=>absurd h.1 HK.out⟩,HE.out.bel⟩
set_option maxRecDepth 100000 in
theorem zux (w:World) (l:LaV) (nr nb nk ng:Nat) (HL:Hid (Lens l nr nb nk ng)) (hk:l.kern=[]):Calls Tryz.prog 120 #[lA l nr nb nk ng] w fun e w'=>zaR (zoF l) e/\Below w.heap.size w w':=by
 have HK:=znd hk;have HE:=znd (layL l nr nb nk ng (Rests.pure trivial w _));have c:=Env.c1 HE.out;clear hk;unfold lA;go_enter Tryz.func120,Tryz.ntmps120;go_upto_region 2 with fail;obtain⟨W2,g4,hW2,hg4,HE⟩:=Env.al HE.out 3 #[.int .i64 l.ch,.int .i64 l.high,.int .i64 l.wide,.int .i64 l.out,.int .i64 l.kh,.int .i64 l.kw,.int .i64 l.st,.int .i64 l.pad];replace hg4:w.heap.size+1=g4:=by rw[<-hg4];simp
 rw[hW2,hg4];clear hW2 hg4;replace c:=Env.c2 HE.out;have hk1:((nk:Int)==0)=true:=by rw[(zoy HL.out.k).1 HK.out];rfl
 have Hi:=znd (zrH (l:=[l.ch,l.high,l.wide,l.out,l.kh,l.kw,l.st,l.pad]) (HE.out.bx ⟨g4,3,#[.int .i64 l.ch,.int .i64 l.high,.int .i64 l.wide,.int .i64 l.out,.int .i64 l.kh,.int .i64 l.kw,.int .i64 l.st,.int .i64 l.pad]⟩ (List.mem_cons_self ..)));go_wp2_with fail;refine(zse W2 (some ⟨g4,0,none⟩) 8 [l.ch,l.high,l.wide,l.out,l.kh,l.kw,l.st,l.pad] Hi.out (by simp)).mono ?_;rintro e w3 ⟨⟨B,rfl,hB⟩,hb⟩
 have HB:=znd (show B=true↔zoF l by
  rw[hB];simp only[List.mem_cons,List.not_mem_nil,or_false,forall_eq_or_imp,forall_eq];exact⟨fun h=>⟨HK.out,h⟩,fun h=>h.2⟩)
 replace HE:=znd (Env.call HE.out hb);clear hb hB c;go_wp2_with fail;exact bodyPost_ret (v:=.bool B) (by simp[results,Tryz.results120,go_sem]) rfl ⟨za7 B HB.out,HE.out.bel⟩
theorem ziZ (w:World) (l:LaV) (nr nb nk ng:Nat) (HL:Hid (Lens l nr nb nk ng)):Calls Tryz.prog 120 #[lA l nr nb nk ng] w fun e w'=>zaR (zoF l) e/\Below w.heap.size w w':=by
 by_cases hk:l.kern=[]
 ·exact zux w l nr nb nk ng HL hk
 ·exact zub w l nr nb nk ng HL hk
structure LaS (l:LaV):Prop where
 rows:l.rows.length<=100000
 row:∀v∈l.rows,v.ts.length<=1000
 bias:l.bias.length<=100000
 kern:l.kern.length<=100000
 grs:l.grs.length<=100000
 gr:∀g∈l.grs,g.l.length<=1000
set_option maxRecDepth 100000 in
theorem zuu (w:World) (n:Nat) (_hn:n<=400000000000) (_h1n:1<=n) (l:LaV) (N:Int) (h:LaD n l w) (hs:LaS l) (hT:Tz w) (nr nb nk ng:Nat) (HL:Hid (Lens l nr nb nk ng)) (hp:¬zoF l):Calls Tryz.prog 118 #[lA l nr nb nk ng,.int .i64 N] w fun e w'=>e=.returned (.tuple #[.int .i64 0,.int .i64 0,.bool false])/\Below w.heap.size w w':=by
 have HP:=znd hp;clear hp;have Hs:=znd hs;have Hl:=znd h;have HE:=znd (zqu l nr nb nk ng N (((LaD.old l w h)).and ((hT.old).and ((LaD.iffR h)))));have c:=Env.c2 HE.out;have dd:=Env.d2 HE.out;clear h hs hT;unfold lA;go_enter Tryz.func118,Tryz.ntmps118;go_wp2_with fail;refine(ziZ _ l nr nb nk ng HL).mono ?_;rintro e w1 ⟨⟨B,rfl,hB⟩,hb⟩;replace HE:=znd (Env.call HE.out hb);replace c:=Env.c2 HE.out;clear hb;obtain rfl:B=false:=by
  cases B
  ·rfl
  ·exact absurd (hB.1 rfl) HP.out
 clear hB;go_wp2_with fail;go_ret3;exact⟨rfl,HE.out.bel⟩
set_option maxRecDepth 100000 in
theorem zus (w:World) (n:Nat) (_hn:n<=400000000000) (_h1n:1<=n) (l:LaV) (N:Int) (h:LaD n l w) (hs:LaS l) (hT:Tz w) (nr nb nk ng:Nat) (HL:Hid (Lens l nr nb nk ng)) (hp:zoF l) (h0:(0<ng)):Calls Tryz.prog 118 #[lA l nr nb nk ng,.int .i64 N] w fun e w'=>e=.returned (.tuple #[.int .i64 0,.int .i64 0,.bool false])/\Below w.heap.size w w':=by
 have HP:=znd hp;clear hp;have H0:=znd h0;clear h0;have Hs:=znd hs;have Hl:=znd h;have HE:=znd (zqu l nr nb nk ng N (((LaD.old l w h)).and ((hT.old).and ((LaD.iffR h)))));have c:=Env.c2 HE.out;have dd:=Env.d2 HE.out;clear h hs hT;unfold lA;go_enter Tryz.func118,Tryz.ntmps118;go_wp2_with fail;refine(ziZ _ l nr nb nk ng HL).mono ?_;rintro e w1 ⟨⟨B,rfl,hB⟩,hb⟩;replace HE:=znd (Env.call HE.out hb);replace c:=Env.c2 HE.out;clear hb;obtain rfl:B=true:=by
  cases B
  ·exact absurd (hB.2 HP.out) (by decide)
  ·rfl
 clear hB;have h0:=H0.out;go_wp2_with fail;go_ret3;exact⟨rfl,HE.out.bel⟩
set_option maxRecDepth 100000 in
theorem ztN (w:World) (n:Nat) (_hn:n<=400000000000) (_h1n:1<=n) (l:LaV) (N:Int) (h:LaD n l w) (hs:LaS l) (hT:Tz w) (nr nb nk ng:Nat) (HL:Hid (Lens l nr nb nk ng)) (hp:zoF l) (h0:¬0<ng) (h1:(((nr:Int)==0)=true)):Calls Tryz.prog 118 #[lA l nr nb nk ng,.int .i64 N] w fun e w'=>e=.returned (.tuple #[.int .i64 0,.int .i64 0,.bool false])/\Below w.heap.size w w':=by
 have HP:=znd hp;clear hp;have H0:=znd h0;have H1:=znd h1;clear h0 h1;have Hs:=znd hs;have Hl:=znd h;have HE:=znd (zqu l nr nb nk ng N (((LaD.old l w h)).and ((hT.old).and ((LaD.iffR h)))));have c:=Env.c2 HE.out;have dd:=Env.d2 HE.out;clear h hs hT;unfold lA;go_enter Tryz.func118,Tryz.ntmps118;go_wp2_with fail;refine(ziZ _ l nr nb nk ng HL).mono ?_;rintro e w1 ⟨⟨B,rfl,hB⟩,hb⟩;replace HE:=znd (Env.call HE.out hb);replace c:=Env.c2 HE.out;clear hb;obtain rfl:B=true:=by
  cases B
  ·exact absurd (hB.2 HP.out) (by decide)
  ·rfl
 clear hB;have h0:=H0.out;have h1:=H1.out;go_wp2_with fail;go_ret3;exact⟨rfl,HE.out.bel⟩
set_option maxRecDepth 100000 in
theorem zui (w:World) (n:Nat) (_hn:n<=400000000000) (_h1n:1<=n) (l:LaV) (N:Int) (h:LaD n l w) (hs:LaS l) (hT:Tz w) (nr nb nk ng:Nat) (HL:Hid (Lens l nr nb nk ng)) (hp:zoF l) (h0:¬0<ng) (h1:(((nr:Int)==0)=false)) (h2:(((nr:Int) != (nb:Int))=true)):Calls Tryz.prog 118 #[lA l nr nb nk ng,.int .i64 N] w fun e w'=>e=.returned (.tuple #[.int .i64 0,.int .i64 0,.bool false])/\Below w.heap.size w w':=by
 have HP:=znd hp;clear hp;have H0:=znd h0;have H1:=znd h1;have H2:=znd h2;clear h0 h1 h2;have Hs:=znd hs;have Hl:=znd h;have HE:=znd (zqu l nr nb nk ng N (((LaD.old l w h)).and ((hT.old).and ((LaD.iffR h)))));have c:=Env.c2 HE.out;have dd:=Env.d2 HE.out;clear h hs hT;unfold lA;go_enter Tryz.func118,Tryz.ntmps118;go_wp2_with fail;refine(ziZ _ l nr nb nk ng HL).mono ?_;rintro e w1 ⟨⟨B,rfl,hB⟩,hb⟩;replace HE:=znd (Env.call HE.out hb);replace c:=Env.c2 HE.out;clear hb;obtain rfl:B=true:=by
  cases B
  ·exact absurd (hB.2 HP.out) (by decide)
  ·rfl
 clear hB;have h0:=H0.out;have h1:=H1.out;have h2:=H2.out;go_wp2_with fail;go_ret3;exact⟨rfl,HE.out.bel⟩
set_option maxRecDepth 100000 in
theorem ztn (w:World) (n:Nat) (hn:n<=400000000000) (h1n:1<=n) (l:LaV) (N:Int) (h:LaD n l w) (hs:LaS l) (hT:Tz w) (nr nb nk ng:Nat) (HL:Hid (Lens l nr nb nk ng)) (hp:zoF l) (h0:¬0<ng) (h1:(((nr:Int)==0)=false)) (h2:(((nr:Int) != (nb:Int))=false)):Calls Tryz.prog 118 #[lA l nr nb nk ng,.int .i64 N] w fun e w'=>BehRes (AffP w l N) nr (veS l.rows) e/\Below w.heap.size w w':=by
 have HP:=znd hp;have H0:=znd h0;have H1:=znd h1;have H2:=znd h2;clear hp h0 h1 h2;have Hs:=znd hs;have Hl:=znd h;have HE:=znd (zqu l nr nb nk ng N (((LaD.old l w h)).and ((hT.old).and ((LaD.iffR h)))));have c:=Env.c2 HE.out;have dd:=Env.d2 HE.out;clear h hs hT;unfold lA;go_enter Tryz.func118,Tryz.ntmps118;go_wp2_with fail;refine(ziZ _ l nr nb nk ng HL).mono ?_;rintro e w1 ⟨⟨B,rfl,hB⟩,hb⟩;replace HE:=znd (Env.call HE.out hb);replace c:=Env.c2 HE.out;clear hb;obtain rfl:B=true:=by
  cases B
  ·exact absurd (hB.2 HP.out) (by decide)
  ·rfl
 clear hB;have h0:=H0.out;have h1:=H1.out;have h2:=H2.out;go_upto_region 4 with fail;obtain⟨W2,gt,hW2,hgt,HE⟩:=Env.al HE.out 3 #[.int .i64 0];rw[hW2,hgt];clear hW2 hgt;replace c:=Env.c3 HE.out;go_wp2_with fail;refine(zun _ n hn h1n gt (w.heap.size+1) 0 N HE.out.box rfl l.Ar l.cr l.rows Hs.out.rows Hs.out.row (fun v=>RightP v.ts N w) ((HE.out.nbr (b:=⟨w.heap.size+1,3,#[.int .i64 N]⟩) (by simp)).and HE.out.apart |>.imp fun V h=>⟨h.1,h.2.1.1.rows,h.2.1.2.1,fun v hv=>h.2.1.2.2.rows v hv N⟩) nr HL.out.r).mono ?_;rintro e w3 ⟨B,s,rfl,hB,hsum,hu⟩;replace HE:=znd (Env.upd HE.out hu);replace c:=Env.c3 HE.out;have HB:=znd hB;have HS:=znd hsum;clear hu hB hsum
 cases B
 ·go_wp2_with fail;go_ret3;exact BehRes.no (fun hA=>absurd (HB.out.2 hA.er) (by decide)) ⟨rfl,HE.out.bel⟩
 ·obtain rfl:s=veS l.rows:=HS.out (HB.out.1 rfl);go_wp2_with fail;refine(ztW _ n hn h1n l.Ab l.cb l.bias HE.out.o.1.bias (by have:=Hs.out.bias;omega) HE.out.o.2.1 nb HL.out.b).mono ?_;rintro e w4 ⟨⟨B,rfl,hB⟩,hb⟩;have HB2:=znd (hB.trans ⟨fun h p hp=>(HE.out.o.2.2.bias p hp).1 (h p hp),fun h p hp=>(HE.out.o.2.2.bias p hp).2 (h p hp)⟩);replace HE:=znd (Env.call HE.out hb);replace c:=Env.c3 HE.out;clear hb hB
  cases B
  ·go_wp2_with fail;go_ret3;exact BehRes.no (fun hA=>absurd (HB2.out.2 hA.eb) (by decide)) ⟨rfl,HE.out.bel⟩
  ·go_upto_region 7 with fail;go_quiet (fail);go_wp2_with fail;go_ret3;exact⟨.inl ⟨⟨HP.out,zrg HL.out.g H0.out,fun h=>by have h9:=H1.out;rw[(zoy HL.out.r).1 h]at h9;exact absurd h9 (by decide),by have h9:=H2.out;simp at h9;have:=HL.out.r;have:=HL.out.b;omega,HB.out.1 (by first|rfl|trivial),HB2.out.1 (by first|rfl|trivial)⟩,rfl⟩,by first|exact HE.out.bel|exact(HE.out.drewN _).bel⟩
theorem zsq (w:World) (n:Nat) (hn:n<=400000000000) (h1n:1<=n) (l:LaV) (N:Int) (h:LaD n l w) (hs:LaS l) (hT:Tz w) (nr nb nk ng:Nat) (HL:Hid (Lens l nr nb nk ng)):Calls Tryz.prog 118 #[lA l nr nb nk ng,.int .i64 N] w fun e w'=>BehRes (AffP w l N) nr (veS l.rows) e/\Below w.heap.size w w':=by
 have er:=HL.out.r;have eb:=HL.out.b;have eg:=HL.out.g;by_cases hp:zoF l
 ·by_cases h0:0<ng
  ·exact(zus w n hn h1n l N h hs hT nr nb nk ng HL hp h0).mono fun e w' he=>BehRes.no (fun hA=>by rw[hA.g]at eg;simp at eg;omega) he
  ·by_cases h1:nr=0
   ·exact(ztN w n hn h1n l N h hs hT nr nb nk ng HL hp h0 (by simp[h1])).mono fun e w' he=>BehRes.no (fun hA=>hA.r ((zoy er).2 h1)) he
   ·by_cases h2:nr=nb
    ·exact ztn w n hn h1n l N h hs hT nr nb nk ng HL hp h0 (by simp[h1]) (by simp[h2])
    ·exact(zui w n hn h1n l N h hs hT nr nb nk ng HL hp h0 (by simp[h1]) (by simp;omega)).mono fun e w' he=>BehRes.no (fun hA=>h2 (by rw[er,eb];exact hA.b)) he
 ·exact(zuu w n hn h1n l N h hs hT nr nb nk ng HL hp).mono fun e w' he=>BehRes.no (fun hA=>hp hA.p) he
set_option maxRecDepth 100000 in
theorem zvT (w:World) (n:Nat) (_hn:n<=400000000000) (_h1n:1<=n) (l:LaV) (N:Int) (h:LaD n l w) (hs:LaS l) (hT:Tz w) (nr nb nk ng:Nat) (HL:Hid (Lens l nr nb nk ng)) (hp:¬zoF l):Calls Tryz.prog 121 #[lA l nr nb nk ng,.int .i64 N] w fun e w'=>e=.returned (.tuple #[.int .i64 0,.int .i64 0,.bool false])/\Below w.heap.size w w':=by
 have HP:=znd hp;clear hp;have Hs:=znd hs;have Hl:=znd h;have HE:=znd (zqu l nr nb nk ng N (((LaD.old l w h)).and ((hT.old).and ((LaD.iffR h)))));have c:=Env.c2 HE.out;have dd:=Env.d2 HE.out;clear h hs hT;unfold lA;go_enter Tryz.func121,Tryz.ntmps121;go_wp2_with fail;refine(ziZ _ l nr nb nk ng HL).mono ?_;rintro e w1 ⟨⟨B,rfl,hB⟩,hb⟩;replace HE:=znd (Env.call HE.out hb);replace c:=Env.c2 HE.out;clear hb;obtain rfl:B=false:=by
  cases B
  ·rfl
  ·exact absurd (hB.1 rfl) HP.out
 clear hB;go_wp2_with fail;go_ret3;exact⟨rfl,HE.out.bel⟩
set_option maxRecDepth 100000 in
theorem zvw (w:World) (n:Nat) (_hn:n<=400000000000) (_h1n:1<=n) (l:LaV) (N:Int) (h:LaD n l w) (hs:LaS l) (hT:Tz w) (nr nb nk ng:Nat) (HL:Hid (Lens l nr nb nk ng)) (hp:zoF l) (h0:(0<nr)):Calls Tryz.prog 121 #[lA l nr nb nk ng,.int .i64 N] w fun e w'=>e=.returned (.tuple #[.int .i64 0,.int .i64 0,.bool false])/\Below w.heap.size w w':=by
 have HP:=znd hp;clear hp;have H0:=znd h0;clear h0;have Hs:=znd hs;have Hl:=znd h;have HE:=znd (zqu l nr nb nk ng N (((LaD.old l w h)).and ((hT.old).and ((LaD.iffR h)))));have c:=Env.c2 HE.out;have dd:=Env.d2 HE.out;clear h hs hT;unfold lA;go_enter Tryz.func121,Tryz.ntmps121;go_wp2_with fail;refine(ziZ _ l nr nb nk ng HL).mono ?_;rintro e w1 ⟨⟨B,rfl,hB⟩,hb⟩;replace HE:=znd (Env.call HE.out hb);replace c:=Env.c2 HE.out;clear hb;obtain rfl:B=true:=by
  cases B
  ·exact absurd (hB.2 HP.out) (by decide)
  ·rfl
 clear hB;have h0:=H0.out;go_wp2_with fail;go_ret3;exact⟨rfl,HE.out.bel⟩
set_option maxRecDepth 100000 in
theorem zvK (w:World) (n:Nat) (_hn:n<=400000000000) (_h1n:1<=n) (l:LaV) (N:Int) (h:LaD n l w) (hs:LaS l) (hT:Tz w) (nr nb nk ng:Nat) (HL:Hid (Lens l nr nb nk ng)) (hp:zoF l) (h0:¬0<nr) (h1:(0<nb)):Calls Tryz.prog 121 #[lA l nr nb nk ng,.int .i64 N] w fun e w'=>e=.returned (.tuple #[.int .i64 0,.int .i64 0,.bool false])/\Below w.heap.size w w':=by
 have HP:=znd hp;clear hp;have H0:=znd h0;have H1:=znd h1;clear h0 h1;have Hs:=znd hs;have Hl:=znd h;have HE:=znd (zqu l nr nb nk ng N (((LaD.old l w h)).and ((hT.old).and ((LaD.iffR h)))));have c:=Env.c2 HE.out;have dd:=Env.d2 HE.out;clear h hs hT;unfold lA;go_enter Tryz.func121,Tryz.ntmps121;go_wp2_with fail;refine(ziZ _ l nr nb nk ng HL).mono ?_;rintro e w1 ⟨⟨B,rfl,hB⟩,hb⟩;replace HE:=znd (Env.call HE.out hb);replace c:=Env.c2 HE.out;clear hb;obtain rfl:B=true:=by
  cases B
  ·exact absurd (hB.2 HP.out) (by decide)
  ·rfl
 clear hB;have h0:=H0.out;have h1:=H1.out;go_wp2_with fail;go_ret3;exact⟨rfl,HE.out.bel⟩
set_option maxRecDepth 100000 in
theorem zvD (w:World) (n:Nat) (_hn:n<=400000000000) (_h1n:1<=n) (l:LaV) (N:Int) (h:LaD n l w) (hs:LaS l) (hT:Tz w) (nr nb nk ng:Nat) (HL:Hid (Lens l nr nb nk ng)) (hp:zoF l) (h0:¬0<nr) (h1:¬0<nb) (h2:(((ng:Int)==0)=true)):Calls Tryz.prog 121 #[lA l nr nb nk ng,.int .i64 N] w fun e w'=>e=.returned (.tuple #[.int .i64 0,.int .i64 0,.bool false])/\Below w.heap.size w w':=by
 have HP:=znd hp;clear hp;have H0:=znd h0;have H1:=znd h1;have H2:=znd h2;clear h0 h1 h2;have Hs:=znd hs;have Hl:=znd h;have HE:=znd (zqu l nr nb nk ng N (((LaD.old l w h)).and ((hT.old).and ((LaD.iffR h)))));have c:=Env.c2 HE.out;have dd:=Env.d2 HE.out;clear h hs hT;unfold lA;go_enter Tryz.func121,Tryz.ntmps121;go_wp2_with fail;refine(ziZ _ l nr nb nk ng HL).mono ?_;rintro e w1 ⟨⟨B,rfl,hB⟩,hb⟩;replace HE:=znd (Env.call HE.out hb);replace c:=Env.c2 HE.out;clear hb;obtain rfl:B=true:=by
  cases B
  ·exact absurd (hB.2 HP.out) (by decide)
  ·rfl
 clear hB;have h0:=H0.out;have h1:=H1.out;have h2:=H2.out;go_wp2_with fail;go_ret3;exact⟨rfl,HE.out.bel⟩
set_option maxRecDepth 100000 in
theorem zvh (w:World) (n:Nat) (_hn:n<=400000000000) (_h1n:1<=n) (l:LaV) (N:Int) (h:LaD n l w) (hs:LaS l) (hT:Tz w) (nr nb nk ng:Nat) (HL:Hid (Lens l nr nb nk ng)) (hp:zoF l) (h0:¬0<nr) (h1:¬0<nb) (h2:(((ng:Int)==0)=false)):Calls Tryz.prog 121 #[lA l nr nb nk ng,.int .i64 N] w fun e w'=>BehRes (PoolP l N) ng (grS l.grs) e/\Below w.heap.size w w':=by
 have HP:=znd hp;have H0:=znd h0;have H1:=znd h1;have H2:=znd h2;clear hp h0 h1 h2;have Hs:=znd hs;have Hl:=znd h;have HE:=znd (zqu l nr nb nk ng N (((LaD.old l w h)).and ((hT.old).and ((LaD.iffR h)))));have c:=Env.c2 HE.out;have dd:=Env.d2 HE.out;clear h hs hT;unfold lA;go_enter Tryz.func121,Tryz.ntmps121;go_wp2_with fail;refine(ziZ _ l nr nb nk ng HL).mono ?_;rintro e w1 ⟨⟨B,rfl,hB⟩,hb⟩;replace HE:=znd (Env.call HE.out hb);replace c:=Env.c2 HE.out;clear hb;obtain rfl:B=true:=by
  cases B
  ·exact absurd (hB.2 HP.out) (by decide)
  ·rfl
 clear hB;have h0:=H0.out;have h1:=H1.out;have h2:=H2.out;go_upto_region 4 with fail;obtain⟨W2,gt,hW2,hgt,HE⟩:=Env.al HE.out 3 #[.int .i64 0];rw[hW2,hgt];clear hW2 hgt;replace c:=Env.c3 HE.out;go_wp2_with fail;refine(zts _ gt (w.heap.size+1) 0 N HE.out.box rfl l.Ag l.cg l.grs Hs.out.grs Hs.out.gr ((HE.out.nbr (b:=⟨w.heap.size+1,3,#[.int .i64 N]⟩) (by simp)).and HE.out.apart |>.imp fun V h=>⟨h.1,h.2.1.1.grs⟩) ng HL.out.g).mono ?_;rintro e w3 ⟨B,s,rfl,hB,hsum,hu⟩;replace HE:=znd (Env.upd HE.out hu);replace c:=Env.c3 HE.out;have HB:=znd hB;have HS:=znd hsum;clear hu hB hsum
 cases B
 ·go_wp2_with fail;go_ret3;exact BehRes.no (fun hA=>absurd (HB.out.2 hA.eg) (by decide)) ⟨rfl,HE.out.bel⟩
 ·obtain rfl:s=grS l.grs:=HS.out (HB.out.1 rfl);go_upto_region 7 with fail;go_quiet (fail);go_wp2_with fail;go_ret3;exact⟨.inl ⟨⟨HP.out,⟨zrg HL.out.r H0.out,zrg HL.out.b H1.out⟩,fun h=>by have h9:=H2.out;rw[(zoy HL.out.g).1 h]at h9;exact absurd h9 (by decide),HB.out.1 (by first|rfl|trivial)⟩,rfl⟩,by first|exact HE.out.bel|exact(HE.out.drewN _).bel⟩
theorem zu3 (w:World) (n:Nat) (hn:n<=400000000000) (h1n:1<=n) (l:LaV) (N:Int) (h:LaD n l w) (hs:LaS l) (hT:Tz w) (nr nb nk ng:Nat) (HL:Hid (Lens l nr nb nk ng)):Calls Tryz.prog 121 #[lA l nr nb nk ng,.int .i64 N] w fun e w'=>BehRes (PoolP l N) ng (grS l.grs) e/\Below w.heap.size w w':=by
 have er:=HL.out.r;have eb:=HL.out.b;have eg:=HL.out.g;by_cases hp:zoF l
 ·by_cases h0:0<nr
  ·exact(zvw w n hn h1n l N h hs hT nr nb nk ng HL hp h0).mono fun e w' he=>BehRes.no (fun hA=>by rw[hA.r.1]at er;simp at er;omega) he
  ·by_cases h1:0<nb
   ·exact(zvK w n hn h1n l N h hs hT nr nb nk ng HL hp h0 h1).mono fun e w' he=>BehRes.no (fun hA=>by rw[hA.r.2]at eb;simp at eb;omega) he
   ·by_cases h2:ng=0
    ·exact(zvD w n hn h1n l N h hs hT nr nb nk ng HL hp h0 h1 (by simp[h2])).mono fun e w' he=>BehRes.no (fun hA=>hA.g ((zoy eg).2 h2)) he
    ·exact zvh w n hn h1n l N h hs hT nr nb nk ng HL hp h0 h1 (by simp[h2])
 ·exact(zvT w n hn h1n l N h hs hT nr nb nk ng HL hp).mono fun e w' he=>BehRes.no (fun hA=>hp hA.p) he

theorem BehRes.iff {P Q:Prop} {u t:Int} {e:Ending} (hPQ:P↔Q) (h:BehRes P u t e):BehRes Q u t e:=by
 rcases h with⟨h1,h2⟩|⟨h1,h2⟩
 ·exact .inl ⟨hPQ.1 h1,h2⟩
 ·exact .inr ⟨fun h=>h1 (hPQ.2 h),h2⟩
theorem lenz {α:Type} {l:List α} {k:Nat} (h:k=l.length) (e:l=[]):(((k:Int)==0)=true):=by rw[(zoy h).1 e];rfl
theorem lenn {α:Type} {l:List α} {k:Nat} (h:k=l.length) (e:l≠[]):(((k:Int)==0)=false):=by
 have:k≠0:=fun h0=>e ((zoy h).2 h0);simp[this]
theorem zoK {a b m:Int} (ha:0<=a/\a<=m) (hb:0<=b/\b<=1024):0<=a*b/\a*b<=m*1024:=by
 have h1:=Int.mul_nonneg ha.1 hb.1;have h2:a*b<=m*b:=Int.mul_le_mul_of_nonneg_right ha.2 hb.1;have h3:m*b<=m*1024:=Int.mul_le_mul_of_nonneg_left hb.2 (by omega);omega
theorem zcs {z:Int} (h:0<=z/\z<=4611686018427387904):IntKind.i64.wrap z=z:=by rw[IntKind.wrap_i64];omega
theorem zpo {z:Int} (h:-4611686018427387904<=z/\z<=4611686018427387904):IntKind.i64.wrap z=z:=by rw[IntKind.wrap_i64];omega
def sidesP (l:LaV):Prop:=side l.ch/\side l.high/\side l.wide/\side l.out/\side l.kh/\side l.kw/\side l.st
theorem sidesP.nn {l:LaV} (h:sidesP l):(0<=l.ch/\l.ch<=256)/\(0<=l.high/\l.high<=256)/\(0<=l.wide/\l.wide<=256)/\(0<=l.out/\l.out<=256)/\(0<=l.kh/\l.kh<=256)/\(0<=l.kw/\l.kw<=256)/\(1<=l.st/\l.st<=256):=by
 unfold sidesP side at h;omega
theorem sidesP.w1 {l:LaV} (h:sidesP l):(0<=l.ch*l.high/\l.ch*l.high<=262144)/\(0<=l.ch*l.high*l.wide/\l.ch*l.high*l.wide<=268435456)/\(0<=l.ch*l.kh/\l.ch*l.kh<=262144)/\(0<=l.ch*l.kh*l.kw/\l.ch*l.kh*l.kw<=268435456)/\(0<=l.out*(l.ch*l.kh*l.kw)/\l.out*(l.ch*l.kh*l.kw)<=274877906944):=by
 have hn:=h.nn;have a1:=zoK (m:=256) hn.1 (b:=l.high) (by omega);have a2:=zoK (m:=256*1024) a1 (b:=l.wide) (by omega);have a3:=zoK (m:=256) hn.1 (b:=l.kh) (by omega);have a4:=zoK (m:=256*1024) a3 (b:=l.kw) (by omega);have a5:=zoK (m:=256*1024*1024) a4 (b:=l.out) (by omega);rw[Int.mul_comm (l.ch*l.kh*l.kw) l.out]at a5;omega
theorem zuH {a b:Int} (ha:0<=a):a.tdiv b=a/b:=Int.tdiv_eq_ediv_of_nonneg ha
theorem zpm {h p k s:Int} (hh:0<=h/\h<=256) (hp:0<=p/\p<k) (hk:k<=256) (hs:1<=s) (h0:0<=h+2*p-k):0<=(h+2*p-k)/s/\(h+2*p-k)/s+1<=1024:=by
 have h1:0<=(h+2*p-k)/s:=Int.ediv_nonneg h0 (by omega);have h2:(h+2*p-k)/s<=h+2*p-k:=Int.ediv_le_self _ h0;omega
theorem zti {o a b e:Int} (ho:0<=o/\o<=256) (ha:0<=a/\a<=1024) (hb:0<=b/\b<=1024) (he:0<=e/\e<=268435456):(0<=o*a/\o*a<=262144)/\(0<=o*a*b/\o*a*b<=268435456)/\(0<=o*a*b*e/\o*a*b*e<=72057594037927936):=by
 have a1:=zoK (m:=256) ho ha;have a2:=zoK (m:=256*1024) a1 hb;refine⟨by omega,by omega,Int.mul_nonneg a2.1 he.1,?_⟩;have h1:o*a*b*e<=268435456*e:=Int.mul_le_mul_of_nonneg_right (by omega) he.1;omega
set_option maxRecDepth 100000 in
theorem zu4 (w:World) (n:Nat) (hn:n<=400000000000) (h1n:1<=n) (l:LaV) (N:Int) (h:LaD n l w) (hs:LaS l) (hT:Tz w) (nr nb nk ng:Nat) (HL:Hid (Lens l nr nb nk ng)):Calls Tryz.prog 119 #[lA l nr nb nk ng,.int .i64 N] w fun e w'=>BehRes (ConvP w l N) (l.out*zpj l*zpi l) (l.out*zpj l*zpi l*(l.ch*l.kh*l.kw)) e/\Below w.heap.size w w':=by
 unfold zpj zpi;have Hs:=znd hs;have HE:=znd (layL l nr nb nk ng (((LaD.old l w h)).and ((hT.old).and ((LaD.iffR h)))));have c:=Env.c1 HE.out;clear h hs hT;unfold lA;go_enter Tryz.func119,Tryz.ntmps119;go_upto_region 2 with fail;obtain⟨W2,g4,hW2,hg4,HE⟩:=Env.al HE.out 3 #[.int .i64 l.ch,.int .i64 l.high,.int .i64 l.wide,.int .i64 l.out,.int .i64 l.kh,.int .i64 l.kw,.int .i64 l.st];replace hg4:w.heap.size+1=g4:=by rw[<-hg4];simp
 rw[hW2,hg4];clear hW2 hg4;replace c:=Env.c2 HE.out;have Hi:=znd (zrH (l:=[l.ch,l.high,l.wide,l.out,l.kh,l.kw,l.st]) (HE.out.bx ⟨g4,3,#[.int .i64 l.ch,.int .i64 l.high,.int .i64 l.wide,.int .i64 l.out,.int .i64 l.kh,.int .i64 l.kw,.int .i64 l.st]⟩ (List.mem_cons_self ..)));go_wp2_with fail;refine(zt8 W2 (some ⟨g4,0,none⟩) 7 [l.ch,l.high,l.wide,l.out,l.kh,l.kw,l.st] Hi.out (by simp)).mono ?_;rintro e w3 ⟨⟨B,rfl,hB⟩,hb⟩
 have HB:=znd (show B=true↔sidesP l by
  rw[hB];simp only[List.mem_cons,List.not_mem_nil,or_false,forall_eq_or_imp,forall_eq];exact Iff.rfl)
 replace HE:=znd (Env.call HE.out hb);replace c:=Env.c2 HE.out;clear hb hB Hi
 cases B
 ·go_wp2_with fail;go_ret3;exact BehRes.no (fun hA=>absurd (HB.out.2 hA.s) (by decide)) ⟨rfl,HE.out.bel⟩
 ·have HS:=znd (HB.out.1 rfl);have hn:=HS.out.nn;have hw:=HS.out.w1;have w1:=zcs (z:=l.ch*l.high) (by omega);have w2:=zcs (z:=l.ch*l.high*l.wide) (by omega);have Hn:=znd hn;have Hw:=znd hw;clear hn hw HB;go_upto_region 4 with fail;by_cases q0:l.pad<0
  ·have Hq0:=znd q0;go_wp2_with fail;go_ret3;exact BehRes.no (fun hA=>by have:=hA.pad;have:=Hq0.out;omega) ⟨rfl,by first|exact HE.out.bel|exact(HE.out.drewN _).bel⟩
  ·have Hq0:=znd q0;by_cases q1:l.pad≥l.kh
   ·have Hq1:=znd q1;go_wp2_with fail;go_ret3;exact BehRes.no (fun hA=>by have:=hA.pad;have:=Hq1.out;omega) ⟨rfl,by first|exact HE.out.bel|exact(HE.out.drewN _).bel⟩
   ·have Hq1:=znd q1;by_cases q2:l.pad≥l.kw
    ·have Hq2:=znd q2;go_wp2_with fail;go_ret3;exact BehRes.no (fun hA=>by have:=hA.pad;have:=Hq2.out;omega) ⟨rfl,by first|exact HE.out.bel|exact(HE.out.drewN _).bel⟩
    ·have Hq2:=znd q2;by_cases q3:¬l.ch*l.high*l.wide=N
     ·have Hq3:=znd q3;have q3b:((l.ch*l.high*l.wide) != N)=true:=by simp[q3]
      go_wp2_with fail;go_ret3;exact BehRes.no (fun hA=>Hq3.out hA.n) ⟨rfl,by first|exact HE.out.bel|exact(HE.out.drewN _).bel⟩
     ·have Hq3:=znd q3;have q3':l.ch*l.high*l.wide=N:=by simpa using q3
      have q3b:((l.ch*l.high*l.wide) != N)=false:=by simp[q3']
      have Hq3':=znd q3';clear q3 q3';have hn:=Hn.out;have hw:=Hw.out;have v1:=zcs (z:=2*l.pad) (by omega);have v2:=zpo (z:=l.high+2*l.pad) (by omega);have v3:=zpo (z:=l.high+2*l.pad-l.kh) (by omega);have v4:=zpo (z:=l.wide+2*l.pad) (by omega);have v5:=zpo (z:=l.wide+2*l.pad-l.kw) (by omega);have v6:=zcs (z:=l.ch*l.kh) (by omega);have v7:=zcs (z:=l.ch*l.kh*l.kw) (by omega);have v8:=zcs (z:=l.out*(l.ch*l.kh*l.kw)) (by omega);clear hn hw;go_upto_region 6 with fail;clear q0 q1 q2 q3b w1 w2;go_quiet (fail);replace HE:=znd (HE.out.drewN nq);replace c:=Env.c2 HE.out;go_upto_region 8 with fail;by_cases r0:l.high+2*l.pad-l.kh<0
      ·have Hr0:=znd r0;go_wp2_with fail;go_ret3;exact BehRes.no (fun hA=>by have:=hA.h;have:=Hr0.out;omega) ⟨rfl,by first|exact HE.out.bel|exact(HE.out.drewN _).bel⟩
      ·have Hr0:=znd r0;by_cases r1:l.wide+2*l.pad-l.kw<0
       ·have Hr1:=znd r1;go_wp2_with fail;go_ret3;exact BehRes.no (fun hA=>by have:=hA.h;have:=Hr1.out;omega) ⟨rfl,by first|exact HE.out.bel|exact(HE.out.drewN _).bel⟩
       ·have Hr1:=znd r1;by_cases r2:¬(nk:Int)=l.out*(l.ch*l.kh*l.kw)
        ·have Hr2:=znd r2;have r2b:((nk:Int) != l.out*(l.ch*l.kh*l.kw))=true:=by simp[r2]
         go_wp2_with fail;go_ret3;exact BehRes.no (fun hA=>Hr2.out (by rw[HL.out.k];exact hA.k)) ⟨rfl,by first|exact HE.out.bel|exact(HE.out.drewN _).bel⟩
        ·have Hr2:=znd r2;have r2':(nk:Int)=l.out*(l.ch*l.kh*l.kw):=by simpa using r2
         have r2b:((nk:Int) != l.out*(l.ch*l.kh*l.kw))=false:=by simp[r2']
         have Hr2':=znd r2';clear r2 r2';by_cases r3:¬(nb:Int)=l.out
         ·have Hr3:=znd r3;have r3b:((nb:Int) != l.out)=true:=by simp[r3]
          go_wp2_with fail;go_ret3;exact BehRes.no (fun hA=>Hr3.out (by rw[HL.out.b];exact hA.b)) ⟨rfl,by first|exact HE.out.bel|exact(HE.out.drewN _).bel⟩
         ·have Hr3:=znd r3;have r3':(nb:Int)=l.out:=by simpa using r3
          have r3b:((nb:Int) != l.out)=false:=by simp[r3']
          have Hr3':=znd r3';clear r3 r3';go_upto_region 11 with fail;by_cases s0:0<nr
          ·have Hs0:=znd s0;go_wp2_with fail;go_ret3;exact BehRes.no (fun hA=>by have h8:=Hs0.out;have h9:=HL.out.r;rw[hA.e.1]at h9;simp at h9;omega) ⟨rfl,by first|exact HE.out.bel|exact(HE.out.drewN _).bel⟩
          ·have Hs0:=znd s0;by_cases s1:0<ng
           ·have Hs1:=znd s1;go_wp2_with fail;go_ret3;exact BehRes.no (fun hA=>by have h8:=Hs1.out;have h9:=HL.out.g;rw[hA.e.2]at h9;simp at h9;omega) ⟨rfl,by first|exact HE.out.bel|exact(HE.out.drewN _).bel⟩
           ·have Hs1:=znd s1;go_wp2_with fail;refine(zrb _ n hn h1n l.Ak l.ck l.kern HE.out.o.1.kern (by have:=Hs.out.kern;omega) HE.out.o.2.1 nk HL.out.k).mono ?_;rintro e w4 ⟨⟨B,rfl,hB⟩,hb⟩;have HK:=znd (hB.trans ⟨fun h p hp=>(HE.out.o.2.2.kern p hp).1 (h p hp),fun h p hp=>(HE.out.o.2.2.kern p hp).2 (h p hp)⟩);replace HE:=znd (Env.call HE.out hb);replace c:=Env.c2 HE.out;clear hb hB
            cases B
            ·go_wp2_with fail;go_ret3;exact BehRes.no (fun hA=>absurd (HK.out.2 hA.ek) (by decide)) ⟨rfl,HE.out.bel⟩
            ·go_wp2_with fail;refine(zrb _ n hn h1n l.Ab l.cb l.bias HE.out.o.1.bias (by have:=Hs.out.bias;omega) HE.out.o.2.1 nb HL.out.b).mono ?_;rintro e w4 ⟨⟨B,rfl,hB⟩,hb⟩;have HB:=znd (hB.trans ⟨fun h p hp=>(HE.out.o.2.2.bias p hp).1 (h p hp),fun h p hp=>(HE.out.o.2.2.bias p hp).2 (h p hp)⟩);replace HE:=znd (Env.call HE.out hb);replace c:=Env.c2 HE.out;clear hb hB
             cases B
             ·go_wp2_with fail;go_ret3;exact BehRes.no (fun hA=>absurd (HB.out.2 hA.eb) (by decide)) ⟨rfl,HE.out.bel⟩
             ·have hn:=Hn.out;have hw:=Hw.out;have b1:=zpm (h:=l.high) (p:=l.pad) (k:=l.kh) (s:=l.st) (by omega) (by have:=Hq0.out;have:=Hq1.out;omega) (by omega) (by omega) (by have:=Hr0.out;omega);have b2:=zpm (h:=l.wide) (p:=l.pad) (k:=l.kw) (s:=l.st) (by omega) (by have:=Hq0.out;have:=Hq2.out;omega) (by omega) (by omega) (by have:=Hr1.out;omega);have b3:=zti (o:=l.out) (a:=(l.high+2*l.pad-l.kh)/l.st+1) (b:=(l.wide+2*l.pad-l.kw)/l.st+1) (e:=l.ch*l.kh*l.kw) (by omega) (by omega) (by omega) (by omega);have hst:¬l.st=0:=by omega
              have hst':(l.st==0)=false:=by simp[hst]
              have d1:=zuH (a:=l.high+2*l.pad-l.kh) (b:=l.st) (by have:=Hr0.out;omega);have d2:=zuH (a:=l.wide+2*l.pad-l.kw) (b:=l.st) (by have:=Hr1.out;omega);have Hf:=znd (show ConvP w l N from⟨HS.out,by have:=Hq0.out;have:=Hq1.out;have:=Hq2.out;omega,Hq3'.out,by have:=Hr0.out;have:=Hr1.out;omega,by rw[<-HL.out.k];exact Hr2'.out,by rw[<-HL.out.b];exact Hr3'.out,⟨zrg HL.out.r Hs0.out,zrg HL.out.g Hs1.out⟩,HK.out.1 (by first|rfl|trivial),HB.out.1 (by first|rfl|trivial)⟩);have e1:=zcs (z:=(l.high+2*l.pad-l.kh)/l.st) (by omega);have e2:=zcs (z:=(l.high+2*l.pad-l.kh)/l.st+1) (by omega);have e3:=zcs (z:=(l.wide+2*l.pad-l.kw)/l.st) (by omega);have e4:=zcs (z:=(l.wide+2*l.pad-l.kw)/l.st+1) (by omega);have e5:=zcs (z:=l.out*((l.high+2*l.pad-l.kh)/l.st+1)) (by omega);have e6:=zcs (z:=l.out*((l.high+2*l.pad-l.kh)/l.st+1)*((l.wide+2*l.pad-l.kw)/l.st+1)) (by omega);have e7:=zcs (z:=l.out*((l.high+2*l.pad-l.kh)/l.st+1)*((l.wide+2*l.pad-l.kw)/l.st+1)*(l.ch*l.kh*l.kw)) (by omega);clear hn hw b1 b2 b3;go_upto_region 13 with fail;go_quiet (fail);go_wp2_with fail;go_ret3;exact⟨.inl ⟨Hf.out,rfl⟩,by first|exact HE.out.bel|exact(HE.out.drewN _).bel⟩
set_option maxRecDepth 100000 in
theorem ztO (w:World) (n:Nat) (hn:n<=400000000000) (h1n:1<=n) (l:LaV) (N:Int) (h:LaD n l w) (hs:LaS l) (hT:Tz w) (nr nb nk ng:Nat) (HL:Hid (Lens l nr nb nk ng)) (hk:l.kind=1):Calls Tryz.prog 80 #[lA l nr nb nk ng,.int .i64 N] w fun e w'=>BehRes (AffP w l N) nr (veS l.rows) e/\Below w.heap.size w w':=by
 have e0:(l.kind==1)=true:=by simp[hk]
 clear hk;have Hs:=znd hs;have HE:=znd (layL l nr nb nk ng (((LaD.old l w h)).and ((hT.old).and ((LaD.iffR h)))));have c:=Env.c1 HE.out;clear h hs hT;unfold lA;go_enter Tryz.func80,Tryz.ntmps80;go_wp2_with fail;refine(zsq _ n hn h1n l N HE.out.o.1 Hs.out HE.out.o.2.1 nr nb nk ng HL).mono ?_;rintro e w1 ⟨hr,hb⟩;have HR:=znd (show BehRes (AffP w l N) nr (veS l.rows) e from BehRes.iff ⟨fun h=>⟨h.p,h.g,h.r,h.b,fun v hv=>(HE.out.o.2.2.rows v hv N).1 (h.er v hv),fun p hp=>(HE.out.o.2.2.bias p hp).1 (h.eb p hp)⟩,fun h=>⟨h.p,h.g,h.r,h.b,fun v hv=>(HE.out.o.2.2.rows v hv N).2 (h.er v hv),fun p hp=>(HE.out.o.2.2.bias p hp).2 (h.eb p hp)⟩⟩ hr);replace HE:=znd (Env.call HE.out hb);clear hr hb;rcases HR.out with⟨hP,rfl⟩|⟨hP,rfl⟩
 all_goals
  have HP:=znd hP;clear hP HR;go_wp2_with fail;go_ret3
 ·exact⟨.inl ⟨HP.out,rfl⟩,HE.out.bel⟩
 ·exact⟨.inr ⟨HP.out,rfl⟩,HE.out.bel⟩
set_option maxRecDepth 100000 in
theorem zug (w:World) (n:Nat) (hn:n<=400000000000) (h1n:1<=n) (l:LaV) (N:Int) (h:LaD n l w) (hs:LaS l) (hT:Tz w) (nr nb nk ng:Nat) (HL:Hid (Lens l nr nb nk ng)) (hk:l.kind=2):Calls Tryz.prog 80 #[lA l nr nb nk ng,.int .i64 N] w fun e w'=>BehRes (ConvP w l N) (l.out*zpj l*zpi l) (l.out*zpj l*zpi l*(l.ch*l.kh*l.kw)) e/\Below w.heap.size w w':=by
 have e0:(l.kind==1)=false:=by simp;omega
 have e1:(l.kind==2)=true:=by simp[hk]
 clear hk;have Hs:=znd hs;have HE:=znd (layL l nr nb nk ng (((LaD.old l w h)).and ((hT.old).and ((LaD.iffR h)))));have c:=Env.c1 HE.out;clear h hs hT;unfold lA;go_enter Tryz.func80,Tryz.ntmps80;go_wp2_with fail;refine(zu4 _ n hn h1n l N HE.out.o.1 Hs.out HE.out.o.2.1 nr nb nk ng HL).mono ?_;rintro e w1 ⟨hr,hb⟩;have HR:=znd (show BehRes (ConvP w l N) (l.out*zpj l*zpi l) (l.out*zpj l*zpi l*(l.ch*l.kh*l.kw)) e from BehRes.iff ⟨fun h=>⟨h.s,h.pad,h.n,h.h,h.k,h.b,h.e,fun p hp=>(HE.out.o.2.2.kern p hp).1 (h.ek p hp),fun p hp=>(HE.out.o.2.2.bias p hp).1 (h.eb p hp)⟩,fun h=>⟨h.s,h.pad,h.n,h.h,h.k,h.b,h.e,fun p hp=>(HE.out.o.2.2.kern p hp).2 (h.ek p hp),fun p hp=>(HE.out.o.2.2.bias p hp).2 (h.eb p hp)⟩⟩ hr);replace HE:=znd (Env.call HE.out hb);clear hr hb;rcases HR.out with⟨hP,rfl⟩|⟨hP,rfl⟩
 all_goals
  have HP:=znd hP;clear hP HR;go_wp2_with fail;go_ret3
 ·exact⟨.inl ⟨HP.out,rfl⟩,HE.out.bel⟩
 ·exact⟨.inr ⟨HP.out,rfl⟩,HE.out.bel⟩
set_option maxRecDepth 100000 in
theorem ztC (w:World) (n:Nat) (_hn:n<=400000000000) (_h1n:1<=n) (l:LaV) (N:Int) (h:LaD n l w) (hs:LaS l) (hT:Tz w) (nr nb nk ng:Nat) (HL:Hid (Lens l nr nb nk ng)) (hk:l.kind=3) (hp:¬zoF l):Calls Tryz.prog 80 #[lA l nr nb nk ng,.int .i64 N] w fun e w'=>e=.returned (.tuple #[.int .i64 0,.int .i64 0,.bool false])/\Below w.heap.size w w':=by
 have e0:(l.kind==1)=false:=by simp;omega
 have e1:(l.kind==2)=false:=by simp;omega
 have e2:(l.kind==3)=true:=by simp[hk]
 clear hk;have HP:=znd hp;clear hp;have Hs:=znd hs;have HE:=znd (layL l nr nb nk ng (((LaD.old l w h)).and ((hT.old).and ((LaD.iffR h)))));have c:=Env.c1 HE.out;clear h hs hT;unfold lA;go_enter Tryz.func80,Tryz.ntmps80;go_wp2_with fail;refine(ziZ _ l nr nb nk ng HL).mono ?_;rintro e w1 ⟨⟨B,rfl,hB⟩,hb⟩;replace HE:=znd (Env.call HE.out hb);replace c:=Env.c1 HE.out;clear hb;obtain rfl:B=false:=by
  cases B
  ·rfl
  ·exact absurd (hB.1 rfl) HP.out
 clear hB;go_wp2_with fail;go_ret3;exact⟨rfl,HE.out.bel⟩
set_option maxRecDepth 100000 in
theorem zsH (w:World) (n:Nat) (_hn:n<=400000000000) (_h1n:1<=n) (l:LaV) (N:Int) (h:LaD n l w) (hs:LaS l) (hT:Tz w) (nr nb nk ng:Nat) (HL:Hid (Lens l nr nb nk ng)) (hk:l.kind=3) (hp:zoF l) (h0:(((nr:Int)==0)=false)):Calls Tryz.prog 80 #[lA l nr nb nk ng,.int .i64 N] w fun e w'=>e=.returned (.tuple #[.int .i64 0,.int .i64 0,.bool false])/\Below w.heap.size w w':=by
 have e0:(l.kind==1)=false:=by simp;omega
 have e1:(l.kind==2)=false:=by simp;omega
 have e2:(l.kind==3)=true:=by simp[hk]
 clear hk;have HP:=znd hp;clear hp;have Hs:=znd hs;have HE:=znd (layL l nr nb nk ng (((LaD.old l w h)).and ((hT.old).and ((LaD.iffR h)))));have c:=Env.c1 HE.out;clear h hs hT;unfold lA;go_enter Tryz.func80,Tryz.ntmps80;go_wp2_with fail;refine(ziZ _ l nr nb nk ng HL).mono ?_;rintro e w1 ⟨⟨B,rfl,hB⟩,hb⟩;replace HE:=znd (Env.call HE.out hb);replace c:=Env.c1 HE.out;clear hb;obtain rfl:B=true:=by
  cases B
  ·exact absurd (hB.2 HP.out) (by decide)
  ·rfl
 clear hB;go_wp2_with fail;go_ret3;exact⟨rfl,HE.out.bel⟩
set_option maxRecDepth 100000 in
theorem ztu (w:World) (n:Nat) (_hn:n<=400000000000) (_h1n:1<=n) (l:LaV) (N:Int) (h:LaD n l w) (hs:LaS l) (hT:Tz w) (nr nb nk ng:Nat) (HL:Hid (Lens l nr nb nk ng)) (hk:l.kind=3) (hp:zoF l) (h0:(((nr:Int)==0)=true)) (h1:(((nb:Int)==0)=false)):Calls Tryz.prog 80 #[lA l nr nb nk ng,.int .i64 N] w fun e w'=>e=.returned (.tuple #[.int .i64 0,.int .i64 0,.bool false])/\Below w.heap.size w w':=by
 have e0:(l.kind==1)=false:=by simp;omega
 have e1:(l.kind==2)=false:=by simp;omega
 have e2:(l.kind==3)=true:=by simp[hk]
 clear hk;have HP:=znd hp;clear hp;have Hs:=znd hs;have HE:=znd (layL l nr nb nk ng (((LaD.old l w h)).and ((hT.old).and ((LaD.iffR h)))));have c:=Env.c1 HE.out;clear h hs hT;unfold lA;go_enter Tryz.func80,Tryz.ntmps80;go_wp2_with fail;refine(ziZ _ l nr nb nk ng HL).mono ?_;rintro e w1 ⟨⟨B,rfl,hB⟩,hb⟩;replace HE:=znd (Env.call HE.out hb);replace c:=Env.c1 HE.out;clear hb;obtain rfl:B=true:=by
  cases B
  ·exact absurd (hB.2 HP.out) (by decide)
  ·rfl
 clear hB;go_wp2_with fail;go_ret3;exact⟨rfl,HE.out.bel⟩
set_option maxRecDepth 100000 in
theorem ztv (w:World) (n:Nat) (_hn:n<=400000000000) (_h1n:1<=n) (l:LaV) (N:Int) (h:LaD n l w) (hs:LaS l) (hT:Tz w) (nr nb nk ng:Nat) (HL:Hid (Lens l nr nb nk ng)) (hk:l.kind=3) (hp:zoF l) (h0:(((nr:Int)==0)=true)) (h1:(((nb:Int)==0)=true)) (h2:(((ng:Int)==0)=false)):Calls Tryz.prog 80 #[lA l nr nb nk ng,.int .i64 N] w fun e w'=>e=.returned (.tuple #[.int .i64 0,.int .i64 0,.bool false])/\Below w.heap.size w w':=by
 have e0:(l.kind==1)=false:=by simp;omega
 have e1:(l.kind==2)=false:=by simp;omega
 have e2:(l.kind==3)=true:=by simp[hk]
 clear hk;have HP:=znd hp;clear hp;have Hs:=znd hs;have HE:=znd (layL l nr nb nk ng (((LaD.old l w h)).and ((hT.old).and ((LaD.iffR h)))));have c:=Env.c1 HE.out;clear h hs hT;unfold lA;go_enter Tryz.func80,Tryz.ntmps80;go_wp2_with fail;refine(ziZ _ l nr nb nk ng HL).mono ?_;rintro e w1 ⟨⟨B,rfl,hB⟩,hb⟩;replace HE:=znd (Env.call HE.out hb);replace c:=Env.c1 HE.out;clear hb;obtain rfl:B=true:=by
  cases B
  ·exact absurd (hB.2 HP.out) (by decide)
  ·rfl
 clear hB;go_wp2_with fail;go_ret3;exact⟨rfl,HE.out.bel⟩
set_option maxRecDepth 100000 in
theorem zsX (w:World) (n:Nat) (_hn:n<=400000000000) (_h1n:1<=n) (l:LaV) (N:Int) (h:LaD n l w) (hs:LaS l) (hT:Tz w) (nr nb nk ng:Nat) (HL:Hid (Lens l nr nb nk ng)) (hk:l.kind=3) (hp:zoF l) (h0:(((nr:Int)==0)=true)) (h1:(((nb:Int)==0)=true)) (h2:(((ng:Int)==0)=true)):Calls Tryz.prog 80 #[lA l nr nb nk ng,.int .i64 N] w fun e w'=>e=.returned (.tuple #[.int .i64 N,.int .i64 0,.bool true])/\Below w.heap.size w w':=by
 have e0:(l.kind==1)=false:=by simp;omega
 have e1:(l.kind==2)=false:=by simp;omega
 have e2:(l.kind==3)=true:=by simp[hk]
 clear hk;have HP:=znd hp;clear hp;have Hs:=znd hs;have HE:=znd (layL l nr nb nk ng (((LaD.old l w h)).and ((hT.old).and ((LaD.iffR h)))));have c:=Env.c1 HE.out;clear h hs hT;unfold lA;go_enter Tryz.func80,Tryz.ntmps80;go_wp2_with fail;refine(ziZ _ l nr nb nk ng HL).mono ?_;rintro e w1 ⟨⟨B,rfl,hB⟩,hb⟩;replace HE:=znd (Env.call HE.out hb);replace c:=Env.c1 HE.out;clear hb;obtain rfl:B=true:=by
  cases B
  ·exact absurd (hB.2 HP.out) (by decide)
  ·rfl
 clear hB;go_wp2_with fail;go_ret3;exact⟨rfl,HE.out.bel⟩
set_option maxRecDepth 100000 in
theorem ztK (w:World) (n:Nat) (hn:n<=400000000000) (h1n:1<=n) (l:LaV) (N:Int) (h:LaD n l w) (hs:LaS l) (hT:Tz w) (nr nb nk ng:Nat) (HL:Hid (Lens l nr nb nk ng)) (hk:l.kind=4):Calls Tryz.prog 80 #[lA l nr nb nk ng,.int .i64 N] w fun e w'=>BehRes (PoolP l N) ng (grS l.grs) e/\Below w.heap.size w w':=by
 have e0:(l.kind==1)=false:=by simp;omega
 have e1:(l.kind==2)=false:=by simp;omega
 have e2:(l.kind==3)=false:=by simp;omega
 have e3:(l.kind==4)=true:=by simp[hk]
 clear hk;have Hs:=znd hs;have HE:=znd (layL l nr nb nk ng (((LaD.old l w h)).and ((hT.old).and ((LaD.iffR h)))));have c:=Env.c1 HE.out;clear h hs hT;unfold lA;go_enter Tryz.func80,Tryz.ntmps80;go_wp2_with fail;refine(zu3 _ n hn h1n l N HE.out.o.1 Hs.out HE.out.o.2.1 nr nb nk ng HL).mono ?_;rintro e w1 ⟨hr,hb⟩;have HR:=znd (show BehRes (PoolP l N) ng (grS l.grs) e from BehRes.iff Iff.rfl hr);replace HE:=znd (Env.call HE.out hb);clear hr hb;rcases HR.out with⟨hP,rfl⟩|⟨hP,rfl⟩
 all_goals
  have HP:=znd hP;clear hP HR;go_wp2_with fail;go_ret3
 ·exact⟨.inl ⟨HP.out,rfl⟩,HE.out.bel⟩
 ·exact⟨.inr ⟨HP.out,rfl⟩,HE.out.bel⟩
set_option maxRecDepth 100000 in
theorem ztQ (w:World) (n:Nat) (_hn:n<=400000000000) (_h1n:1<=n) (l:LaV) (N:Int) (h:LaD n l w) (hs:LaS l) (hT:Tz w) (nr nb nk ng:Nat) (_HL:Hid (Lens l nr nb nk ng)) (hk:¬(l.kind=1\/l.kind=2\/l.kind=3\/l.kind=4)):Calls Tryz.prog 80 #[lA l nr nb nk ng,.int .i64 N] w fun e w'=>e=.returned (.tuple #[.int .i64 0,.int .i64 0,.bool false])/\Below w.heap.size w w':=by
 have e0:(l.kind==1)=false:=by simp;omega
 have e1:(l.kind==2)=false:=by simp;omega
 have e2:(l.kind==3)=false:=by simp;omega
 have e3:(l.kind==4)=false:=by simp;omega
 clear hk;have Hs:=znd hs;have HE:=znd (layL l nr nb nk ng (((LaD.old l w h)).and ((hT.old).and ((LaD.iffR h)))));have c:=Env.c1 HE.out;clear h hs hT;unfold lA;go_enter Tryz.func80,Tryz.ntmps80;go_wp2_with fail;go_ret3;exact⟨rfl,HE.out.bel⟩
theorem zqC (w:World) (n:Nat) (hn:n<=400000000000) (h1n:1<=n) (l:LaV) (N:Int) (h:LaD n l w) (hs:LaS l) (hT:Tz w) (nr nb nk ng:Nat) (HL:Hid (Lens l nr nb nk ng)):Calls Tryz.prog 80 #[lA l nr nb nk ng,.int .i64 N] w fun e w'=>BehRes (Fits w l N) (zoP l N) (zoU l) e/\Below w.heap.size w w':=by
 have no3:¬(zoF l/\l.rows=[]/\l.bias=[]/\l.grs=[])->l.kind=3->¬Fits w l N:=fun h hk hf=>by
  unfold Fits at hf;rcases hf with⟨h1,-⟩|⟨h1,-⟩|⟨-,h1⟩|⟨h1,-⟩
  ·omega
  ·omega
  ·exact h h1
  ·omega
 by_cases k1:l.kind=1
 ·have hiff:AffP w l N↔Fits w l N:=⟨fun h=>.inl ⟨k1,h⟩,fun h=>by rcases h with⟨-,h⟩|⟨h,-⟩|⟨h,-⟩|⟨h,-⟩<;>first|exact h|omega⟩;refine(ztO w n hn h1n l N h hs hT nr nb nk ng HL k1).mono fun e w' he=>⟨?_,he.2⟩;unfold zoP zoU;rw[if_pos k1,if_pos k1,<-HL.out.r];exact he.1.iff hiff
 ·by_cases k2:l.kind=2
  ·have hiff:ConvP w l N↔Fits w l N:=⟨fun h=>.inr (.inl ⟨k2,h⟩),fun h=>by rcases h with⟨h,-⟩|⟨-,h⟩|⟨h,-⟩|⟨h,-⟩<;>first|exact h|omega⟩;refine(zug w n hn h1n l N h hs hT nr nb nk ng HL k2).mono fun e w' he=>⟨?_,he.2⟩;unfold zoP zoU;rw[if_neg k1,if_neg k1,if_pos k2,if_pos k2];exact he.1.iff hiff
  ·by_cases k3:l.kind=3
   ·unfold zoP zoU;rw[if_neg k1,if_neg k1,if_neg k2,if_neg k2,if_pos k3,if_pos k3];by_cases hp:zoF l
    ·by_cases h0:l.rows=[]
     ·by_cases h1:l.bias=[]
      ·by_cases h2:l.grs=[]
       ·exact(zsX w n hn h1n l N h hs hT nr nb nk ng HL k3 hp (lenz HL.out.r h0) (lenz HL.out.b h1) (lenz HL.out.g h2)).mono fun e w' he=>⟨.inl ⟨.inr (.inr (.inl ⟨k3,hp,h0,h1,h2⟩)),he.1⟩,he.2⟩
       ·exact(ztv w n hn h1n l N h hs hT nr nb nk ng HL k3 hp (lenz HL.out.r h0) (lenz HL.out.b h1) (lenn HL.out.g h2)).mono fun e w' he=>BehRes.no (no3 (fun h=>h2 h.2.2.2) k3) he
      ·exact(ztu w n hn h1n l N h hs hT nr nb nk ng HL k3 hp (lenz HL.out.r h0) (lenn HL.out.b h1)).mono fun e w' he=>BehRes.no (no3 (fun h=>h1 h.2.2.1) k3) he
     ·exact(zsH w n hn h1n l N h hs hT nr nb nk ng HL k3 hp (lenn HL.out.r h0)).mono fun e w' he=>BehRes.no (no3 (fun h=>h0 h.2.1) k3) he
    ·exact(ztC w n hn h1n l N h hs hT nr nb nk ng HL k3 hp).mono fun e w' he=>BehRes.no (no3 (fun h=>hp h.1) k3) he
   ·by_cases k4:l.kind=4
    ·have hiff:PoolP l N↔Fits w l N:=⟨fun h=>.inr (.inr (.inr ⟨k4,h⟩)),fun h=>by rcases h with⟨h,-⟩|⟨h,-⟩|⟨h,-⟩|⟨-,h⟩<;>first|exact h|omega⟩;refine(ztK w n hn h1n l N h hs hT nr nb nk ng HL k4).mono fun e w' he=>⟨?_,he.2⟩;unfold zoP zoU;rw[if_neg k1,if_neg k1,if_neg k2,if_neg k2,if_neg k3,if_neg k3,<-HL.out.g];exact he.1.iff hiff
    ·refine(ztQ w n hn h1n l N h hs hT nr nb nk ng HL (by omega)).mono fun e w' he=>BehRes.no (fun h=>?_) he;rcases h with⟨h,-⟩|⟨h,-⟩|⟨h,-⟩|⟨h,-⟩<;>omega

theorem BehRes.yes {P:Prop} {u t:Int} {e:Ending} (h:BehRes P u t e) (hP:P):e=.returned (.tuple #[.int .i64 u,.int .i64 t,.bool true]):=by
 rcases h with⟨-,h⟩|⟨h,-⟩
 ·exact h
 ·exact absurd hP h
theorem BehRes.not {P:Prop} {u t:Int} {e:Ending} (h:BehRes P u t e) (hP:¬P):e=.returned (.tuple #[.int .i64 0,.int .i64 0,.bool false]):=by
 rcases h with⟨h,-⟩|⟨-,h⟩
 ·exact absurd h hP
 ·exact h
structure NeS (f:NeV):Prop where
 n:f.las.length<=100000
 la:∀l∈f.las,LaS l
def zqB:List LaV->Int->List Int
 |[],n=>[n]
 |l::ls,n=>n::zqB ls (zoP l n)
theorem zva {w:World} {l:LaV} {N:Int} (h:Fits w l N) (hs:LaS l) (hN:0<=N/\N<=256):(0<=zoP l N/\zoP l N<=1099511627776)/\(0<=zoU l/\zoU l<=1152921504606846976):=by
 unfold zoP zoU;rcases h with⟨k,h⟩|⟨k,h⟩|⟨k,-⟩|⟨k,h⟩
 ·rw[if_pos k,if_pos k];have h1:0<=veS l.rows/\veS l.rows<=1000*l.rows.length:=zt9 hs.row;have h2:=hs.rows;unfold veS at h1;omega
 ·rw[if_neg (by omega),if_pos k,if_neg (by omega),if_pos k];have hn:=sidesP.nn (l:=l) h.s;have hw:=sidesP.w1 (l:=l) h.s;have h1:=h.pad;have h2:=h.h;have b1:=zpm (h:=l.high) (p:=l.pad) (k:=l.kh) (s:=l.st) (by omega) (by omega) (by omega) (by omega) (by omega);have b2:=zpm (h:=l.wide) (p:=l.pad) (k:=l.kw) (s:=l.st) (by omega) (by omega) (by omega) (by omega) (by omega);have b3:=zti (o:=l.out) (a:=(l.high+2*l.pad-l.kh)/l.st+1) (b:=(l.wide+2*l.pad-l.kw)/l.st+1) (e:=l.ch*l.kh*l.kw) (by omega) (by omega) (by omega) (by omega);unfold zpj zpi;omega
 ·rw[if_neg (by omega),if_neg (by omega),if_pos k,if_neg (by omega),if_neg (by omega),if_pos k];omega
 ·rw[if_neg (by omega),if_neg (by omega),if_neg (by omega),if_neg (by omega),if_neg (by omega),if_neg (by omega)];have h1:0<=grS l.grs/\grS l.grs<=1000*l.grs.length:=zsN hs.gr;have h2:=hs.grs;unfold grS at h1;omega
structure SzI (w:World) (f:NeV) (i:Nat) (N s:Int) (us:List Int):Prop where
 us:∃pre,us=pre++[N]/\pre.length=i/\zqB f.las f.inputs=pre++zqB (f.las.drop i) N
 chk:∀e,ChkP w (f.las.drop i) N s e->ChkP w f.las f.inputs 0 e
 s:0<=s/\s<=16384
 N:0<=N/\N<=256
theorem SzI.len {w:World} {f:NeV} {i:Nat} {N s:Int} {us:List Int} (h:SzI w f i N s us):us.length=i+1:=by
 obtain⟨pre,rfl,h1,-⟩:=h.us;simp[h1]
theorem SzI.at_ {w:World} {f:NeV} {i:Nat} {N s:Int} {us:List Int} (h:SzI w f i N s us):us[i]?=some N:=by
 obtain⟨pre,rfl,h1,-⟩:=h.us;rw[List.getElem?_append_right (by omega)];simp[h1]
theorem SzI.start (w:World) (f:NeV) (h:zrD f):SzI w f 0 f.inputs 0 [f.inputs]:=
 ⟨⟨[],rfl,rfl,by rw[List.drop_zero];rfl⟩,fun e he=>by rwa [List.drop_zero]at he,by omega,by have:=h.1;have:=h.2.1;omega⟩
theorem SzI.no {w:World} {f:NeV} {i:Nat} {N s:Int} {us:List Int} (h:SzI w f i N s us) (hi:i<f.las.length) (hF:¬Fits w f.las[i] N):ChkP w f.las f.inputs 0 22:=by
 refine h.chk 22 ?_;rw[List.drop_eq_getElem_cons hi];exact .inl ⟨hF,rfl⟩
theorem SzI.big {w:World} {f:NeV} {i:Nat} {N s:Int} {us:List Int} (h:SzI w f i N s us) (hi:i<f.las.length) (hF:Fits w f.las[i] N) (hb:256<zoP f.las[i] N\/16384<s+zoU f.las[i]):ChkP w f.las f.inputs 0 25:=by
 refine h.chk 25 ?_;rw[List.drop_eq_getElem_cons hi];exact .inr ⟨hF,.inl ⟨hb,rfl⟩⟩
theorem SzI.next {w:World} {f:NeV} {i:Nat} {N s:Int} {us:List Int} (h:SzI w f i N s us) (hi:i<f.las.length) (hF:Fits w f.las[i] N) (hs:LaS f.las[i]) (hb:¬(256<zoP f.las[i] N\/16384<s+zoU f.las[i])):SzI w f (i+1) (zoP f.las[i] N) (s+zoU f.las[i]) (us++[zoP f.las[i] N]):=by
 have hbb:=zva hF hs h.N;have hss:=h.s;refine⟨?_,fun e he=>h.chk e ?_,by omega,by omega⟩
 ·obtain⟨pre,rfl,h1,h2⟩:=h.us;refine⟨pre++[N],rfl,by simp[h1],?_⟩;rw[h2,List.drop_eq_getElem_cons hi];simp[zqB]
 ·rw[List.drop_eq_getElem_cons hi];exact .inr ⟨hF,.inr ⟨hb,he⟩⟩
theorem SzI.done {w:World} {f:NeV} {N s:Int} {us:List Int} (h:SzI w f f.las.length N s us):ChkP w f.las f.inputs 0 0/\us=zqB f.las f.inputs:=by
 refine⟨h.chk 0 (by rw[List.drop_length];rfl),?_⟩;obtain⟨pre,rfl,-,h2⟩:=h.us;rw[h2,List.drop_length];rfl
def SizRes (f:NeV) (w:World) (e:Ending) (w':World):Prop:=
 ∃A c us err,e=.returned (.tuple #[.slice A (List.length us) c,.int .i64 err])/\NetP w f err/\(err=0->us=zqB f.las f.inputs)/\(err≠0->us=[])/\List.length us<=c/\Rests w' (w.heap.size<=·) (LsR 1 zoA okI A us)/\Below w.heap.size w w'
theorem SizRes.err {f:NeV} {w w':World} {k:Int} (hk:k≠0) (h:NetP w f k) (hb:Below w.heap.size w w'):SizRes f w (.returned (.tuple #[.slice none 0 0,.int .i64 k])) w':=
 ⟨none,0,[],k,rfl,h,fun e=>absurd e hk,fun _=>rfl,Nat.le_refl _,⟨LsR.nil_ _,fun _ _=>LsR.nil_ _⟩,hb⟩
theorem GL.appI {w W W':World} {ls:List Ow} {bs:List Bo} {old new old' new':World->Prop} {A:Option Addr} {c:Nat} {os:List Int} (h:GL w (⟨3,1,.slice A os.length c,os.map zoA⟩::ls) old new W) (he:Env W bs old' new' W') (x:Int) (hl:os.length<=1000000):
 ∃A' c' w',(Builtin.append_ #[58,58] 58 #[.slice A os.length c,.slice (some ⟨W'.heap.size,0,none⟩) 1 1]).run Tryz.prog (W'.alloc (.cells (zoA x) 3))=.ok (.slice A' (os++[x]).length c') w'/\GL w (⟨3,1,.slice A' (os++[x]).length c',(os++[x]).map zoA⟩::ls) old (fun V=>new' V/\new V) w':=by
 obtain⟨v',w',hrun,hG⟩:=GL.app (P:=Tryz.prog) zes zqg rfl (by decide) h he (zoA x) rfl (by simp[zoA,Value.oneCell']) (by simp;omega) (by simp[maxLen];omega);obtain⟨A',c',hv,-⟩:=(hG.own _ (List.mem_cons_self ..)).form;have hv':v'=.slice A' (os++[x]).length c':=by rw[show v'=_ from hv];simp
 subst hv';refine⟨A',c',w',hrun,?_⟩;have e:(os++[x]).map zoA=os.map zoA++[zoA x]:=by simp
 rw[e];exact hG
set_option maxRecDepth 100000 in
theorem zsJ (w:World) (n:Nat) (hn:n<=400000000000) (h1n:1<=n) (f:NeV) (h:NeD n f w) (hs:NeS f) (hT:Tz w) (nl:Nat) (hnl:nl=f.las.length):Calls Tryz.prog 44 #[.agg #[.int .i64 f.inputs,.slice f.A nl f.c]] w (SizRes f w):=by
 have Hl:=znd hnl;have Hs:=znd hs;have Hw:=znd h;have sl1:=h.sl;rw[<-hnl]at sl1;have hsz1:=zpP;have hszi:=zcX;have hadd:=zaa;obtain⟨W0,hW0⟩:∃W0,W0=(w.alloc (.cells #[.int .i64 f.inputs,.slice f.A nl f.c] 24)):=⟨_,rfl⟩;have HE:=znd (Env.lay1 (Env.start ((h.old).and (hT.old))) hW0);subst hW0;have c:=Env.c1 HE.out;clear h hs hT hnl;go_enter Tryz.func44,Tryz.ntmps44;go_upto_region 1 with fail;by_cases q0:f.inputs<1
 ·have H0:=znd q0;go_wp2_with fail;go_ret2;exact SizRes.err (by decide) (.inl ⟨fun h=>by have:=h.1;have:=H0.out;omega,rfl⟩) HE.out.bel
 ·have H0:=znd q0;by_cases q1:f.inputs>64
  ·have H1:=znd q1;go_wp2_with fail;go_ret2;exact SizRes.err (by decide) (.inl ⟨fun h=>by have:=h.2.1;have:=H1.out;omega,rfl⟩) HE.out.bel
  ·have H1:=znd q1;by_cases q2:16<nl
   ·have H2:=znd q2;go_wp2_with fail;go_ret2;exact SizRes.err (by decide) (.inl ⟨fun h=>by have:=h.2.2;have:=H2.out;have:=Hl.out;omega,rfl⟩) HE.out.bel
   ·have H2:=znd q2;have Hz:=znd (show zrD f from by have:=H0.out;have:=H1.out;have:=H2.out;have:=Hl.out;unfold zrD;omega);go_upto_region 6 with fail;clear q0 q1 q2;have HG:=znd ((GL.start HE.out).addb 3 #[.int .i64 f.inputs]);have hsw:(w.alloc (.cells #[.int .i64 f.inputs,.slice f.A nl f.c] 24)).heap.size=w.heap.size+1:=by simp
    rw[hsw]at HG;clear hsw HE c;go_loopw [4,5,31] (fun ov sv iv wr=>∃(Ao:Option Addr) (co i:Nat) (us:List Int) (N s:Int),ov=.slice Ao us.length co/\sv=.int .i64 s/\iv=.int .i64 (i:Int)/\i<=nl/\Hid (SzI w f i N s us)/\Hid (GL w [⟨3,1,.slice Ao us.length co,us.map zoA⟩] (fun V=>(∀b∈[(⟨w.heap.size,24,#[.int .i64 f.inputs,.slice f.A nl f.c]⟩:Bo)],Blk V b.g b.t b.cs)/\NeD n f V/\Tz V) (fun _=>True) wr)) (fun _ _ iv _=>nl-(intOf iv).toNat)
    case atStart=>exact⟨_,_,0,[f.inputs],f.inputs,0,rfl,rfl,rfl,Nat.zero_le _,znd (SzI.start w f Hz.out),HG⟩
    case round=>
     clear HG;obtain⟨Ao,co,i,us,N,s,rfl,rfl,rfl,hi,HI,HG⟩:=hrel;by_cases hlt:i<nl
     ·have hlt2:i<f.las.length:=by rw[<-Hl.out];exact hlt
      have hel:=(show OwnE wr w.heap.size 3 1 (.slice Ao us.length co) (us.map zoA)from HG.out.own _ (List.mem_cons_self ..)).el.1;have HE:=znd (Env.start (((HG.out.rso.lt.mono fun _ hn=>hn.2).and (HG.out.rsn.lt.mono fun _ hn=>hn.2)).and hel.old));have slo:Sl Ao us.length:=by have h9:=hel.sl;rwa [List.length_map]at h9
      have hiu:i<us.length:=by rw[HI.out.len];omega
      have HC:=znd (fun(V:World) (h:El V 1 Ao (us.map zoA))=>show V.cell? (adr Ao i)=some (.int .i64 N)from by
       have h9:=h.cell i (by simpa using hiu) 0 (by decide);rw[Nat.mul_one,Nat.add_zero,List.getElem_map]at h9;rw[h9];have h8:=HI.out.at_;rw[List.getElem?_eq_getElem hiu]at h8;rw[show us[i]=N from by simpa using h8];rfl)
      have cl:=HE.out.o.1.1.2.1.lac i hlt2;have HY:=znd (fun h1 h2=>SzI.next HI.out hlt2 h1 (Hs.out.la _ (List.getElem_mem hlt2)) h2);have HN:=znd (fun h1=>SzI.no HI.out hlt2 h1);have HB:=znd (fun h1 h2=>SzI.big HI.out hlt2 h1 h2);have Hbb:=znd (fun(h1:Fits w (f.las[i]'hlt2) N)=>zva (w:=w) (l:=f.las[i]'hlt2) h1 (Hs.out.la _ (List.getElem_mem hlt2)) HI.out.N);have HLd:=znd (show LaD n f.las[i] w from Hw.out.ok _ (List.getElem_mem hlt2));obtain⟨l,hl⟩:∃l,l=f.las[i]:=⟨_,rfl⟩;rw[<-hl]at cl HY HN HB Hbb HLd;have Hm:=znd (show l∈f.las by rw[hl];exact List.getElem_mem hlt2);clear hl hel;go_upto_region 8 with fail;obtain⟨W2,gl,hW2,hgl,HE⟩:=Env.al HE.out 49 #[.int .u8 l.kind,.slice l.Ar l.rows.length l.cr,.slice l.Ab l.bias.length l.cb,.int .i64 l.ch,.int .i64 l.high,.int .i64 l.wide,.int .i64 l.out,.int .i64 l.kh,.int .i64 l.kw,.int .i64 l.st,.int .i64 l.pad,.slice l.Ak l.kern.length l.ck,.slice l.Ag l.grs.length l.cg];rw[hW2,hgl];clear hW2 hgl cl;have HCC:=znd (fun(V:World) (c:CB gl #[.int .u8 l.kind,.slice l.Ar l.rows.length l.cr,.slice l.Ab l.bias.length l.cb,.int .i64 l.ch,.int .i64 l.high,.int .i64 l.wide,.int .i64 l.out,.int .i64 l.kh,.int .i64 l.kw,.int .i64 l.st,.int .i64 l.pad,.slice l.Ak l.kern.length l.ck,.slice l.Ag l.grs.length l.cg] V) (d:El V 1 Ao (us.map zoA))=>And.intro c (HC.out V d));have c:=HCC.out _ (Env.c1 HE.out) HE.out.o.2;by_cases hF:Fits w l N
      ·have HF:=znd hF;clear hF
       go_region_held3 (fun W=>CB gl #[.int .u8 l.kind,.slice l.Ar l.rows.length l.cr,.slice l.Ab l.bias.length l.cb,.int .i64 l.ch,.int .i64 l.high,.int .i64 l.wide,.int .i64 l.out,.int .i64 l.kh,.int .i64 l.kw,.int .i64 l.st,.int .i64 l.pad,.slice l.Ak l.kern.length l.ck,.slice l.Ag l.grs.length l.cg] W/\W.cell? (adr Ao i)=some (.int .i64 N)) (first|with_reducible exact c|((repeat' apply And.intro)<;>go_keep)|exact HCC.out _ (Env.c1 HE.out.drew) HE.out.drew.o.2)
        (first
         |(go_at_call 80;go_must (refine(zqC _ n hn h1n l N (HE.out.wd.o.1.1.2.1.ok l Hm.out) (Hs.out.la l Hm.out) (HE.out.wd.o.1.1.2.2) _ _ _ _ (znd (Lens.of l))).mono ?_;rintro e w1 ⟨hr,hb⟩;have he:=hr.yes ((Fits.same HLd.out (Below.after HG.out.bel HE.out.wd.bel)).2 HF.out);subst he;replace HE:=znd (Env.cx HE.out hb);replace c:=HCC.out _ (Env.c1 HE.out) HE.out.o.2;clear hr hb)))
       have hbb:=Hbb.out HF.out;have hI:=HI.out.s;obtain⟨u,hu⟩:∃u,u=zoP l N:=⟨_,rfl⟩;obtain⟨t,ht⟩:∃t,t=zoU l:=⟨_,rfl⟩;rw[<-hu,<-ht]at hbb HY HB⊢;have w1:IntKind.i64.wrap (s+t)=s+t:=zcs (by omega);clear hu ht hbb hI;go_upto_region 12 with fail;by_cases b0:u>256
       ·have H9:=znd (HB.out HF.out (.inl b0));go_wp2_with fail;go_ret2;exact SizRes.err (by decide) (.inr ⟨Hz.out,H9.out⟩) (Below.after HG.out.bel (HE.out.wd.bel))
       ·by_cases b1:s+t>16384
        ·have H9:=znd (HB.out HF.out (.inr b1));go_wp2_with fail;go_ret2;exact SizRes.err (by decide) (.inr ⟨Hz.out,H9.out⟩) (Below.after HG.out.bel (HE.out.wd.bel))
        ·have H9:=znd (HY.out HF.out (by omega));have hus:=HI.out.len;have hi16:=H2.out;obtain⟨A',c',w8,hrun,hG⟩:=GL.appI HG.out HE.out u (by omega);have Hrun:=znd hrun;have HG2:=znd hG;clear hrun hG hus hi16;go_wp2_with (at_builtin;refine zac rfl (.tmp 57) (.tmp 59) 58 _ _ _ rfl rfl rfl Hrun.out ?_);clear Hrun c;go_wp2_with fail;go_roundw
         case rel=>exact⟨A',c',i+1,us++[u],u,s+t,by simp,rfl,by go_num,by omega,H9,znd (HG2.out.imp (fun _ h=>h) (fun _ _=>trivial))⟩
         case measure=>(simp[intOf]<;>omega)
      ·have HF:=znd hF;clear hF
       go_region_held3 (fun W=>CB gl #[.int .u8 l.kind,.slice l.Ar l.rows.length l.cr,.slice l.Ab l.bias.length l.cb,.int .i64 l.ch,.int .i64 l.high,.int .i64 l.wide,.int .i64 l.out,.int .i64 l.kh,.int .i64 l.kw,.int .i64 l.st,.int .i64 l.pad,.slice l.Ak l.kern.length l.ck,.slice l.Ag l.grs.length l.cg] W/\W.cell? (adr Ao i)=some (.int .i64 N)) (first|with_reducible exact c|((repeat' apply And.intro)<;>go_keep)|exact HCC.out _ (Env.c1 HE.out.drew) HE.out.drew.o.2)
        (first
         |(go_at_call 80;go_must (refine(zqC _ n hn h1n l N (HE.out.wd.o.1.1.2.1.ok l Hm.out) (Hs.out.la l Hm.out) (HE.out.wd.o.1.1.2.2) _ _ _ _ (znd (Lens.of l))).mono ?_;rintro e w1 ⟨hr,hb⟩;have he:=hr.not (fun h9=>HF.out ((Fits.same HLd.out (Below.after HG.out.bel HE.out.wd.bel)).1 h9));subst he;replace HE:=znd (Env.cx HE.out hb);replace c:=HCC.out _ (Env.c1 HE.out) HE.out.o.2;clear hr hb)))
       have H9:=znd (HN.out HF.out);go_wp2_with fail;go_ret2;exact SizRes.err (by decide) (.inr ⟨Hz.out,H9.out⟩) (Below.after HG.out.bel (HE.out.wd.bel))
     ·obtain rfl:i=nl:=by omega
      have hI:=HI.out;have hll:=Hl.out;rw[hll]at hI;have HD:=znd hI.done;clear hI hll;obtain⟨A',c',hv,hc,hr⟩:=HG.out.tell (cells:=zoA) (ok:=okI) (l:=us) (fun V _ _ _=>trivial);obtain⟨rfl,rfl⟩:Ao=A'/\co=c':=by simpa using hv
      have Hr:=znd hr;have Hbel:=znd HG.out.bel;clear hr hv HG;go_wp2_with fail;go_ret2;exact⟨Ao,co,us,0,rfl,.inr ⟨Hz.out,HD.out.1⟩,fun _=>HD.out.2,fun h9=>absurd rfl h9,hc,Hr.out,Hbel.out⟩

def NErr (f:NeV) (w:World) (e:Ending):Prop:=∃err,e=.returned (.int .i64 err)/\NetP w f err
theorem NeD.iffR {n:Nat} {f:NeV} {w:World} (h:NeD n f w):Rests w (·<w.heap.size) (fun V=>∀e,NetP V f e↔NetP w f e):=by
 have hl:Rests w (·<w.heap.size) (fun V=>∀l∈f.las,LaI w l V):=Rests.all (φ:=fun l V=>LaI w l V) fun l hl=>LaD.iffR (h.ok l hl);have hF:∀{V:World} {l:LaV},LaI w l V->∀N,Fits V l N↔Fits w l N:=fun{V l} hI N=>by
  have h1:AffP V l N↔AffP w l N:=⟨fun h=>⟨h.p,h.g,h.r,h.b,fun v hv=>(hI.rows v hv N).1 (h.er v hv),fun p hp=>(hI.bias p hp).1 (h.eb p hp)⟩,fun h=>⟨h.p,h.g,h.r,h.b,fun v hv=>(hI.rows v hv N).2 (h.er v hv),fun p hp=>(hI.bias p hp).2 (h.eb p hp)⟩⟩;have h2:ConvP V l N↔ConvP w l N:=⟨fun h=>⟨h.s,h.pad,h.n,h.h,h.k,h.b,h.e,fun p hp=>(hI.kern p hp).1 (h.ek p hp),fun p hp=>(hI.bias p hp).1 (h.eb p hp)⟩,fun h=>⟨h.s,h.pad,h.n,h.h,h.k,h.b,h.e,fun p hp=>(hI.kern p hp).2 (h.ek p hp),fun p hp=>(hI.bias p hp).2 (h.eb p hp)⟩⟩;unfold Fits;rw[h1,h2]
 have hC:∀{V:World} (ls:List LaV),(∀l∈ls,LaI w l V)->∀N s e,ChkP V ls N s e↔ChkP w ls N s e:=fun{V} ls=>by
  induction ls with
  |nil=>intro _ N s e;exact Iff.rfl
  |cons l ls ih=>
   intro hI N s e;unfold ChkP;rw[hF (hI l (List.mem_cons_self ..)),ih (fun l hl=>hI l (List.mem_cons_of_mem _ hl))]
 refine hl.imp fun V hV e=>?_;unfold NetP;rw[hC f.las hV]
set_option maxRecDepth 100000 in
theorem zxF (w:World) (n:Nat) (hn:n<=400000000000) (h1n:1<=n) (f:NeV) (h:NeD n f w) (hs:NeS f) (hT:Tz w) (nl:Nat) (hnl:nl=f.las.length):Calls Tryz.prog 25 #[.agg #[.int .i64 f.inputs,.slice f.A nl f.c]] w fun e w'=>NErr f w e/\Below w.heap.size w w':=by
 have Hw:=znd h;have Hs:=znd hs;have Hl:=znd hnl;obtain⟨W0,hW0⟩:∃W0,W0=(w.alloc (.cells #[.int .i64 f.inputs,.slice f.A nl f.c] 24)):=⟨_,rfl⟩;have HE:=znd (Env.lay1 (Env.start ((h.old).and ((hT.old).and ((NeD.iffR h))))) hW0);subst hW0;have c:=Env.c1 HE.out;clear h hs hT hnl;go_enter Tryz.func25,Tryz.ntmps25;go_wp2_with fail;refine(zsJ _ n hn h1n f HE.out.o.1 Hs.out HE.out.o.2.1 nl Hl.out).mono ?_;rintro e w1 ⟨A,c1,us,err,rfl,hN,hu,hu0,hc,hr,hb⟩;have HN:=znd ((HE.out.o.2.2 err).1 hN);have HU:=znd hu;have HU0:=znd hu0;have Hc:=znd hc;replace HE:=znd (Env.ret HE.out hr hb);clear hN hu hu0 hr hb hc c;go_wp2_with fail;go_ret;exact⟨⟨err,rfl,HN.out⟩,HE.out.bel⟩
end Go.Proofs.YtegfiemlnnpidaaGreatDoor
