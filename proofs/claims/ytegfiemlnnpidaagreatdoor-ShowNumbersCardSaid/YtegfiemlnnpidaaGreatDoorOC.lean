/-
 tripwireref11: the reader in memory; bad, fail, sees, number, step, take, rat, small. tripwireref11: step, take, rat, small.
-/
import Derived.Test.YtegfiemlnnpidaaGreatDoorUS
import Derived.Test.YtegfiemlnnpidaaGreatDoorUB
import Derived.Test.YtegfiemlnnpidaaGreatDoorTT
namespace Go.Proofs.YtegfiemlnnpidaaGreatDoor
set_option maxHeartbeats 4000000
open Go.RowKit

structure RK where
 w:World
 g:Nat
 b:Nat
 c:Nat
 ps:List (Tk×RV)
 old:World->Prop
def RK.ts (K:RK):List Tk:=K.ps.map Prod.fst
structure RK.Ok (K:RK):Prop where
 tok:∀V,K.old V->TokR V (some ⟨K.b,0,none⟩) K.ps
 c:K.ps.length<=K.c
 n:K.ps.length<=1000000
 e:∀i,i+1=K.ps.length->(tkA K.ts i).kind=1
 ln:∀t∈K.ts,t.line<=1000000
 sz:∀t∈K.ts,Sz t.x 1000
def rvA (K:RK) (i:Nat):RV:=((K.ps[i]?).map Prod.snd).getD za9
@[reducible] def rdC (K:RK) (s:Rz):Array Value:=#[.slice (some ⟨K.b,s.i*7,none⟩) (K.ps.length-s.i) (K.c-s.i),.int .i64 (s.e:Nat),.int .i64 (s.ln:Nat)]
structure RG (K:RK) (s:Rz) (ls:List Ow) (new:World->Prop) (W:World):Prop where
 gl:GL K.w (bow K.g 115 3 (rdC K s)::ls) K.old new W
 i:s.i<K.ps.length
@[reducible] def TkC (A:Option Addr) (t:Tk) (r:RV) (W:World):Prop:=
 W.cell? (adr A 0)=some (.int .u8 (t.kind:Nat))/\W.cell? (adr A 1)=some (.string (bA t.s))/\W.cell? (adr A 2)=some (.bool r.num.neg)/\W.cell? (adr A 3)=some (.slice r.num.A r.num.k r.num.c)/\W.cell? (adr A 4)=some (.bool r.den.neg)/\W.cell? (adr A 5)=some (.slice r.den.A r.den.k r.den.c)/\W.cell? (adr A 6)=some (.int .i64 (t.line:Nat))
section
variable {K:RK} {s:Rz} {ls:List Ow} {new ψ:World->Prop} {W W':World}
theorem RK.at_ (K:RK) {i:Nat} (h:i<K.ps.length):tkA K.ts i=(K.ps[i]).1/\rvA K i=(K.ps[i]).2:=by
 unfold tkA rvA RK.ts;constructor<;>simp[h]
theorem RK.Ok.tk (hK:K.Ok) {V:World} (h:K.old V) {i:Nat} (hi:i<K.ps.length):TkC (some ⟨K.b,i*7,none⟩) (tkA K.ts i) (rvA K i) V:=by
 have hc:=(hK.tok V h).cells i hi;obtain⟨e1,e2⟩:=K.at_ hi;simp only[za6,Nat.zero_add]at hc;rw[e1,e2];simp only[TkC,za6,Nat.add_zero];exact hc
theorem RK.Ok.num (hK:K.Ok) {V:World} (h:K.old V) {i:Nat} (hi:i<K.ps.length):RatN (rvA K i) (tkA K.ts i).x V:=by
 obtain⟨e1,e2⟩:=K.at_ hi;rw[e1,e2];exact(hK.tok V h).num _ (List.getElem_mem hi)
theorem RK.mem (K:RK) {i:Nat} (h:i<K.ps.length):tkA K.ts i∈K.ts:=by
 rw[(K.at_ h).1];exact List.mem_map_of_mem (List.getElem_mem h)
theorem RG.cb (h:RG K s ls new W):CB K.g (rdC K s) W:=h.gl.cb (k:=0) rfl
theorem RG.tk (h:RG K s ls new W) (hK:K.Ok):TkC (some ⟨K.b,s.i*7,none⟩) (tkA K.ts s.i) (rvA K s.i) W:=hK.tk h.gl.o h.i
theorem RG.drew (h:RG K s ls new W):RG K s ls new W.drew:=⟨h.gl.drew,h.i⟩
theorem RG.wd {V:World} (h:RG K s ls new W) (e:V=W\/V=W.drew:=by first|with_reducible exact .inl rfl|with_reducible exact .inr rfl):RG K s ls new V:=by
 rcases e with rfl|rfl
 ·exact h
 ·exact h.drew
theorem RG.cl (h:RG K s ls new W) (hb:Below W.heap.size W W'):RG K s ls new W':=⟨h.gl.cl hb,h.i⟩
theorem RG.imp (h:RG K s ls new W) (hn:∀V,new V->ψ V):RG K s ls ψ W:=⟨h.gl.imp (fun _ h=>h) hn,h.i⟩
end
theorem zwg (w:World):(sizeOf (Tryz.prog.elem 110)).run Tryz.prog w=.ok 7 w:=by kernel_rfl
section
variable {w W:World} {ls:List Ow} {old new:World->Prop}
theorem GL.bc {k g i sz:Nat} {e:TypeId} {c0:Array Value} (h:GL w ls old new W) (hk:ls[k]?=some (bow g e sz c0)) (hi:i<sz) (u:Value):GL w (ls.set k (bow g e sz (c0.setIfInBounds i u))) old new (W.setCell ⟨g,i,none⟩ u):=by
 have h0:=h.setg (i:=0) (j:=i) hk (by simp) hi u;simp only[Nat.zero_mul,Nat.zero_add,List.getElem_cons_zero,List.set_cons_zero]at h0;exact h0
theorem GL.bcs {k g sz:Nat} {e:TypeId}:∀{c0:Array Value} {ls:List Ow} {W:World} (_:GL w ls old new W) (_:ls[k]?=some (bow g e sz c0)) (us:List (Nat×Value)) (_:∀p∈us,p.1<sz),GL w (ls.set k (bow g e sz (us.foldl (fun c p=>c.setIfInBounds p.1 p.2) c0))) old new (us.foldl (fun V p=>V.setCell ⟨g,p.1,none⟩ p.2) W)
 |_,_,_,h,hk,[],_=>by obtain⟨h1,h2⟩:=List.getElem?_eq_some_iff.1 hk;rw[List.foldl_nil,List.foldl_nil,<-h2,List.set_getElem_self];exact h
 |_,_,_,h,hk,u::us,hi=>by
  have h1:=GL.bcs (h.bc hk (hi u (List.mem_cons_self ..)) u.2) (zaQ _ _ _ _ hk) us (fun p hp=>hi p (List.mem_cons_of_mem _ hp));rw[List.set_set]at h1;exact h1
theorem GL.ab (h:GL w ls old new W) (e:TypeId) (c:Array Value):∃W' g,W.alloc (.cells c e)=W'/\W.heap.size=g/\Hid (GL w (bow g e c.size c::ls) old new W'):=⟨_,_,rfl,rfl,znd (h.addb e c)⟩
end
set_option maxRecDepth 100000 in
theorem zwp (K:RK) (_hK:K.Ok) (s:Rz) {ls:List Ow} {new:World->Prop} {W:World} (h:RG K s ls new W) (B:Bool) (hB:B=(((s.e:Nat):Int) != 0)):Calls Tryz.prog 72 #[.pointer (some ⟨K.g,0,none⟩)] W fun e W'=>e=.returned (.bool B)/\RG K s ls new W':=by
 have c:=h.cb;have HG:=znd h;have Hb:=znd hB;clear h hB;go_enter Tryz.func72,Tryz.ntmps72;go_wp2_with fail;go_ret;exact⟨by rw[Hb.out];rfl,HG.out⟩
theorem zyr (a b:Nat):(((a:Nat):Int)==(b:Int))=(a==b):=by
 by_cases h:a=b
 ·subst h;simp
 ·rw[beq_eq_false_iff_ne.2 h,beq_eq_false_iff_ne];omega
theorem zym (l:List UInt8):(bA l).toList=l:=by rw[ByteArray.toList_eq];simp[bA]
theorem badT {s:Rz} (h:¬s.e=0):true=(((s.e:Nat):Int) != 0):=by simp;omega
theorem badF {s:Rz} (h:s.e=0):false=(((s.e:Nat):Int) != 0):=by simp;omega
set_option maxRecDepth 100000 in
theorem zwq (K:RK) (hK:K.Ok) (s:Rz) {ls:List Ow} {new:World->Prop} {W:World} (h:RG K s ls new W) (k:Nat):Calls Tryz.prog 77 #[.pointer (some ⟨K.g,0,none⟩),.int .i64 (k:Nat)] W fun e W'=>(∃v,e=.returned v)/\RG K (s.fail K.ts k) ls new W':=by
 have ct:=h.tk hK;have hnn:0<K.ps.length-s.i:=by have:=h.i;omega
 have c:=h.cb;have hsz7:=zwg;have hadd:=zaa;have HG:=znd h;obtain⟨A,hA⟩:∃A,A=some (⟨K.b,s.i*7,none⟩:Addr):=⟨_,rfl⟩;have sla:Sl A (K.ps.length-s.i):=by rw[hA];exact Sl.some_ _ _ _
 have Ha:=znd hA;unfold rdC at c;rw[<-hA]at c ct;clear hA h;obtain⟨n,hn⟩:∃n,n=K.ps.length-s.i:=⟨_,rfl⟩;rw[<-hn]at c sla hnn;have hn1:(0:Int)<(n:Int):=by omega
 have Hn:=znd hn;clear hn;obtain⟨t,ht⟩:∃t,t=tkA K.ts s.i:=⟨_,rfl⟩;obtain⟨r,hr⟩:∃r,r=rvA K s.i:=⟨_,rfl⟩;rw[<-ht,<-hr]at ct;have Ht:=znd ht;have Hr:=znd hr;clear ht hr;dsimp only[TkC]at ct;go_enter Tryz.func77,Tryz.ntmps77;by_cases he:s.e=0
 ·have He:=znd he;clear he;go_wp2_with fail;refine(zwp K hK s HG.out false (badF He.out)).mono ?_;rintro e W1 ⟨rfl,h1⟩;have ct1:=h1.tk hK;have c1:=h1.cb;unfold rdC at c1;rw[<-Ha.out]at c1 ct1;rw[<-Hn.out]at c1;rw[<-Ht.out,<-Hr.out]at ct1;dsimp only[TkC]at ct1;have HG1:=znd h1;clear h1 c ct HG;go_wp2_with fail;have h2:=(HG1.out.gl.bc (k:=0) rfl (i:=1) (by decide) (.int .i64 (k:Nat))).bc (k:=0) rfl (i:=2) (by decide) (.int .i64 (t.line:Nat));go_wp2_with fail
  first|exact bodyPost_end (v:=.tuple #[]) (by simp[results,Tryz.results77,go_sem]) rfl ⟨⟨_,rfl⟩,by rw[Rz.fail,if_pos He.out,<-Ht.out];exact⟨h2,HG1.out.i⟩⟩|exact bodyPost_ret (v:=.tuple #[]) (by simp[results,Tryz.results77,go_sem]) rfl ⟨⟨_,rfl⟩,by rw[Rz.fail,if_pos He.out,<-Ht.out];exact⟨h2,HG1.out.i⟩⟩
 ·have He:=znd he;clear he;go_wp2_with fail;refine(zwp K hK s HG.out true (badT He.out)).mono ?_;rintro e W1 ⟨rfl,h1⟩;have HG1:=znd h1;clear h1 c ct HG;go_wp2_with fail
  first|exact bodyPost_end (v:=.tuple #[]) (by simp[results,Tryz.results77,go_sem]) rfl ⟨⟨_,rfl⟩,by rw[Rz.fail,if_neg He.out];exact HG1.out⟩|exact bodyPost_ret (v:=.tuple #[]) (by simp[results,Tryz.results77,go_sem]) rfl ⟨⟨_,rfl⟩,by rw[Rz.fail,if_neg He.out];exact HG1.out⟩
set_option maxRecDepth 100000 in
theorem zwM (K:RK) (hK:K.Ok) (s:Rz) {ls:List Ow} {new:World->Prop} {W:World} (h:RG K s ls new W):Calls Tryz.prog 109 #[.pointer (some ⟨K.g,0,none⟩)] W fun e W'=>e=.returned (.bool (s.num K.ts))/\RG K s ls new W':=by
 have ct:=h.tk hK;have hnn:0<K.ps.length-s.i:=by have:=h.i;omega
 have c:=h.cb;have hsz7:=zwg;have hadd:=zaa;have HG:=znd h;obtain⟨A,hA⟩:∃A,A=some (⟨K.b,s.i*7,none⟩:Addr):=⟨_,rfl⟩;have sla:Sl A (K.ps.length-s.i):=by rw[hA];exact Sl.some_ _ _ _
 have Ha:=znd hA;unfold rdC at c;rw[<-hA]at c ct;clear hA h;obtain⟨n,hn⟩:∃n,n=K.ps.length-s.i:=⟨_,rfl⟩;rw[<-hn]at c sla hnn;have hn1:(0:Int)<(n:Int):=by omega
 have Hn:=znd hn;clear hn;obtain⟨t,ht⟩:∃t,t=tkA K.ts s.i:=⟨_,rfl⟩;obtain⟨r,hr⟩:∃r,r=rvA K s.i:=⟨_,rfl⟩;rw[<-ht,<-hr]at ct;have Ht:=znd ht;have Hr:=znd hr;clear ht hr;dsimp only[TkC]at ct;go_enter Tryz.func109,Tryz.ntmps109;by_cases he:s.e=0
 ·have He:=znd he;clear he;have HN:=znd (show s.num K.ts=(((t.kind:Nat):Int)==3)from by unfold Rz.num;rw[decide_eq_true He.out,Bool.true_and,<-Ht.out];exact(zyr t.kind 3).symm);rw[HN.out];go_wp2_with fail;refine(zwp K hK s HG.out false (badF He.out)).mono ?_;rintro e W1 ⟨rfl,h1⟩;have ct1:=h1.tk hK;have c1:=h1.cb;unfold rdC at c1;rw[<-Ha.out]at c1 ct1;rw[<-Hn.out]at c1;rw[<-Ht.out,<-Hr.out]at ct1;dsimp only[TkC]at ct1;have HG1:=znd h1;clear h1 c ct HG;go_wp2_with fail;go_ret;exact⟨rfl,HG1.out⟩
 ·have He:=znd he;clear he;have HN:=znd (show s.num K.ts=false from by unfold Rz.num;rw[decide_eq_false He.out];rfl);rw[HN.out];go_wp2_with fail;refine(zwp K hK s HG.out true (badT He.out)).mono ?_;rintro e W1 ⟨rfl,h1⟩;have HG1:=znd h1;clear h1 c ct HG;go_wp2_with fail;go_ret;exact⟨rfl,HG1.out⟩
set_option maxRecDepth 100000 in
theorem zwa (K:RK) (hK:K.Ok) (s:Rz) {ls:List Ow} {new:World->Prop} {W:World} (h:RG K s ls new W) (k:List UInt8):Calls Tryz.prog 73 #[.pointer (some ⟨K.g,0,none⟩),.string (bA k)] W fun e W'=>e=.returned (.bool (s.sees K.ts k))/\RG K s ls new W':=by
 have ct:=h.tk hK;have hnn:0<K.ps.length-s.i:=by have:=h.i;omega
 have c:=h.cb;have hsz7:=zwg;have hadd:=zaa;have HG:=znd h;obtain⟨A,hA⟩:∃A,A=some (⟨K.b,s.i*7,none⟩:Addr):=⟨_,rfl⟩;have sla:Sl A (K.ps.length-s.i):=by rw[hA];exact Sl.some_ _ _ _
 have Ha:=znd hA;unfold rdC at c;rw[<-hA]at c ct;clear hA h;obtain⟨n,hn⟩:∃n,n=K.ps.length-s.i:=⟨_,rfl⟩;rw[<-hn]at c sla hnn;have hn1:(0:Int)<(n:Int):=by omega
 have Hn:=znd hn;clear hn;obtain⟨t,ht⟩:∃t,t=tkA K.ts s.i:=⟨_,rfl⟩;obtain⟨r,hr⟩:∃r,r=rvA K s.i:=⟨_,rfl⟩;rw[<-ht,<-hr]at ct;have Ht:=znd ht;have Hr:=znd hr;clear ht hr;dsimp only[TkC]at ct;go_enter Tryz.func73,Tryz.ntmps73;by_cases he:s.e=0
 ·have He:=znd he;clear he;have HN:=znd (show s.sees K.ts k=((((t.kind:Nat):Int)==2||((t.kind:Nat):Int)==4)&&(t.s==k))from by unfold Rz.sees;rw[decide_eq_true He.out,Bool.true_and,<-Ht.out,<-zyr t.kind 2,<-zyr t.kind 4];rfl);have HB:=znd (show(t.s==k)=((bA t.s).toList==(bA k).toList)from by rw[zym,zym]);rw[HN.out,HB.out]
  cases hk2:((t.kind:Nat):Int)==2
  ·cases hk4:((t.kind:Nat):Int)==4
   rotate_left
   rotate_left
   all_goals
    go_wp2_with fail;refine(zwp K hK s HG.out false (badF He.out)).mono ?_;rintro e W1 ⟨rfl,h1⟩;have ct1:=h1.tk hK;have c1:=h1.cb;unfold rdC at c1;rw[<-Ha.out]at c1 ct1;rw[<-Hn.out]at c1;rw[<-Ht.out,<-Hr.out]at ct1;dsimp only[TkC]at ct1;have HG1:=znd h1;clear h1 c ct HG;go_wp2_with fail;go_ret;exact⟨by simp,HG1.out⟩
  ·go_wp2_with fail;refine(zwp K hK s HG.out false (badF He.out)).mono ?_;rintro e W1 ⟨rfl,h1⟩;have ct1:=h1.tk hK;have c1:=h1.cb;unfold rdC at c1;rw[<-Ha.out]at c1 ct1;rw[<-Hn.out]at c1;rw[<-Ht.out,<-Hr.out]at ct1;dsimp only[TkC]at ct1;have HG1:=znd h1;clear h1 c ct HG;go_wp2_with fail;go_ret;exact⟨by simp,HG1.out⟩
 ·have He:=znd he;clear he;have HN:=znd (show s.sees K.ts k=false from by unfold Rz.sees;rw[decide_eq_false He.out];rfl);rw[HN.out];go_wp2_with fail;refine(zwp K hK s HG.out true (badT He.out)).mono ?_;rintro e W1 ⟨rfl,h1⟩;have HG1:=znd h1;clear h1 c ct HG;go_wp2_with fail;go_ret;exact⟨rfl,HG1.out⟩

section
variable {K:RK} {s:Rz} {ls:List Ow} {new:World->Prop} {W:World}
theorem RG.ab (h:RG K s ls new W) (e:TypeId) (c:Array Value):∃W' g,W.alloc (.cells c e)=W'/\W.heap.size=g/\Hid (RG K s (bow g e c.size c::ls) new W'):=⟨_,_,rfl,rfl,znd ⟨(h.gl.addb e c).perm (List.Perm.swap ..),h.i⟩⟩
theorem RG.al (h:RG K s ls new W) (e:TypeId) (c:Array Value):∃W' g,W.alloc (.cells c e)=W'/\W.heap.size=g/\Hid (RG K s ls (fun V=>Blk V g e c/\new V) W'):=⟨_,_,rfl,rfl,znd ⟨h.gl.box e c,h.i⟩⟩
theorem RG.dp {g:Nat} {e:TypeId} {sz:Nat} {c:Array Value} (h:RG K s (bow g e sz c::ls) new W):RG K s ls new W:=⟨((h.gl.perm (List.Perm.swap ..)).drop_).imp (fun _ h=>h) fun _ h=>h.2,h.i⟩
theorem RG.c1 {g:Nat} {e:TypeId} {sz:Nat} {c:Array Value} (h:RG K s (bow g e sz c::ls) new W):CB g c W:=h.gl.cb (k:=1) rfl
theorem RG.s1 {g:Nat} {e:TypeId} {sz:Nat} {c:Array Value} (h:RG K s (bow g e sz c::ls) new W) (i:Nat) (hi:i<sz) (u:Value):RG K s (bow g e sz (c.setIfInBounds i u)::ls) new (W.setCell ⟨g,i,none⟩ u):=⟨h.gl.bc (k:=1) rfl hi u,h.i⟩
theorem RG.p7 {g:Nat} {e:TypeId} {u0 u1 u2 u3 u4 u5 u6:Value} (h:RG K s (bow g e 7 #[u0,u1,u2,u3,u4,u5,u6]::ls) new W) (a0 a1 a2 a3 a4 a5 a6:Value):RG K s (bow g e 7 #[a0,a1,a2,a3,a4,a5,a6]::ls) new (((((((W.setCell ⟨g,0,none⟩ a0).setCell ⟨g,1,none⟩ a1).setCell ⟨g,2,none⟩ a2).setCell ⟨g,3,none⟩ a3).setCell ⟨g,4,none⟩ a4).setCell ⟨g,5,none⟩ a5).setCell ⟨g,6,none⟩ a6):=by
 have h0:RG K s (bow g e 7 #[a0,u1,u2,u3,u4,u5,u6]::ls) new (W.setCell ⟨g,0,none⟩ a0):=h.s1 0 (by decide) a0;have h1:RG K s (bow g e 7 #[a0,a1,u2,u3,u4,u5,u6]::ls) new ((W.setCell ⟨g,0,none⟩ a0).setCell ⟨g,1,none⟩ a1):=h0.s1 1 (by decide) a1;have h2:RG K s (bow g e 7 #[a0,a1,a2,u3,u4,u5,u6]::ls) new (((W.setCell ⟨g,0,none⟩ a0).setCell ⟨g,1,none⟩ a1).setCell ⟨g,2,none⟩ a2):=h1.s1 2 (by decide) a2;have h3:RG K s (bow g e 7 #[a0,a1,a2,a3,u4,u5,u6]::ls) new ((((W.setCell ⟨g,0,none⟩ a0).setCell ⟨g,1,none⟩ a1).setCell ⟨g,2,none⟩ a2).setCell ⟨g,3,none⟩ a3):=h2.s1 3 (by decide) a3;have h4:RG K s (bow g e 7 #[a0,a1,a2,a3,a4,u5,u6]::ls) new (((((W.setCell ⟨g,0,none⟩ a0).setCell ⟨g,1,none⟩ a1).setCell ⟨g,2,none⟩ a2).setCell ⟨g,3,none⟩ a3).setCell ⟨g,4,none⟩ a4):=h3.s1 4 (by decide) a4;have h5:RG K s (bow g e 7 #[a0,a1,a2,a3,a4,a5,u6]::ls) new ((((((W.setCell ⟨g,0,none⟩ a0).setCell ⟨g,1,none⟩ a1).setCell ⟨g,2,none⟩ a2).setCell ⟨g,3,none⟩ a3).setCell ⟨g,4,none⟩ a4).setCell ⟨g,5,none⟩ a5):=h4.s1 5 (by decide) a5;have h6:RG K s (bow g e 7 #[a0,a1,a2,a3,a4,a5,a6]::ls) new (((((((W.setCell ⟨g,0,none⟩ a0).setCell ⟨g,1,none⟩ a1).setCell ⟨g,2,none⟩ a2).setCell ⟨g,3,none⟩ a3).setCell ⟨g,4,none⟩ a4).setCell ⟨g,5,none⟩ a5).setCell ⟨g,6,none⟩ a6):=h5.s1 6 (by decide) a6;exact h6
theorem RG.st7 {g:Nat} {e:TypeId} {u0 u1 u2 u3 u4 u5 u6:Value} (h:RG K s (bow g e 7 #[u0,u1,u2,u3,u4,u5,u6]::ls) new W) (a0 a1 a2 a3 a4 a5 a6:Value):∃W',(((((((W.setCell ⟨g,0,none⟩ a0).setCell ⟨g,1,none⟩ a1).setCell ⟨g,2,none⟩ a2).setCell ⟨g,3,none⟩ a3).setCell ⟨g,4,none⟩ a4).setCell ⟨g,5,none⟩ a5).setCell ⟨g,6,none⟩ a6)=W'/\Hid (RG K s (bow g e 7 #[a0,a1,a2,a3,a4,a5,a6]::ls) new W'):=⟨_,rfl,znd (h.p7 a0 a1 a2 a3 a4 a5 a6)⟩
end
theorem zxY (w:World) (b o n c:Nat) (h:1<n) (hc:n<=c):(Instr.slice 110 (.slice (some ⟨b,o,none⟩) n c) (some (.int .i64 1)) none none).run Tryz.prog w=.ok (.slice (some ⟨b,o+7,none⟩) (n-1) (c-1)) w:=by
 have hu:Tryz.prog.underlying 110=some (.slice (Tryz.prog.elem 110)):=by kernel_rfl
 rw[run_slice_any w _ _ _ _ hu];have h1:¬c=1:=by omega
 have h2:(1:Int)<=(n:Int):=by omega
 simp[Instr.sliceBounds,run_sliceBound,sliced,h1,h2,zaf,zwg]
theorem RG.adv {K:RK} {s:Rz} {ls:List Ow} {new:World->Prop} {W:World} (h:RG K s ls new W) (hi:s.i+1<K.ps.length):∃W',W.setCell ⟨K.g,0,none⟩ (.slice (some ⟨K.b,(s.i+1)*7,none⟩) (K.ps.length-(s.i+1)) (K.c-(s.i+1)))=W'/\Hid (RG K ⟨s.i+1,s.e,s.ln⟩ ls new W'):=
 ⟨_,rfl,znd ⟨h.gl.bc (k:=0) rfl (i:=0) (by decide) _,hi⟩⟩
set_option maxRecDepth 100000 in
theorem zwn (K:RK) (hK:K.Ok) (s:Rz) {ls:List Ow} {new:World->Prop} {W:World} (h:RG K s ls new W):Calls Tryz.prog 76 #[.pointer (some ⟨K.g,0,none⟩)] W fun e W'=>e=.returned (.agg #[.int .u8 ((tkA K.ts s.i).kind:Nat),.string (bA (tkA K.ts s.i).s),.bool (rvA K s.i).num.neg,.slice (rvA K s.i).num.A (rvA K s.i).num.k (rvA K s.i).num.c,.bool (rvA K s.i).den.neg,.slice (rvA K s.i).den.A (rvA K s.i).den.k (rvA K s.i).den.c,.int .i64 ((tkA K.ts s.i).line:Nat)])/\RG K (s.step K.ts) ls new W':=by
 have ct:=h.tk hK;have hnn:0<K.ps.length-s.i:=by have:=h.i;omega
 have c:=h.cb;have hsz7:=zwg;have hadd:=zaa;have HG:=znd h;obtain⟨A,hA⟩:∃A,A=some (⟨K.b,s.i*7,none⟩:Addr):=⟨_,rfl⟩;have sla:Sl A (K.ps.length-s.i):=by rw[hA];exact Sl.some_ _ _ _
 have Ha:=znd hA;unfold rdC at c;rw[<-hA]at c ct;clear hA h;obtain⟨n,hn⟩:∃n,n=K.ps.length-s.i:=⟨_,rfl⟩;rw[<-hn]at c sla hnn;have hn1:(0:Int)<(n:Int):=by omega
 have Hn:=znd hn;clear hn;obtain⟨t,ht⟩:∃t,t=tkA K.ts s.i:=⟨_,rfl⟩;obtain⟨r,hr⟩:∃r,r=rvA K s.i:=⟨_,rfl⟩;rw[<-ht,<-hr]at ct;have Ht:=znd ht;have Hr:=znd hr;clear ht hr;dsimp only[TkC]at ct;go_enter Tryz.func76,Tryz.ntmps76;go_upto_region 1 with fail;obtain⟨W2,g2,hW2,hg2,HG2⟩:=HG.out.ab 118 #[.int .u8 0,.string ⟨#[]⟩,.bool false,.slice none 0 0,.bool false,.slice none 0 0,.int .i64 0];rw[hW2,hg2];clear hW2 hg2;have ct1:=HG2.out.tk hK;have c1:=HG2.out.cb;unfold rdC at c1;rw[<-Ha.out]at c1 ct1;rw[<-Hn.out]at c1;rw[<-Ht.out,<-Hr.out]at ct1;dsimp only[TkC]at ct1;have HG3:=znd HG2.out;clear ct c HG;go_upto_region 2 with fail;obtain⟨W3,g3,hW3,hg3,HG4⟩:=HG3.out.al 118 #[.int .u8 (t.kind:Nat),.string (bA t.s),.bool r.num.neg,.slice r.num.A r.num.k r.num.c,.bool r.den.neg,.slice r.den.A r.den.k r.den.c,.int .i64 (t.line:Nat)];rw[hW3,hg3];clear hW3 hg3 c1 ct1 HG3 HG2;by_cases he:s.e=0
 ·have He:=znd he;clear he;by_cases hn2:1<n
  ·have hn3:(n:Int)>1:=by omega
   go_wp2_with fail;refine(zwp K hK s HG4.out false (badF He.out)).mono ?_;rintro e W1 ⟨rfl,h1⟩;have ct1:=h1.tk hK;have c1:=h1.cb;unfold rdC at c1;rw[<-Ha.out]at c1 ct1;rw[<-Hn.out]at c1;rw[<-Ht.out,<-Hr.out]at ct1;dsimp only[TkC]at ct1;have HG1:=znd h1;have c3:=Blk.cb h1.gl.n.1;have c2:=h1.c1;clear h1;have hl2:s.i+1<K.ps.length:=by have:=Hn.out;omega
   have hcc:=hK.c;obtain⟨A2,hA2⟩:∃A2,A2=some (⟨K.b,(s.i+1)*7,none⟩:Addr):=⟨_,rfl⟩;obtain⟨m,hm⟩:∃m,m=K.ps.length-(s.i+1):=⟨_,rfl⟩;obtain⟨cm,hcm⟩:∃cm,cm=K.c-(s.i+1):=⟨_,rfl⟩;have hsl:∀V,(Instr.slice 110 (.slice A n (K.c-s.i)) (some (.int .i64 1)) none none).run Tryz.prog V=.ok (.slice A2 m cm) V:=fun V=>by
    rw[Ha.out,zxY V _ _ _ _ hn2 (by have:=Hn.out;omega),hA2,hm,hcm,Hn.out,show(s.i+1)*7=s.i*7+7 by omega,show K.ps.length-s.i-1=K.ps.length-(s.i+1) by omega,show K.c-s.i-1=K.c-(s.i+1) by omega]
   have HA2:=znd hA2;have HM:=znd hm;have HCM:=znd hcm;clear hA2 hm hcm hcc;go_upto_region 4 with fail;obtain⟨W5,hW5,HG5⟩:=HG1.out.adv hl2;rw[<-HA2.out,<-HM.out,<-HCM.out]at hW5;rw[hW5];clear hW5 c1 ct1 c2 c3;have c3:=Blk.cb HG5.out.gl.n.1;have c2:=HG5.out.c1;obtain⟨W6,hW6,HS⟩:=HG5.out.st7 (.int .u8 (t.kind:Nat)) (.string (bA t.s)) (.bool r.num.neg) (.slice r.num.A r.num.k r.num.c) (.bool r.den.neg) (.slice r.den.A r.den.k r.den.c) (.int .i64 (t.line:Nat));have c4:=HS.out.c1;go_wp2_with fail;exact bodyPost_ret (v:=.agg #[.int .u8 (t.kind:Nat),.string (bA t.s),.bool r.num.neg,.slice r.num.A r.num.k r.num.c,.bool r.den.neg,.slice r.den.A r.den.k r.den.c,.int .i64 (t.line:Nat)]) (by simp[results,Tryz.results76,go_sem,c4]) rfl ⟨by rw[Ht.out,Hr.out],by rw[show s.step K.ts=⟨s.i+1,s.e,s.ln⟩from by unfold Rz.step;rw[if_pos ⟨He.out,by unfold RK.ts;rw[List.length_map];exact hl2⟩]];exact(HS.out.imp fun _ h=>h.2).dp⟩
  ·have hn3:¬(n:Int)>1:=by omega
   go_wp2_with fail;refine(zwp K hK s HG4.out false (badF He.out)).mono ?_;rintro e W1 ⟨rfl,h1⟩;have ct1:=h1.tk hK;have c1:=h1.cb;unfold rdC at c1;rw[<-Ha.out]at c1 ct1;rw[<-Hn.out]at c1;rw[<-Ht.out,<-Hr.out]at ct1;dsimp only[TkC]at ct1;have HG1:=znd h1;have c3:=Blk.cb h1.gl.n.1;have c2:=h1.c1;clear h1;go_upto_region 4 with fail;obtain⟨W6,hW6,HS⟩:=HG1.out.st7 (.int .u8 (t.kind:Nat)) (.string (bA t.s)) (.bool r.num.neg) (.slice r.num.A r.num.k r.num.c) (.bool r.den.neg) (.slice r.den.A r.den.k r.den.c) (.int .i64 (t.line:Nat));have c4:=HS.out.c1;go_wp2_with fail;exact bodyPost_ret (v:=.agg #[.int .u8 (t.kind:Nat),.string (bA t.s),.bool r.num.neg,.slice r.num.A r.num.k r.num.c,.bool r.den.neg,.slice r.den.A r.den.k r.den.c,.int .i64 (t.line:Nat)]) (by simp[results,Tryz.results76,go_sem,c4]) rfl ⟨by rw[Ht.out,Hr.out],by rw[show s.step K.ts=s from by unfold Rz.step;rw[if_neg (fun h9=>by have:=Hn.out;have h8:=h9.2;unfold RK.ts at h8;rw[List.length_map]at h8;omega)]];exact(HS.out.imp fun _ h=>h.2).dp⟩
 ·have He:=znd he;clear he;go_wp2_with fail;refine(zwp K hK s HG4.out true (badT He.out)).mono ?_;rintro e W1 ⟨rfl,h1⟩;have ct1:=h1.tk hK;have c1:=h1.cb;unfold rdC at c1;rw[<-Ha.out]at c1 ct1;rw[<-Hn.out]at c1;rw[<-Ht.out,<-Hr.out]at ct1;dsimp only[TkC]at ct1;have HG1:=znd h1;have c3:=Blk.cb h1.gl.n.1;have c2:=h1.c1;clear h1;go_upto_region 4 with fail;obtain⟨W6,hW6,HS⟩:=HG1.out.st7 (.int .u8 (t.kind:Nat)) (.string (bA t.s)) (.bool r.num.neg) (.slice r.num.A r.num.k r.num.c) (.bool r.den.neg) (.slice r.den.A r.den.k r.den.c) (.int .i64 (t.line:Nat));have c4:=HS.out.c1;go_wp2_with fail;exact bodyPost_ret (v:=.agg #[.int .u8 (t.kind:Nat),.string (bA t.s),.bool r.num.neg,.slice r.num.A r.num.k r.num.c,.bool r.den.neg,.slice r.den.A r.den.k r.den.c,.int .i64 (t.line:Nat)]) (by simp[results,Tryz.results76,go_sem,c4]) rfl ⟨by rw[Ht.out,Hr.out],by rw[show s.step K.ts=s from by unfold Rz.step;rw[if_neg (fun h9=>He.out h9.1)]];exact(HS.out.imp fun _ h=>h.2).dp⟩
end Go.Proofs.YtegfiemlnnpidaaGreatDoor
