/-
 Sorting a list of at most 1000 that rises already: nothing moves. sparse.Norm of a rising list of at most 1000. lower: copied, numbers, same. lower.same. The plain law of Conv: which input a kernel's number falls on; what a row is. lower.spot: a row of a picture. lower.sums: the Affine of a Conv.
-/
import Derived.Test.YtegfiemlnnpidaaGreatDoorSS
import Derived.Test.YtegfiemlnnpidaaGreatDoorPA
import Derived.Test.YtegfiemlnnpidaaGreatDoorNH
namespace Go.Proofs.YtegfiemlnnpidaaGreatDoor
set_option maxHeartbeats 1000000
open Go.RowKit

theorem zss (z:Int):∀u∈(zoA z).toList,u.oneCell'=true:=by simp[zoA,Value.oneCell']
theorem zru (g:GrV):∀u∈(zoN g).toList,u.oneCell'=true:=by simp[zoN,Value.oneCell']
theorem zws (v:VeV):∀u∈(za3 v).toList,u.oneCell'=true:=by simp[za3,Value.oneCell']
theorem zwY (l:LaV):∀u∈(zw8 l).toList,u.oneCell'=true:=by simp[zw8,Value.oneCell']
theorem GL.appX {β:Type} {w W W':World} {ls:List Ow} {bs:List Bo} {old new old' new':World->Prop} {t e:TypeId} {k bytes:Nat} {z:Value} {cells:β->Array Value} (ht:Tryz.prog.underlying t=some (.slice e)) (hinfo:(Tryz.prog.info? e).map (fun i=>(i.zero,i.size,i.bytes))=some (some z,k,bytes)) (hz:z.cells.size=k) (hk:0<k) (hb:bytes<=1000)
 {A:Option Addr} {c:Nat} {os:List β} (h:GL w (⟨e,k,.slice A os.length c,os.map cells⟩::ls) old new W) (he:Env W bs old' new' W') (x:β) (hx:(cells x).size=k) (h1:∀u∈(cells x).toList,u.oneCell'=true) (hl:os.length<=1000000):
 ∃A' c' w',(Builtin.append_ #[t,t] t #[.slice A os.length c,.slice (some ⟨W'.heap.size,0,none⟩) 1 1]).run Tryz.prog (W'.alloc (.cells (cells x) e))=.ok (.slice A' (os++[x]).length c') w'/\GL w (⟨e,k,.slice A' (os++[x]).length c',(os++[x]).map cells⟩::ls) old (fun V=>new' V/\new V) w':=by
 have hm:(os.length+1)*bytes<=1000001*1000:=Nat.mul_le_mul (by omega) hb;obtain⟨v',w',hrun,hG⟩:=GL.app (P:=Tryz.prog) ht hinfo hz hk h he (cells x) hx h1 (by simp;omega) (by simp[maxLen];omega);obtain⟨A',c',hv,-⟩:=(hG.own _ (List.mem_cons_self ..)).form;have hv':v'=.slice A' (os++[x]).length c':=by rw[show v'=_ from hv];simp
 subst hv';refine⟨A',c',w',hrun,?_⟩;have e:(os++[x]).map cells=os.map cells++[cells x]:=by simp
 rw[e];exact hG
section
variable {w W:World} {bs:List Bo} {old new:World->Prop}
theorem Env.put13 {g:Nat} {t:TypeId} {u0 u1 u2 u3 u4 u5 u6 u7 u8 u9 u10 u11 u12:Value} (h:Env w (⟨g,t,#[u0,u1,u2,u3,u4,u5,u6,u7,u8,u9,u10,u11,u12]⟩::bs) old new W) (a0 a1 a2 a3 a4 a5 a6 a7 a8 a9 a10 a11 a12:Value):Env w (⟨g,t,#[a0,a1,a2,a3,a4,a5,a6,a7,a8,a9,a10,a11,a12]⟩::bs) old new (((((((((((((W.setCell ⟨g,0,none⟩ a0).setCell ⟨g,1,none⟩ a1).setCell ⟨g,2,none⟩ a2).setCell ⟨g,3,none⟩ a3).setCell ⟨g,4,none⟩ a4).setCell ⟨g,5,none⟩ a5).setCell ⟨g,6,none⟩ a6).setCell ⟨g,7,none⟩ a7).setCell ⟨g,8,none⟩ a8).setCell ⟨g,9,none⟩ a9).setCell ⟨g,10,none⟩ a10).setCell ⟨g,11,none⟩ a11).setCell ⟨g,12,none⟩ a12):=by
 have h1:Env w (⟨g,t,#[a0,u1,u2,u3,u4,u5,u6,u7,u8,u9,u10,u11,u12]⟩::bs) old new (W.setCell ⟨g,0,none⟩ a0):=h.put 0 a0;have h2:Env w (⟨g,t,#[a0,a1,u2,u3,u4,u5,u6,u7,u8,u9,u10,u11,u12]⟩::bs) old new ((W.setCell ⟨g,0,none⟩ a0).setCell ⟨g,1,none⟩ a1):=h1.put 1 a1;have h3:Env w (⟨g,t,#[a0,a1,a2,u3,u4,u5,u6,u7,u8,u9,u10,u11,u12]⟩::bs) old new (((W.setCell ⟨g,0,none⟩ a0).setCell ⟨g,1,none⟩ a1).setCell ⟨g,2,none⟩ a2):=h2.put 2 a2;have h4:Env w (⟨g,t,#[a0,a1,a2,a3,u4,u5,u6,u7,u8,u9,u10,u11,u12]⟩::bs) old new ((((W.setCell ⟨g,0,none⟩ a0).setCell ⟨g,1,none⟩ a1).setCell ⟨g,2,none⟩ a2).setCell ⟨g,3,none⟩ a3):=h3.put 3 a3;have h5:Env w (⟨g,t,#[a0,a1,a2,a3,a4,u5,u6,u7,u8,u9,u10,u11,u12]⟩::bs) old new (((((W.setCell ⟨g,0,none⟩ a0).setCell ⟨g,1,none⟩ a1).setCell ⟨g,2,none⟩ a2).setCell ⟨g,3,none⟩ a3).setCell ⟨g,4,none⟩ a4):=h4.put 4 a4;have h6:Env w (⟨g,t,#[a0,a1,a2,a3,a4,a5,u6,u7,u8,u9,u10,u11,u12]⟩::bs) old new ((((((W.setCell ⟨g,0,none⟩ a0).setCell ⟨g,1,none⟩ a1).setCell ⟨g,2,none⟩ a2).setCell ⟨g,3,none⟩ a3).setCell ⟨g,4,none⟩ a4).setCell ⟨g,5,none⟩ a5):=h5.put 5 a5;have h7:Env w (⟨g,t,#[a0,a1,a2,a3,a4,a5,a6,u7,u8,u9,u10,u11,u12]⟩::bs) old new (((((((W.setCell ⟨g,0,none⟩ a0).setCell ⟨g,1,none⟩ a1).setCell ⟨g,2,none⟩ a2).setCell ⟨g,3,none⟩ a3).setCell ⟨g,4,none⟩ a4).setCell ⟨g,5,none⟩ a5).setCell ⟨g,6,none⟩ a6):=h6.put 6 a6;have h8:Env w (⟨g,t,#[a0,a1,a2,a3,a4,a5,a6,a7,u8,u9,u10,u11,u12]⟩::bs) old new ((((((((W.setCell ⟨g,0,none⟩ a0).setCell ⟨g,1,none⟩ a1).setCell ⟨g,2,none⟩ a2).setCell ⟨g,3,none⟩ a3).setCell ⟨g,4,none⟩ a4).setCell ⟨g,5,none⟩ a5).setCell ⟨g,6,none⟩ a6).setCell ⟨g,7,none⟩ a7):=h7.put 7 a7;have h9:Env w (⟨g,t,#[a0,a1,a2,a3,a4,a5,a6,a7,a8,u9,u10,u11,u12]⟩::bs) old new (((((((((W.setCell ⟨g,0,none⟩ a0).setCell ⟨g,1,none⟩ a1).setCell ⟨g,2,none⟩ a2).setCell ⟨g,3,none⟩ a3).setCell ⟨g,4,none⟩ a4).setCell ⟨g,5,none⟩ a5).setCell ⟨g,6,none⟩ a6).setCell ⟨g,7,none⟩ a7).setCell ⟨g,8,none⟩ a8):=h8.put 8 a8;have h10:Env w (⟨g,t,#[a0,a1,a2,a3,a4,a5,a6,a7,a8,a9,u10,u11,u12]⟩::bs) old new ((((((((((W.setCell ⟨g,0,none⟩ a0).setCell ⟨g,1,none⟩ a1).setCell ⟨g,2,none⟩ a2).setCell ⟨g,3,none⟩ a3).setCell ⟨g,4,none⟩ a4).setCell ⟨g,5,none⟩ a5).setCell ⟨g,6,none⟩ a6).setCell ⟨g,7,none⟩ a7).setCell ⟨g,8,none⟩ a8).setCell ⟨g,9,none⟩ a9):=h9.put 9 a9;have h11:Env w (⟨g,t,#[a0,a1,a2,a3,a4,a5,a6,a7,a8,a9,a10,u11,u12]⟩::bs) old new (((((((((((W.setCell ⟨g,0,none⟩ a0).setCell ⟨g,1,none⟩ a1).setCell ⟨g,2,none⟩ a2).setCell ⟨g,3,none⟩ a3).setCell ⟨g,4,none⟩ a4).setCell ⟨g,5,none⟩ a5).setCell ⟨g,6,none⟩ a6).setCell ⟨g,7,none⟩ a7).setCell ⟨g,8,none⟩ a8).setCell ⟨g,9,none⟩ a9).setCell ⟨g,10,none⟩ a10):=h10.put 10 a10;have h12:Env w (⟨g,t,#[a0,a1,a2,a3,a4,a5,a6,a7,a8,a9,a10,a11,u12]⟩::bs) old new ((((((((((((W.setCell ⟨g,0,none⟩ a0).setCell ⟨g,1,none⟩ a1).setCell ⟨g,2,none⟩ a2).setCell ⟨g,3,none⟩ a3).setCell ⟨g,4,none⟩ a4).setCell ⟨g,5,none⟩ a5).setCell ⟨g,6,none⟩ a6).setCell ⟨g,7,none⟩ a7).setCell ⟨g,8,none⟩ a8).setCell ⟨g,9,none⟩ a9).setCell ⟨g,10,none⟩ a10).setCell ⟨g,11,none⟩ a11):=h11.put 11 a11;have h13:Env w (⟨g,t,#[a0,a1,a2,a3,a4,a5,a6,a7,a8,a9,a10,a11,a12]⟩::bs) old new (((((((((((((W.setCell ⟨g,0,none⟩ a0).setCell ⟨g,1,none⟩ a1).setCell ⟨g,2,none⟩ a2).setCell ⟨g,3,none⟩ a3).setCell ⟨g,4,none⟩ a4).setCell ⟨g,5,none⟩ a5).setCell ⟨g,6,none⟩ a6).setCell ⟨g,7,none⟩ a7).setCell ⟨g,8,none⟩ a8).setCell ⟨g,9,none⟩ a9).setCell ⟨g,10,none⟩ a10).setCell ⟨g,11,none⟩ a11).setCell ⟨g,12,none⟩ a12):=h12.put 12 a12;exact h13
end
def kq (ks:List Rat) (E o k:Nat):Rat:=(ks[o*E+k]?).getD 0
section
variable {w W:World} {ls:List Ow} {old new:World->Prop}
theorem GL.appG {β:Type} {t e:TypeId} {k sz bytes g:Nat} {z:Value} {cells:β->Array Value} (ht:Tryz.prog.underlying t=some (.slice e)) (hinfo:(Tryz.prog.info? e).map (fun i=>(i.zero,i.size,i.bytes))=some (some z,sz,bytes)) (hz:z.cells.size=sz) (hsz:0<sz) (hby:bytes<=1000)
 {A:Option Addr} {c:Nat} {l:List β} (h:GL w ls old new W) (hk:ls[k]?=some ⟨e,sz,.slice A l.length c,l.map cells⟩) (x:β) (hx:(cells x).size=sz) (h1:∀u∈(cells x).toList,u.oneCell'=true) (hd:Blk W g e (cells x)) (hl:l.length<=1000000):
 ∃A' c' w',(Builtin.append_ #[t,t] t #[.slice A l.length c,.slice (some ⟨g,0,none⟩) 1 1]).run Tryz.prog W=.ok (.slice A' (l++[x]).length c') w'/\GL w (ls.set k ⟨e,sz,.slice A' (l++[x]).length c',(l++[x]).map cells⟩) old new w':=by
 have hel:El W sz (some ⟨g,0,none⟩) [cells x]:=by
  refine⟨Sl.some_ _ _ _,fun i hi=>?_,fun i hi j hj=>?_⟩
  ·have:i=0:=by simpa using hi
   subst this;exact hx
  ·have:i=0:=by simpa using hi
   subst this;rw[za6,Nat.zero_mul,Nat.zero_add,Nat.zero_add];exact hd.cell j
 have hm:(l.length+1)*bytes<=1000001*1000:=Nat.mul_le_mul (by omega) hby;obtain⟨v',w',hrun,hG,-,A',n',c',hv⟩:=GL.appAt (P:=Tryz.prog) (c:=1) ht hinfo hz hsz h hk hel h1 (by simp;omega) (by simp[maxLen];omega);obtain⟨A2,c2,hv2,-⟩:=(hG.own _ (List.mem_of_getElem? (zaQ _ _ _ _ hk))).form;have hv':v'=.slice A2 (l++[x]).length c2:=by rw[show v'=_ from hv2];simp
 subst hv';refine⟨A2,c2,w',hrun,?_⟩;have e:(l++[x]).map cells=l.map cells++[cells x]:=by simp
 rw[e];exact hG
theorem GL.putc {k g i sz:Nat} {e:TypeId} {c0:Array Value} (h:GL w ls old new W) (hk:ls[k]?=some (bow g e sz c0)) (hi:i<sz) (u:Value):GL w (ls.set k (bow g e sz (c0.setIfInBounds i u))) old new (W.setCell ⟨g,i,none⟩ u):=by
 have h0:=h.setg (i:=0) (j:=i) hk (by simp) hi u;simp only[Nat.zero_mul,Nat.zero_add,List.getElem_cons_zero,List.set_cons_zero]at h0;exact h0
theorem GL.put13 {k g:Nat} {e:TypeId} {u0 u1 u2 u3 u4 u5 u6 u7 u8 u9 u10 u11 u12:Value} (h:GL w ls old new W) (hk:ls[k]?=some (bow g e 13 #[u0,u1,u2,u3,u4,u5,u6,u7,u8,u9,u10,u11,u12])) (a0 a1 a2 a3 a4 a5 a6 a7 a8 a9 a10 a11 a12:Value):GL w (ls.set k (bow g e 13 #[a0,a1,a2,a3,a4,a5,a6,a7,a8,a9,a10,a11,a12])) old new (((((((((((((W.setCell ⟨g,0,none⟩ a0).setCell ⟨g,1,none⟩ a1).setCell ⟨g,2,none⟩ a2).setCell ⟨g,3,none⟩ a3).setCell ⟨g,4,none⟩ a4).setCell ⟨g,5,none⟩ a5).setCell ⟨g,6,none⟩ a6).setCell ⟨g,7,none⟩ a7).setCell ⟨g,8,none⟩ a8).setCell ⟨g,9,none⟩ a9).setCell ⟨g,10,none⟩ a10).setCell ⟨g,11,none⟩ a11).setCell ⟨g,12,none⟩ a12):=by
 have h1:GL w (ls.set k (bow g e 13 #[a0,u1,u2,u3,u4,u5,u6,u7,u8,u9,u10,u11,u12])) old new (W.setCell ⟨g,0,none⟩ a0):=by
  have h0:=h.putc (k:=k) (i:=0) hk (by decide) a0;exact h0
 have h2:GL w (ls.set k (bow g e 13 #[a0,a1,u2,u3,u4,u5,u6,u7,u8,u9,u10,u11,u12])) old new ((W.setCell ⟨g,0,none⟩ a0).setCell ⟨g,1,none⟩ a1):=by
  have h0:=h1.putc (k:=k) (i:=1) (zaQ _ _ _ _ hk) (by decide) a1;rw[List.set_set]at h0;exact h0
 have h3:GL w (ls.set k (bow g e 13 #[a0,a1,a2,u3,u4,u5,u6,u7,u8,u9,u10,u11,u12])) old new (((W.setCell ⟨g,0,none⟩ a0).setCell ⟨g,1,none⟩ a1).setCell ⟨g,2,none⟩ a2):=by
  have h0:=h2.putc (k:=k) (i:=2) (zaQ _ _ _ _ hk) (by decide) a2;rw[List.set_set]at h0;exact h0
 have h4:GL w (ls.set k (bow g e 13 #[a0,a1,a2,a3,u4,u5,u6,u7,u8,u9,u10,u11,u12])) old new ((((W.setCell ⟨g,0,none⟩ a0).setCell ⟨g,1,none⟩ a1).setCell ⟨g,2,none⟩ a2).setCell ⟨g,3,none⟩ a3):=by
  have h0:=h3.putc (k:=k) (i:=3) (zaQ _ _ _ _ hk) (by decide) a3;rw[List.set_set]at h0;exact h0
 have h5:GL w (ls.set k (bow g e 13 #[a0,a1,a2,a3,a4,u5,u6,u7,u8,u9,u10,u11,u12])) old new (((((W.setCell ⟨g,0,none⟩ a0).setCell ⟨g,1,none⟩ a1).setCell ⟨g,2,none⟩ a2).setCell ⟨g,3,none⟩ a3).setCell ⟨g,4,none⟩ a4):=by
  have h0:=h4.putc (k:=k) (i:=4) (zaQ _ _ _ _ hk) (by decide) a4;rw[List.set_set]at h0;exact h0
 have h6:GL w (ls.set k (bow g e 13 #[a0,a1,a2,a3,a4,a5,u6,u7,u8,u9,u10,u11,u12])) old new ((((((W.setCell ⟨g,0,none⟩ a0).setCell ⟨g,1,none⟩ a1).setCell ⟨g,2,none⟩ a2).setCell ⟨g,3,none⟩ a3).setCell ⟨g,4,none⟩ a4).setCell ⟨g,5,none⟩ a5):=by
  have h0:=h5.putc (k:=k) (i:=5) (zaQ _ _ _ _ hk) (by decide) a5;rw[List.set_set]at h0;exact h0
 have h7:GL w (ls.set k (bow g e 13 #[a0,a1,a2,a3,a4,a5,a6,u7,u8,u9,u10,u11,u12])) old new (((((((W.setCell ⟨g,0,none⟩ a0).setCell ⟨g,1,none⟩ a1).setCell ⟨g,2,none⟩ a2).setCell ⟨g,3,none⟩ a3).setCell ⟨g,4,none⟩ a4).setCell ⟨g,5,none⟩ a5).setCell ⟨g,6,none⟩ a6):=by
  have h0:=h6.putc (k:=k) (i:=6) (zaQ _ _ _ _ hk) (by decide) a6;rw[List.set_set]at h0;exact h0
 have h8:GL w (ls.set k (bow g e 13 #[a0,a1,a2,a3,a4,a5,a6,a7,u8,u9,u10,u11,u12])) old new ((((((((W.setCell ⟨g,0,none⟩ a0).setCell ⟨g,1,none⟩ a1).setCell ⟨g,2,none⟩ a2).setCell ⟨g,3,none⟩ a3).setCell ⟨g,4,none⟩ a4).setCell ⟨g,5,none⟩ a5).setCell ⟨g,6,none⟩ a6).setCell ⟨g,7,none⟩ a7):=by
  have h0:=h7.putc (k:=k) (i:=7) (zaQ _ _ _ _ hk) (by decide) a7;rw[List.set_set]at h0;exact h0
 have h9:GL w (ls.set k (bow g e 13 #[a0,a1,a2,a3,a4,a5,a6,a7,a8,u9,u10,u11,u12])) old new (((((((((W.setCell ⟨g,0,none⟩ a0).setCell ⟨g,1,none⟩ a1).setCell ⟨g,2,none⟩ a2).setCell ⟨g,3,none⟩ a3).setCell ⟨g,4,none⟩ a4).setCell ⟨g,5,none⟩ a5).setCell ⟨g,6,none⟩ a6).setCell ⟨g,7,none⟩ a7).setCell ⟨g,8,none⟩ a8):=by
  have h0:=h8.putc (k:=k) (i:=8) (zaQ _ _ _ _ hk) (by decide) a8;rw[List.set_set]at h0;exact h0
 have h10:GL w (ls.set k (bow g e 13 #[a0,a1,a2,a3,a4,a5,a6,a7,a8,a9,u10,u11,u12])) old new ((((((((((W.setCell ⟨g,0,none⟩ a0).setCell ⟨g,1,none⟩ a1).setCell ⟨g,2,none⟩ a2).setCell ⟨g,3,none⟩ a3).setCell ⟨g,4,none⟩ a4).setCell ⟨g,5,none⟩ a5).setCell ⟨g,6,none⟩ a6).setCell ⟨g,7,none⟩ a7).setCell ⟨g,8,none⟩ a8).setCell ⟨g,9,none⟩ a9):=by
  have h0:=h9.putc (k:=k) (i:=9) (zaQ _ _ _ _ hk) (by decide) a9;rw[List.set_set]at h0;exact h0
 have h11:GL w (ls.set k (bow g e 13 #[a0,a1,a2,a3,a4,a5,a6,a7,a8,a9,a10,u11,u12])) old new (((((((((((W.setCell ⟨g,0,none⟩ a0).setCell ⟨g,1,none⟩ a1).setCell ⟨g,2,none⟩ a2).setCell ⟨g,3,none⟩ a3).setCell ⟨g,4,none⟩ a4).setCell ⟨g,5,none⟩ a5).setCell ⟨g,6,none⟩ a6).setCell ⟨g,7,none⟩ a7).setCell ⟨g,8,none⟩ a8).setCell ⟨g,9,none⟩ a9).setCell ⟨g,10,none⟩ a10):=by
  have h0:=h10.putc (k:=k) (i:=10) (zaQ _ _ _ _ hk) (by decide) a10;rw[List.set_set]at h0;exact h0
 have h12:GL w (ls.set k (bow g e 13 #[a0,a1,a2,a3,a4,a5,a6,a7,a8,a9,a10,a11,u12])) old new ((((((((((((W.setCell ⟨g,0,none⟩ a0).setCell ⟨g,1,none⟩ a1).setCell ⟨g,2,none⟩ a2).setCell ⟨g,3,none⟩ a3).setCell ⟨g,4,none⟩ a4).setCell ⟨g,5,none⟩ a5).setCell ⟨g,6,none⟩ a6).setCell ⟨g,7,none⟩ a7).setCell ⟨g,8,none⟩ a8).setCell ⟨g,9,none⟩ a9).setCell ⟨g,10,none⟩ a10).setCell ⟨g,11,none⟩ a11):=by
  have h0:=h11.putc (k:=k) (i:=11) (zaQ _ _ _ _ hk) (by decide) a11;rw[List.set_set]at h0;exact h0
 have h13:GL w (ls.set k (bow g e 13 #[a0,a1,a2,a3,a4,a5,a6,a7,a8,a9,a10,a11,a12])) old new (((((((((((((W.setCell ⟨g,0,none⟩ a0).setCell ⟨g,1,none⟩ a1).setCell ⟨g,2,none⟩ a2).setCell ⟨g,3,none⟩ a3).setCell ⟨g,4,none⟩ a4).setCell ⟨g,5,none⟩ a5).setCell ⟨g,6,none⟩ a6).setCell ⟨g,7,none⟩ a7).setCell ⟨g,8,none⟩ a8).setCell ⟨g,9,none⟩ a9).setCell ⟨g,10,none⟩ a10).setCell ⟨g,11,none⟩ a11).setCell ⟨g,12,none⟩ a12):=by
  have h0:=h12.putc (k:=k) (i:=12) (zaQ _ _ _ _ hk) (by decide) a12;rw[List.set_set]at h0;exact h0
 exact h13
theorem GL.els9 {k:Nat} {e:TypeId} {sz n cap:Nat} {A:Option Addr} {cs:List (Array Value)} (h:GL w ls old new W) (hk:ls[k]?=some ⟨e,sz,.slice A n cap,cs⟩):Rests W (w.heap.size<=·) (fun V=>El V sz A cs):=by
 have ho:OwnE W w.heap.size e sz (.slice A n cap) cs:=h.own _ (List.mem_of_getElem? hk);obtain⟨A',c',hv,-,hr⟩:=ho.reads;obtain⟨rfl,-,-⟩:A=A'/\n=cs.length/\cap=c':=by simpa using hv
 exact hr
end
end Go.Proofs.YtegfiemlnnpidaaGreatDoor
