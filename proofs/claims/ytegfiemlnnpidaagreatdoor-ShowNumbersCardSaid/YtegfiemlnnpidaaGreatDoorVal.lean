/-
 What rests on some blocks of memory; whole numbers and fractions as values.
-/
import Derived.Test.YtegfiemlnnpidaaGreatDoorLimC
namespace Go.Proofs.YtegfiemlnnpidaaGreatDoor
open Go.RowKit

structure Rests (w:World) (F:Nat->Prop) (φ:World->Prop):Prop where
 now:φ w
 lift:∀w':World,(∀b,F b->b<w.heap.size->w'.heap[b]?=w.heap[b]?)->φ w'
section
variable {w w':World} {F:Nat->Prop} {φ ψ:World->Prop}
theorem Rests.alloc (h:Rests w F φ) (o:Obj):Rests (w.alloc o) F φ:=
 ⟨h.lift _ fun b _ hb=>Below.heap_alloc w o b hb,fun w' hw=>h.lift _ fun b hF hb=>(hw b hF (by simp;omega)).trans (Below.heap_alloc w o b hb)⟩
theorem Rests.set (h:Rests w F φ) {a:Addr} (hg:¬F a.block) (v:Value):Rests (w.setCell a v) F φ:=
 ⟨h.lift _ fun b hF _=>Below.heap_setCell w a v b (fun e=>hg (e▸hF)),fun w' hw=>h.lift _ fun b hF hb=>(hw b hF (by simpa[World.setCell] using hb)).trans (Below.heap_setCell w a v b (fun e=>hg (e▸hF)))⟩
theorem Rests.drewN (h:Rests w F φ) (n:Nat):Rests (w.drewN n) F φ:=⟨h.lift _ fun _ _ _=>rfl,fun _ hw=>h.lift _ hw⟩
theorem Rests.drew (h:Rests w F φ):Rests w.drew F φ:=⟨h.lift _ fun _ _ _=>rfl,fun _ hw=>h.lift _ hw⟩
theorem Rests.below (h:Rests w F φ) (hb:Below w.heap.size w w'):Rests w' F φ:=
 ⟨h.lift _ fun b _ hlt=>hb.block b hlt,fun _ hw=>h.lift _ fun b hF hlt=>(hw b hF (Nat.lt_of_lt_of_le hlt hb.size)).trans (hb.block b hlt)⟩
theorem Rests.mono {G:Nat->Prop} (h:Rests w F φ) (hFG:∀b,F b->G b):Rests w G φ:=⟨h.now,fun _ hw=>h.lift _ fun b hF hb=>hw b (hFG b hF) hb⟩
theorem Rests.and (h:Rests w F φ) (k:Rests w F ψ):Rests w F (fun w=>φ w/\ψ w):=⟨⟨h.now,k.now⟩,fun _ hw=>⟨h.lift _ hw,k.lift _ hw⟩⟩
theorem Rests.imp (h:Rests w F φ) (hi:∀w,φ w->ψ w):Rests w F ψ:=⟨hi _ h.now,fun _ hw=>hi _ (h.lift _ hw)⟩
theorem Rests.pure {p:Prop} (h:p) (w:World) (F:Nat->Prop):Rests w F (fun _=>p):=⟨h,fun _ _=>h⟩
end
theorem zam {w:World} {k:IntKind} {A:Option Addr} {l:List Nat} {F:Nat->Prop} (h:Rd w k A l) (hF:∀i,i<l.length->F (adr A i).block):Rests w F (fun w=>Rd w k A l):=
 ⟨h,fun _ hw=>⟨h.sl,fun i hi=>(World.cell?_of_block (hw _ (hF i hi) (h.lt i hi))).trans (h.cell i hi)⟩⟩

structure IV where
 neg:Bool
 A:Option Addr
 k:Nat
 c:Nat
structure RV where
 num:IV
 den:IV
abbrev cR (r:RV):Array Value:=#[.bool r.num.neg,.slice r.num.A r.num.k r.num.c,.bool r.den.neg,.slice r.den.A r.den.k r.den.c]
@[go_sem] theorem cR_e (r:RV):cR r=#[.bool r.num.neg,.slice r.num.A r.num.k r.num.c,.bool r.den.neg,.slice r.den.A r.den.k r.den.c]:=rfl
abbrev cI (r:IV):Array Value:=#[.bool r.neg,.slice r.A r.k r.c]
@[go_sem] theorem cI_e (r:IV):cI r=#[.bool r.neg,.slice r.A r.k r.c]:=rfl
abbrev cZ:Array Value:=#[.bool false,.slice none 0 0,.bool false,.slice none 0 0]
@[go_sem] theorem cZ_e:cZ=#[.bool false,.slice none 0 0,.bool false,.slice none 0 0]:=rfl
def iv (neg:Bool) (n:Nat):Int:=if neg then -(n:Int) else(n:Int)
structure IntD (i:IV) (z:Int) (n:Nat) (w:World):Prop where
 ex:∃l:List Nat,i.k=l.length/\Rd w .u64 i.A l/\(∀x∈l,x<B64)/\iv i.neg (val B64 l)=z
 cap:i.k<=i.c
 le:i.k<=n
structure IntN (i:IV) (z:Int) (w:World):Prop where
 k:i.k=(digs B64 z.natAbs).length
 cap:i.k<=i.c
 neg:i.neg=decide (z<0)
 rd:Rd w .u64 i.A (digs B64 z.natAbs)
theorem zad (neg:Bool) (n:Nat):(iv neg n).natAbs=n:=by unfold iv;split<;>omega
theorem zmE (z:Int):iv (decide (z<0)) z.natAbs=z:=by unfold iv;by_cases h:z<0<;>simp[h]<;>omega
theorem IntN.int {i:IV} {z:Int} {w:World} (h:IntN i z w) {n:Nat} (hn:i.k<=n):IntD i z n w:=
 ⟨⟨_,h.k,h.rd,zbi (by decide) _,by rw[zar (by decide),h.neg,zmE]⟩,h.cap,hn⟩
theorem zbG {n k:Nat} (h:n<B64^k):(digs B64 n).length<=k:=by
 rcases Nat.eq_zero_or_pos n with rfl|h0
 ·exact Nat.zero_le _
 ·have hne:digs B64 n≠[]:=fun e=>by rw[zaT (by decide)]at e;omega
  have h1:=zcB (b:=B64) (by decide) (digs_tidy (by decide) n) hne;rw[zar (by decide)]at h1;have h2:B64^((digs B64 n).length-1)<B64^k:=Nat.lt_of_le_of_lt h1 h;have:=(Nat.pow_lt_pow_iff_right (show 1<B64 by decide)).1 h2;omega
theorem zaF {n k:Nat} (h:(digs B64 n).length<=k):n<B64^k:=by
 have h1:=zdo (zbi (b:=B64) (by decide) n);rw[zar (by decide)]at h1;exact Nat.lt_of_lt_of_le h1 (Nat.pow_le_pow_right za4 h)
theorem IntD.lt {i:IV} {z:Int} {n:Nat} {w:World} (h:IntD i z n w):z.natAbs<B64^n:=by
 obtain⟨l,hk,-,hx,rfl⟩:=h.ex;rw[zad];exact Nat.lt_of_lt_of_le (zdo hx) (Nat.pow_le_pow_right za4 (by have:=h.le;omega))
theorem IntD.mono {i:IV} {z:Int} {n m:Nat} {w:World} (h:IntD i z n w) (hm:n<=m):IntD i z m w:=⟨h.ex,h.cap,Nat.le_trans h.le hm⟩
theorem IntN.ofLt {i:IV} {z:Int} {w:World} (h:IntN i z w) {n:Nat} (hn:z.natAbs<B64^n):IntD i z n w:=h.int (by rw[h.k];exact zbG hn)

def Foot (F:Nat->Prop) (i:IV):Prop:=∀j,j<i.k->F (adr i.A j).block
theorem IntD.rests {i:IV} {z:Int} {n:Nat} {w:World} {F:Nat->Prop} (h:IntD i z n w) (hF:Foot F i):Rests w F (IntD i z n):=by
 obtain⟨l,hk,hr,hx,hz⟩:=h.ex;have h1:=zam hr (fun j hj=>hF j (by omega));exact⟨h,fun w' hw=>⟨⟨l,hk,h1.lift w' hw,hx,hz⟩,h.cap,h.le⟩⟩
theorem IntD.old {i:IV} {z:Int} {n:Nat} {w:World} (h:IntD i z n w):Rests w (·<w.heap.size) (IntD i z n):=by
 obtain⟨l,hk,hr,hx,hz⟩:=h.ex;exact h.rests fun j hj=>hr.lt j (by omega)
theorem IntN.rests {i:IV} {z:Int} {w:World} {F:Nat->Prop} (h:IntN i z w) (hF:Foot F i):Rests w F (IntN i z):=
 ⟨h,fun w' hw=>⟨h.k,h.cap,h.neg,(zam h.rd (fun j hj=>hF j (by rw[h.k];exact hj))).lift w' hw⟩⟩
theorem IntN.old {i:IV} {z:Int} {w:World} (h:IntN i z w):Rests w (·<w.heap.size) (IntN i z):=h.rests fun j hj=>h.rd.lt j (by rw[<-h.k];exact hj)
theorem Below.after {w W w1:World} (h:Below w.heap.size w W) (hb:Below W.heap.size W w1):Below w.heap.size w w1:=h.trans (hb.mono h.size)
def RetZ (z:Int) (w:World) (e:Ending) (w':World):Prop:=
 ∃i:IV,e=.returned (.agg (cI i))/\Rests w' (w.heap.size<=·) (IntN i z)/\Below w.heap.size w w'
abbrev rA (r:RV):Value:=.agg (cR r)
abbrev iA (r:IV):Value:=.agg (cI r)
end Go.Proofs.YtegfiemlnnpidaaGreatDoor
