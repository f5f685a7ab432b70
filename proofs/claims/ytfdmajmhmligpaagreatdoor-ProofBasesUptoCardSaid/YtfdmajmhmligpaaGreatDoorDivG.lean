/-
 limbs: DivMod of any two numbers; TrailingZeros64, twos.
-/
import Derived.Test.YtfdmajmhmligpaaGreatDoorLong
import Derived.Shelf.Spec.TrailingZeros
namespace Go.Proofs.YtfdmajmhmligpaaGreatDoor
set_option maxHeartbeats 1000000
open Go.RowKit

set_option maxRecDepth 100000 in
theorem zfI (w:World) (A B:Option Addr) (c d:Nat) (l m:List Nat) (hl:l.length≤900000000000) (hm:m.length≤900000000000) (hlc:l.length≤c) (hmd:m.length≤d) (ha:Rd w .u64 A l) (hb:Rd w .u64 B m)
 (hx:∀x∈l,x<B64) (hy:∀x∈m,x<B64) (h2:2≤used m):
 Calls Tryz.prog 123 #[.slice A l.length c,.slice B m.length d] w (zh2 (digs B64 (val B64 l/val B64 m)) (digs B64 (val B64 l%val B64 m)) w):=by
 have hml:=zay m
 have hll:=zay l
 have hsa:=ha.sl;have hsb:=hb.sl
 have hz:=zaA
 have Ha:=znd ha;have Hb:=znd hb;have Hx:=znd hx;have Hy:=znd hy
 have hum:=znd (zaK w B d m (by omega) hb)
 have q0:((used m:Int)==0)=false:=by simp;omega
 have q1:((used m:Int)==1)=false:=by simp;omega
 clear ha hb hx hy
 go_enter Tryz.func123,Tryz.ntmps123
 go_wp2_with fail
 refine hum.out.mono ?_
 rintro e w' ⟨rfl,rfl⟩
 go_wp2_with fail
 refine(zdO w A B c d l m (by omega) (by omega) Ha.out Hb.out Hx.out Hy.out).mono ?_
 rintro e w' ⟨rfl,q,rfl⟩
 by_cases hlt:val B64 l<val B64 m
 ·have hc:cmpN (val B64 l) (val B64 m)<0:=zbN.2 hlt
  have Hfin:Hid (digs B64 (val B64 l/val B64 m)=[]∧digs B64 (val B64 l%val B64 m)=trim l):=
   ⟨by rw[Nat.div_eq_of_lt hlt];rfl,by rw[Nat.mod_eq_of_lt hlt,zb5 (by decide) Hx.out]⟩
  clear hlt
  generalize cmpN (val B64 l) (val B64 m)=z at*
  go_wp2_with fail
  refine((zcg _ A c l (by omega) (Ha.out.drewN q)).mono fun _ _ h=>h.own (by rw[za5];omega) (zbp Hx.out)).mono ?_
  rintro e w1 ⟨A1,c1,rfl,ho1,hb1⟩
  have hc1:=ho1.len
  have hr1:=ho1.rd.1
  have HF:=znd (And.intro ho1.rd.2 ho1)
  clear ho1
  have HB:=znd hb1;have HR:=znd hr1;have HC:=znd hc1;clear hb1 hr1 hc1
  go_wp2_with fail
  go_ret2
  rw[Hfin.out.1,Hfin.out.2]
  exact⟨none,0,A1,c1,rfl,Nat.le_refl _,HC.out,Rd.nil_ _ _,HR.out,(Below.drewN (Below.refl _ _) q).trans HB.out,Fr.none_ _ _,HF.out⟩
 ·have hc:¬cmpN (val B64 l) (val B64 m)<0:=fun h=>hlt (zbN.1 h)
  have hle:used m≤used l:=by
   rcases Nat.lt_or_ge (used l) (used m)with h|h
   ·have h5:=zaP (b:=B64) (by decide) (zbp Hx.out) (zbt m) (by rw[za5,za5];exact h)
    rw[zaz,zaz]at h5;exact absurd h5 hlt
   ·exact h
  have Htop:=znd (show 0<nth (trim m) ((trim m).length-1)from Nat.pos_of_ne_zero (zgY (zbt m) (fun e=>by have:=za5 m;rw[e]at this;simp at this;omega)))
  clear hlt
  generalize cmpN (val B64 l) (val B64 m)=z at*
  have hlo:=fun W (hW:∀a,W.cell? a=w.cell? a)=>zkL W A B c d (trim l) (trim m) (by rw[za5];omega) (by rw[za5];omega) (by rw[za5,za5];omega) ((Ha.out.keep fun p _=>hW p).take _) ((Hb.out.keep fun p _=>hW p).take _) (zbp Hx.out) (zbp Hy.out) Htop.out
  have Hus:=znd (fun W (hW:∀a,W.cell? a=w.cell? a)=>zaK W A c l (by omega) (Ha.out.keep fun p _=>hW p))
  rw[za5,za5,zaz,zaz]at hlo
  have Hlo:=znd hlo
  clear hlo Htop
  generalize used l=ul at*
  generalize used m=um at*
  go_wp2_with fail
  go_region_with (first|(go_at_call 116;refine(Hus.out _ (by exact fun _=>rfl)).mono ?_;rintro e w' ⟨rfl,rfl⟩)|(go_at_call 137;refine(Hlo.out _ (by exact fun _=>rfl)).mono ?_;rintro e w1 ⟨A1,c1,A2,c2,rfl,hh⟩;have HH:=znd hh;clear hh))
  all_goals
   go_wp2_with fail
   go_ret2
   obtain⟨g1,g2,g3,g4,g5,g6,g7⟩:=HH.out
   exact⟨A1,c1,A2,c2,rfl,g1,g2,g3,g4,⟨g5.os,g5.tape,g5.output,g5.size,g5.block⟩,g6,g7⟩
theorem zdb (w:World) (A B:Option Addr) (c d:Nat) (l m:List Nat) (hl:l.length≤900000000000) (hm:m.length≤900000000000) (hlc:l.length≤c) (hmd:m.length≤d) (ha:Rd w .u64 A l) (hb:Rd w .u64 B m)
 (hx:∀x∈l,x<B64) (hy:∀x∈m,x<B64) (h0:val B64 m≠0):
 Calls Tryz.prog 123 #[.slice A l.length c,.slice B m.length d] w (zh2 (digs B64 (val B64 l/val B64 m)) (digs B64 (val B64 l%val B64 m)) w):=by
 have hu:used m≠0:=fun e=>h0 (zav e)
 by_cases h1:used m=1
 ·exact zhm w A B c d l m (by omega) (by omega) hlc ha hb hx hy h1
 ·exact zfI w A B c d l m hl hm hlc hmd ha hb hx hy (by omega)

def Tz (w:World):Prop:=TabAt 2 Lib.deBruijn64tab w
theorem Tz.keep {w w':World} (h:Tz w) (hk:w'.heap[(2:Nat)]?=w.heap[(2:Nat)]?):Tz w':=fun j hj=>(World.cell?_of_block hk).trans (h j hj)
theorem Tz.lt {w:World} (h:Tz w):2<w.heap.size:=World.block_lt_of_cell? w _ (h 0 (by decide))
theorem Tz.below {w w':World} (h:Tz w) (hb:Below w.heap.size w w'):Tz w':=h.keep (hb.block _ h.lt)
theorem Tz.drewN {w:World} (h:Tz w) (n:Nat):Tz (w.drewN n):=h
theorem Tz.alloc {w:World} (h:Tz w) (o:Obj):Tz (w.alloc o):=h.keep (Below.heap_alloc w o _ h.lt)
theorem Tz.ne {w:World} (h:Tz w) {g:Nat} {s:List Nat} (hB:Blk w g 138 (ints .u64 s)):2≠g:=fun e=>by
 have h1:=h 0 (by decide)
 rw[e,hB.cell 0]at h1
 cases s with
 |nil=>simp[ints]at h1
 |cons x xs=>simp[ints]at h1
theorem Tz.only {w w':World} (h:Tz w) {g:Nat} (ho:w.grownBy w' (some g)) (hne:2≠g):Tz w':=h.keep (ho.block _ h.lt (fun e=>hne (by injection e)))

theorem zl2 (x k idx:Nat) (w:World) (hx0:((x:Int)==0)=false)
 (key:IntKind.u64.wrap (bits BinOp.and IntKind.u64 (x:Int) (IntKind.u64.wrap (-(x:Int)))*285870213051353865)/288230376151711744=(idx:Int))
 (hi:idx<64) (hk:k<64) (hcell:w.cell? ⟨2,idx,none⟩=some (.int .u8 k)):
 Calls Tryz.prog 149 #[.int .u64 x] w fun e w'=>e=.returned (.int .i64 k)∧w=w':=by
 go_enter Tryz.func149,Tryz.ntmps149
 go_wp2_with (simp only[key])
 go_ret
 exact⟨rfl,rfl⟩
theorem zmI (x:Nat) (w:World) (h0:x≠0) (hx:x<B64) (hT:Tz w):Calls Tryz.prog 149 #[.int .u64 x] w fun e w'=>e=.returned (.int .i64 (Lib.ctz 64 x:Nat))∧w=w':=by
 obtain⟨hlow,hk⟩:=Lib.lowest_bit 64 x h0 hx
 obtain⟨hi,htab⟩:=Lib.deBruijn64_at _ hk
 have hcell:=hT _ hi
 rw[htab]at hcell
 exact zl2 x _ _ w (by simp;omega) (tz64_key x _ hx h0 hlow) hi hk hcell
theorem zkg (x:Nat) (h0:x≠0) (hx:x<B64):∃m,x=2^Lib.ctz 64 x*(2*m+1)∧Lib.ctz 64 x<64:=by
 have:=Lib.ctzFrom_spec 64 x (by omega) hx
 unfold Lib.ctz;rw[if_neg h0];exact this

def ziN (v t:Nat):Prop:=∃m,v=2^t*(2*m+1)
def zlu (v n:Nat) (w:World) (e:Ending) (w':World):Prop:=∃t,e=.returned (.int .i64 (t:Nat))∧ziN v t∧t≤64*n∧w=w'
theorem zkz {l:List Nat} {k:Nat} (hz:∀i,i<k→nth l i=0) (hk:k<l.length) (hx:∀x∈l,x<B64) (h0:nth l k≠0):ziN (val B64 l) (64*k+Lib.ctz 64 (nth l k))∧Lib.ctz 64 (nth l k)<64:=by
 obtain⟨m,hm,hlt⟩:=zkg (nth l k) h0 (zak za4 hx k)
 refine⟨?_,hlt⟩
 have h1:=zdP l k (by omega)
 have h2:valT B64 l k=0:=by
  have:valT B64 l k=valT B64 (List.replicate k 0) k:=zbq _ _ _ _ fun i hi=>by rw[hz i hi,zbz]
  rw[this,zbf _ _ _ (by simp),List.take_replicate,zbd]
 rw[h2,Nat.zero_add,zcO hk]at h1
 generalize Lib.ctz 64 (nth l k)=t at*
 generalize val B64 (l.drop (k+1))=r at*
 have e:B64=2^t*(2*2^(63-t)):=by
  rw[show 2*2^(63-t)=2^(63-t+1) by rw[Nat.pow_succ,Nat.mul_comm],←Nat.pow_add,show t+(63-t+1)=64 by omega];rfl
 refine⟨m+2^(63-t)*r,?_⟩
 rw[h1,Nat.pow_add,Nat.pow_mul,show 2^64=B64 from rfl,Nat.mul_assoc]
 congr 1
 rw[hm]
 have e2:B64*r=2^t*(2*(2^(63-t)*r)):=by rw[e];generalize 2^t=a;generalize 2^(63-t)=b;grind
 rw[e2,←Nat.mul_add]
 congr 1;omega

set_option maxRecDepth 100000 in
theorem zdq (w:World) (A:Option Addr) (c:Nat) (l:List Nat) (hl:l.length≤1000000000000) (hr:Rd w .u64 A l) (hx:∀x∈l,x<B64) (h0:val B64 l≠0) (hT:Tz w):
 Calls Tryz.prog 141 #[.slice A l.length c] w (zlu (val B64 l) l.length w):=by
 have hsl:=hr.sl
 have h1:=zaA
 have Hr:=znd hr;have Hx:=znd hx;have H0:=znd h0;have HT:=znd hT
 clear hr hx h0 hT
 go_enter Tryz.func141,Tryz.ntmps141
 go_wp2_with fail
 go_loop [3] (fun n=>∃k:Nat,k≤l.length∧n=.int .i64 k∧Hid (∀i,i<k→nth l i=0)) (fun n=>l.length-(intOf n).toNat)
 case atStart=>exact⟨0,Nat.zero_le _,rfl,(show∀i,i<0→nth l i=0 from fun i h=>by omega)⟩
 case round=>
  obtain⟨k,hk,rfl,hz⟩:=hrel
  by_cases hlt:k<l.length
  ·have hcell:=Hr.out.cell k hlt
   by_cases hc0:nth l k=0
   ·rw[hc0]at hcell
    have Hz:Hid (∀i,i<k+1→nth l i=0):=(show∀i,i<k+1→nth l i=0 from fun i hi=>by
     by_cases e:i=k
     ·rw[e];exact hc0
     ·exact hz.out i (by omega))
    clear hc0 hz
    go_wp2_with fail
    go_round
    case rel=>exact⟨k+1,by omega,by go_num,Hz⟩
    case measure=>simp[intOf];omega
   ·have hne:((nth l k:Int)==0)=false:=by simpa using hc0
    obtain⟨ht,hct⟩:=zkz hz.out hlt Hx.out hc0
    have HI:=znd ht
    have Htz:=znd (zmI (nth l k) w hc0 (zak za4 Hx.out k) HT.out)
    clear hc0 hz ht
    generalize Lib.ctz 64 (nth l k)=t at*
    generalize nth l k=x at*
    go_wp2_with fail
    refine Htz.out.mono ?_
    rintro e w' ⟨rfl,rfl⟩
    go_wp2_with fail
    go_ret
    exact⟨64*k+t,zc6 (by omega),HI.out,by omega,rfl⟩
  ·exfalso
   apply H0.out
   have h5:valT B64 l l.length=valT B64 (List.replicate l.length 0) l.length:=zbq _ _ _ _ fun i hi=>by rw[hz.out i (by omega),zbz]
   rw[zaD,zbf _ _ _ (by simp),List.take_replicate,zbd]at h5
   exact h5
end Go.Proofs.YtfdmajmhmligpaaGreatDoor
