/-
 limbs: used, tidy, reader, Trim. limbs: Cmp, Add, Sub. limbs: lessen, Sub.
-/
import Derived.Test.YtegfiemlnnpidaaGreatDoorBase
import Derived.StillTailTactics
import Derived.Shelf.Spec.BitsCarry
namespace Go.Proofs.YtegfiemlnnpidaaGreatDoor
set_option maxHeartbeats 1000000
open Go.RowKit

theorem zcc:(Tryz.prog.info? 50).map (fun i=>(i.zero,i.size,i.bytes))=some (some (.int .u64 0),1,8):=by kernel_rfl
theorem zaA (w:World):(sizeOf (Tryz.prog.elem 51)).run Tryz.prog w=.ok 1 w:=by kernel_rfl

theorem zaK (w:World) (A:Option Addr) (c:Nat) (l:List Nat) (hl:l.length<=9223372036854775807) (hr:Rd w .u64 A l):
 Calls Tryz.prog 155 #[.slice A l.length c] w fun e w'=>e=.returned (.int .i64 (used l))/\w=w':=by
 have hsl:=hr.sl;have h1:=zaA;have Hr:=znd hr;clear hr;unfold used;go_enter Tryz.func155,Tryz.ntmps155;go_wp2
 go_loop [3] (fun n=>∃k:Nat,k<=l.length/\n=.int .i64 k/\Hid (zbI l l.length=zbI l k)) (fun n=>(intOf n).toNat)
 case atStart=>exact⟨l.length,Nat.le_refl _,rfl,rfl⟩
 case round=>
  obtain⟨k,hk,rfl,hu⟩:=hrel;rcases k with _|k
  ·go_wp2;go_ret;exact⟨zc6 (by rw[hu.out];rfl),rfl⟩
  ·have hcell:=Hr.out.cell k (by omega);by_cases h0:nth l k=0
   ·rw[h0]at hcell;have Hu:Hid (zbI l l.length=zbI l k):=by rw[hu.out];show zbI l (k+1)=_;simp only[zbI,if_pos h0]
    clear h0 hu;go_wp2
    go_round
    case rel=>exact⟨k,by omega,by go_num,Hu⟩
    case measure=>simp[intOf]
   ·have Hu:Hid (zbI l l.length=k+1):=by rw[hu.out];show zbI l (k+1)=_;simp only[zbI,if_neg h0]
    have hne:((nth l k:Int)==0)=false:=by simpa using h0
    clear h0 hu;generalize nth l k=x at*;go_wp2;go_ret;exact⟨zc6 (by rw[Hu.out];omega),rfl⟩

def Fr (B:Nat) (A:Option Addr) (l:List Nat):Prop:=∀i,i<l.length->B<=(adr A i).block
theorem Fr.none_ (B:Nat) (A:Option Addr):Fr B A []:=fun i h=>absurd h (by simp)
theorem Fr.of_blk {B g:Nat} (h:B<=g) (l:List Nat):Fr B (some ⟨g,0,none⟩) l:=fun _ _=>h
def RetL (k:IntKind) (l:List Nat) (w:World) (e:Ending) (w':World):Prop:=∃A c,e=.returned (.slice A l.length c)/\l.length<=c/\Rd w' k A l/\Below w.heap.size w w'/\Fr w.heap.size A l
def RetIn (A:Option Addr) (c:Nat) (l:List Nat) (w:World) (e:Ending) (w':World):Prop:=∃A' c',e=.returned (.slice A' l.length c')/\l.length<=c'/\(A'=none/\l=[]\/A'=A/\c'=c)/\w=w'

theorem zbP (w:World) (A:Option Addr) (c:Nat) (l:List Nat) (hl:l.length<=9223372036854775807) (hc:l.length<=c) (hr:Rd w .u64 A l):
 Calls Tryz.prog 191 #[.slice A l.length c] w (RetIn A c (trim l) w):=by
 have hu:=zay l;have hlt:=za5 l;have Hlt:=znd hlt;clear hlt;go_enter Tryz.func191,Tryz.ntmps191;go_wp2_with fail;refine(zaK w A c l hl hr).mono ?_;rintro e w' ⟨rfl,rfl⟩;by_cases h0:used l=0
 ·have Ht:Hid (trim l=[]):=by apply List.eq_nil_of_length_eq_zero;rw[Hlt.out,h0]
  rw[h0];go_wp2;go_ret;exact⟨none,0,by rw[Ht.out];rfl,by rw[Ht.out];exact Nat.zero_le _,.inl ⟨rfl,Ht.out⟩,rfl⟩
 ·have hne:((used l:Int)==0)=false:=by simpa using h0
  generalize used l=u at*;go_wp2;go_ret;exact⟨A,c,by rw[Hlt.out];rfl,by rw[Hlt.out];omega,.inr ⟨rfl,rfl⟩,rfl⟩

theorem zm1 {l:List Nat} {i:Nat} (h:l.length<=i):nth l i=0:=by simp[nth,List.getD,h]

theorem zca (w:World) (A:Option Addr) (c p:Nat) (l:List Nat) (i:Int) (h0:0<=i) (_hl:l.length<=9223372036854775807) (hc:w.cell? ⟨p,0,none⟩=some (.slice A l.length c)) (hr:Rd w .u64 A l):
 Calls Tryz.prog 238 #[.int .i64 i,.pointer (some ⟨p,0,none⟩)] w fun e w'=>e=.returned (.int .u64 (nth l i.toNat:Nat))/\w=w':=by
 have hsl:=hr.sl;have h1:=zaA;have Hr:=znd hr;clear hr;obtain⟨k,rfl⟩:=Int.eq_ofNat_of_zero_le h0;rw[Int.toNat_natCast];by_cases hk:k<l.length
 ·have hcell:=Hr.out.cell k hk;generalize nth l k=x at*;go_enter Tryz.func238,Tryz.ntmps238;go_wp2;go_ret;exact⟨rfl,rfl⟩
 ·rw[zm1 (by omega)];go_enter Tryz.func238,Tryz.ntmps238;go_wp2;go_ret;exact⟨rfl,rfl⟩

theorem zcy (w:World) (A:Option Addr) (c:Nat) (l:List Nat):
 Calls Tryz.prog 214 #[.slice A l.length c] w fun e w'=>e=.returned (.func (.func 238) #[] #[.pointer (some ⟨w.heap.size,0,none⟩)])/\w.alloc (.cells #[.slice A l.length c] 51)=w':=by
 go_enter Tryz.func214,Tryz.ntmps214;go_wp2;go_ret;exact⟨rfl,rfl⟩

def RetNew (l:List Nat) (w:World) (e:Ending) (w':World):Prop:=
 ∃A c,e=.returned (.slice A l.length c)/\(l=[]/\A=none/\c=0\/∃g,A=some ⟨g,0,none⟩/\c=l.length/\w.heap.size<=g/\Blk w' g 50 (ints .u64 l))/\Below w.heap.size w w'
theorem RetNew.ret {l:List Nat} {w w':World} {e:Ending} (h:RetNew l w e w'):RetL .u64 l w e w':=by
 obtain⟨A,c,rfl,ho,hb⟩:=h;rcases ho with⟨rfl,rfl,rfl⟩|⟨g,rfl,rfl,hgs,hg⟩
 ·exact⟨none,0,rfl,Nat.le_refl _,Rd.nil_ _ _,hb,Fr.none_ _ _⟩
 ·exact⟨_,_,rfl,Nat.le_refl _,Rd.of_blk hg,hb,Fr.of_blk hgs _⟩

theorem zcg (w:World) (A:Option Addr) (c:Nat) (l:List Nat) (hl:l.length<=17592186044416) (hr:Rd w .u64 A l):
 Calls Tryz.prog 117 #[.slice A l.length c] w (RetNew (trim l) w):=by
 have hu:=zay l;have hlt:=za5 l;have Hlt:=znd hlt;clear hlt;go_enter Tryz.func117,Tryz.ntmps117;go_wp2_with fail;refine(zaK w A c l (by omega) hr).mono ?_;rintro e w' ⟨rfl,rfl⟩;by_cases h0:used l=0
 ·have Ht:Hid (trim l=[]):=by apply List.eq_nil_of_length_eq_zero;rw[Hlt.out,h0]
  rw[h0];go_wp2;go_ret;exact⟨none,0,by rw[Ht.out];rfl,.inl ⟨Ht.out,rfl,rfl⟩,Below.refl _ _⟩
 ·have hne:((used l:Int)==0)=false:=by simpa using h0
  have Ht:Hid (trim l=l.take (used l)):=rfl;generalize used l=u at*;have hmk:=fun W=>run_make_row' (P:=Tryz.prog) 51 50 (.int .u64 0) 8 Tryz.underlying51 zcc rfl .i64 .i64 u (by omega) (by omega) W
  obtain⟨w1,hcp,hb1,hg1⟩:=zd3 (P:=Tryz.prog) (w.alloc (.cells (madeCells #[.int .u64 0] u) 50)) 51 51 3 50 50 w.heap.size u u c u A .u64 (List.replicate u 0) l
   Tryz.underlying51 (by kernel_rfl) (by rw[<-zbE];exact Blk.new _ _ _) (by simp) (hr.alloc _) (by omega)
  go_wp2;go_ret;refine⟨some ⟨w.heap.size,0,none⟩,u,by rw[Hlt.out];rfl,.inr ⟨w.heap.size,rfl,Hlt.out.symm,Nat.le_refl _,?_⟩,?_⟩
  ·rw[Ht.out];have e:l.take u++(List.replicate u 0).drop u=l.take u:=by simp
   rw[e]at hb1;exact hb1
  ·exact((Below.refl _ _).alloc (Nat.le_refl _) _).grown hg1 (by simp) (fun k hk=>by cases hk;exact Nat.le_refl _)

theorem zgy (w:World) (A:Option Addr) (c:Nat) (l:List Nat) (hl:l.length<=17592186044416) (hr:Rd w .u64 A l):
 Calls Tryz.prog 117 #[.slice A l.length c] w (RetL .u64 (trim l) w):=(zcg w A c l hl hr).mono fun _ _ h=>h.ret

theorem RetIn.rd {A:Option Addr} {c:Nat} {l:List Nat} {w w':World} {e:Ending} {k:IntKind} (h:RetIn A c l w e w') (hr:Rd w k A l):∃A' c',e=.returned (.slice A' l.length c')/\l.length<=c'/\(Rd w k A' l/\∀B,Fr B A l->Fr B A' l)/\w=w':=by
 obtain⟨A',c',rfl,hc,ho,rfl⟩:=h;refine⟨A',c',rfl,hc,?_,rfl⟩;rcases ho with⟨rfl,rfl⟩|⟨rfl,rfl⟩
 ·exact⟨Rd.nil_ _ _,fun _ _=>Fr.none_ _ _⟩
 ·exact⟨hr,fun _ h=>h⟩

theorem zg1 (a b:Nat) (w:World):Calls Tryz.prog 147 #[.int .i64 a,.int .i64 b] w fun e w'=>e=.returned (.int .i64 (cmpN a b))/\w=w':=by
 unfold cmpN;by_cases h1:a<b
 ·rw[if_pos h1];have h2:¬b<a:=by omega
  go_enter Tryz.func147,Tryz.ntmps147;go_wp2;go_ret;exact⟨rfl,rfl⟩
 ·rw[if_neg h1];by_cases h2:a=b
  ·subst h2;rw[if_pos rfl];go_enter Tryz.func147,Tryz.ntmps147;go_wp2;go_ret;exact⟨rfl,rfl⟩
  ·rw[if_neg h2];have h3:b<a:=by omega
   go_enter Tryz.func147,Tryz.ntmps147;go_wp2;go_ret;exact⟨rfl,rfl⟩
theorem zgc (a b:Nat) (w:World):Calls Tryz.prog 188 #[.int .u64 a,.int .u64 b] w fun e w'=>e=.returned (.int .i64 (cmpN a b))/\w=w':=by
 unfold cmpN;by_cases h1:a<b
 ·rw[if_pos h1];have h2:¬b<a:=by omega
  go_enter Tryz.func188,Tryz.ntmps188;go_wp2;go_ret;exact⟨rfl,rfl⟩
 ·rw[if_neg h1];by_cases h2:a=b
  ·subst h2;rw[if_pos rfl];go_enter Tryz.func188,Tryz.ntmps188;go_wp2;go_ret;exact⟨rfl,rfl⟩
  ·rw[if_neg h2];have h3:b<a:=by omega
   go_enter Tryz.func188,Tryz.ntmps188;go_wp2;go_ret;exact⟨rfl,rfl⟩

theorem zdO (w:World) (A B:Option Addr) (c d:Nat) (l m:List Nat) (hl:l.length<=17592186044416) (hm:m.length<=17592186044416) (ha:Rd w .u64 A l) (hb:Rd w .u64 B m)
 (hx:∀x∈l,x<B64) (hy:∀x∈m,x<B64):
 Calls Tryz.prog 148 #[.slice A l.length c,.slice B m.length d] w fun e w'=>e=.returned (.int .i64 (cmpN (val B64 l) (val B64 m)))/\∃n,w'=w.drewN n:=by
 have hul:=zay l;have hum:=zay m;have Ha:=znd ha;have Hb:=znd hb;have Hx:=znd hx;have Hy:=znd hy;have hsa:=ha.sl;have hsb:=hb.sl;have h1:=zaA;clear ha hb hx hy;go_enter Tryz.func148,Tryz.ntmps148;go_wp2_with fail;refine(zaK w A c l (by omega) Ha.out).mono ?_;rintro e w' ⟨rfl,rfl⟩;go_wp2_with fail;refine(zaK w B d m (by omega) Hb.out).mono ?_;rintro e w' ⟨rfl,rfl⟩;by_cases hne:used l=used m
 ·have hq:((used l:Int) != (used m:Int))=false:=by simp[hne]
  have Hne:=znd hne;clear hne;have Hvl:=znd (zbl B64 l (used l) (Nat.le_refl _));have Hvm:=znd (zbl B64 m (used l) (by rw[Hne.out];exact Nat.le_refl _));have hum':used l<=m.length:=by rw[Hne.out];exact hum
  clear hum;generalize used l=n at*;generalize used m=n' at*;go_wp2;go_loopw [20] (fun i wr=>∃k:Nat,k<=n/\i=.int .i64 k/\Hid (∀j,n-k<=j->j<n->nth l j=nth m j)/\∃q,wr=w.drewN q) (fun i _=>n-(intOf i).toNat)
  case atStart=>exact⟨0,Nat.zero_le _,rfl,(show∀j,n-0<=j->j<n->nth l j=nth m j from fun j h1 h2=>by omega),0,rfl⟩
  case round=>
   obtain⟨k,hk,rfl,hs,q,rfl⟩:=hrel;by_cases hlt:k<n
   ·have hca:=Ha.out.cell (n-1-k) (by omega);have hcb:=Hb.out.cell (n-1-k) (by omega);have i1:0<=(n:Int)-1-k:=by omega
    have i2:(n:Int)-1-k<l.length:=by omega
    have i3:(n:Int)-1-k<m.length:=by omega
    have i4:((n:Int)-1-k).toNat=n-1-k:=by omega
    by_cases hxy:nth l (n-1-k)=nth m (n-1-k)
    ·have hs':Hid (∀j,n-(k+1)<=j->j<n->nth l j=nth m j):=(show∀j,n-(k+1)<=j->j<n->nth l j=nth m j from fun j h1 h2=>by
      by_cases e:j=n-1-k
      ·rw[e];exact hxy
      ·exact hs.out j (by omega) h2)
     rw[<-hxy]at hcb;clear hxy hs;generalize nth l (n-1-k)=x at*;go_wp2;go_quiet (fail);go_wp2;go_roundw
     case rel=>exact⟨k+1,by omega,by go_num,hs',_,rfl⟩
     case measure=>simp[intOf];omega
    ·have Hr:Hid (cmpN (nth l (n-1-k)) (nth m (n-1-k))=cmpN (val B64 l) (val B64 m)):=by
      rw[<-Hvl.out,<-Hvm.out];exact zmm za4 Hx.out Hy.out n (n-1-k) (by omega) (fun j h1 h2=>hs.out j (by omega) h2) hxy
     have hq2:((nth l (n-1-k):Int) != (nth m (n-1-k):Int))=true:=by rw[bne_iff_ne];exact fun h=>hxy (Int.ofNat.inj h)
     clear hxy;generalize nth l (n-1-k)=x at*;generalize nth m (n-1-k)=y at*;go_wp2;go_quiet (fail);go_wp2;go_quiet ((go_at_call 188;exact(zgc _ _ _).mono fun e w' h=>⟨h.1,_,h.2.symm⟩));go_wp2;go_ret;exact⟨zc6 (by rw[Hr.out]),zdX (zdX ⟨_,rfl⟩ ⟨_,rfl⟩) ⟨_,rfl⟩⟩
   ·obtain rfl:k=n:=by omega
    have Hr:=znd (show cmpN (val B64 l) (val B64 m)=0 by rw[<-Hvl.out,<-Hvm.out,zbq B64 l m k (fun j hj=>hs.out j (by omega) hj),zcS]);go_wp2;go_ret;exact⟨zc6 Hr.out.symm,_,rfl⟩
 ·have hq:((used l:Int) != (used m:Int))=true:=by simp;omega
  have Hr:=znd (zh6 (b:=B64) (by decide) Hx.out Hy.out hne);clear hne;generalize used l=n at*;generalize used m=n' at*;go_wp2_with fail;refine(zg1 _ _ _).mono ?_;rintro e w' ⟨rfl,rfl⟩;go_wp2;go_ret;exact⟨zc6 Hr.out,0,rfl⟩

theorem zbO (x y c:Nat) (hc:c<=1) (w:World):
 (callFunc 190 #[.int .u64 x,.int .u64 y,.int .u64 c]).run Tryz.prog w=
  .ok (.value (.tuple #[.int .u64 (((x+y+c)%B64:Nat):Int),.int .u64 (((x+y+c)/B64:Nat):Int)])) w:=by
 rw[run_callFunc_extern Tryz.func190 (by kernel_rfl) (by kernel_rfl) (by kernel_rfl) (e:=add64Entry) (by kernel_rfl),run_add64 x y c (by omega) (by omega) (by omega) (by omega)];simp only[Result.andThen,B64];congr 5<;>omega

theorem zcl (x y c:Nat) (hc:c<=1) (w:World):
 (callFunc 239 #[.int .u64 x,.int .u64 y,.int .u64 c]).run Tryz.prog w=
  .ok (.value (.tuple #[.int .u64 (((x+B64-y-c)%B64:Nat):Int),.int .u64 ((if x<y+c then 1 else 0:Nat):Int)])) w:=by
 rw[run_callFunc_extern Tryz.func239 (by kernel_rfl) (by kernel_rfl) (by kernel_rfl) (e:=sub64Entry) (by kernel_rfl),run_sub64 x y c hc];rfl

theorem zgi {k a b s c x y:Nat} (h:s+B64^k*c=a+b):s+B64^k*((x+y+c)%B64)+B64^(k+1)*((x+y+c)/B64)=(a+B64^k*x)+(b+B64^k*y):=by
 have e:B64^k*((x+y+c)%B64)+B64^(k+1)*((x+y+c)/B64)=B64^k*(x+y+c):=by
  rw[Nat.pow_succ,Nat.mul_assoc,<-Nat.mul_add];congr 1;have:=Nat.div_add_mod (x+y+c) B64;omega
 rw[Nat.add_assoc,e,Nat.mul_add,Nat.mul_add];omega

structure AddInv (w wr:World) (A B:Option Addr) (c d n k cc:Nat) (l m s:List Nat):Prop where
 len:s.length=n+1
 lt:∀x∈s,x<B64
 blk:Blk wr (w.heap.size+1+1) 50 (ints .u64 s)
 ca:wr.cell? ⟨w.heap.size,0,none⟩=some (.slice A l.length c)
 cb:wr.cell? ⟨w.heap.size+1,0,none⟩=some (.slice B m.length d)
 below:Below w.heap.size w wr
 sum:valT B64 s k+B64^k*cc=valT B64 l k+valT B64 m k

theorem AddInv.next {w wr:World} {A B:Option Addr} {c d n k cc:Nat} {l m s:List Nat} (h:AddInv w wr A B c d n k cc l m s) (hk:k<n):
 AddInv w (wr.setCell ⟨w.heap.size+1+1,k,none⟩ (.int .u64 (((nth l k+nth m k+cc)%B64:Nat):Int))) A B c d n (k+1) ((nth l k+nth m k+cc)/B64) l m (s.set k ((nth l k+nth m k+cc)%B64)):=by
 have hz:=h.below.size;refine⟨by simp[h.len],zcr h.lt _ _ (Nat.mod_lt _ za4),?_,?_,?_,h.below.setCell (by show _<=w.heap.size+1+1;omega) _,?_⟩
 ·have:=h.blk.set_ k (.int .u64 (((nth l k+nth m k+cc)%B64:Nat):Int));rw[zbj]at this;exact this
 ·rw[World.cell?_setCell_other _ _ _ _ (by simp)];exact h.ca
 ·rw[World.cell?_setCell_other _ _ _ _ (by simp)];exact h.cb
 ·rw[valT,zbx _ _ _ _ _ (Nat.le_refl _),zaq _ _ _ (by rw[h.len];omega),valT,valT];exact zgi h.sum

theorem Below.of_alloc (w:World) (o:Obj):Below w.heap.size w (w.alloc o):=(Below.refl _ _).alloc (Nat.le_refl _) _

set_option maxRecDepth 100000 in
theorem zik (w:World) (A B:Option Addr) (c d:Nat) (l m:List Nat) (hl:l.length<=17592186044000) (hm:m.length<=17592186044000) (ha:Rd w .u64 A l) (hb:Rd w .u64 B m)
 (hx:∀x∈l,x<B64) (hy:∀x∈m,x<B64):
 Calls Tryz.prog 178 #[.slice A l.length c,.slice B m.length d] w (RetL .u64 (digs B64 (val B64 l+val B64 m)) w):=by
 have hul:=zay l;have hum:=zay m;have Ha:=znd ha;have Hb:=znd hb;have Hx:=znd hx;have Hy:=znd hy;clear ha hb hx hy;go_enter Tryz.func178,Tryz.ntmps178;go_wp2_with fail;refine(zaK w A c l (by omega) Ha.out).mono ?_;rintro e w' ⟨rfl,rfl⟩;go_wp2_with fail;refine(zaK w B d m (by omega) Hb.out).mono ?_;rintro e w' ⟨rfl,rfl⟩;obtain⟨n,hn⟩:∃n,n=max (used l) (used m):=⟨_,rfl⟩;have hmx:∀W,(Builtin.max_ #[3,3] 3 #[.int .i64 (used l:Int),.int .i64 (used m:Int)]).run Tryz.prog W=.ok (.int .i64 (n:Int)) W:=fun W=>by
  rw[run_max_int2,hn];congr 2;split<;>omega
 have h1:used l<=n:=by omega
 have h2:used m<=n:=by omega
 have h3:n<=17592186044000:=by omega
 have Hvl:=znd (zbl B64 l n h1);have Hvm:=znd (zbl B64 m n h2);clear hn;go_wp2_with fail;refine(zcy w A c l).mono ?_;rintro e w' ⟨rfl,rfl⟩;go_wp2_with fail;refine(zcy _ B d m).mono ?_;rintro e w' ⟨rfl,rfl⟩;have hmk:=fun W=>run_make_row' (P:=Tryz.prog) 51 50 (.int .u64 0) 8 Tryz.underlying51 zcc rfl .i64 .i64 (n+1) (by omega) (by omega) W;simp only[Int.natCast_add,Int.cast_ofNat_Int]at hmk;clear hmx h1 h2 hul hum;generalize used l=ul at*;generalize used m=um at*;go_wp2_with fail;go_loopw [9,24] (fun cv i wr=>∃(k cc:Nat) (s:List Nat),k<=n/\cc<=1/\cv=.int .u64 cc/\i=.int .i64 k/\AddInv w wr A B c d n k cc l m s) (fun _ i _=>n-(intOf i).toNat)
 case atStart=>
  refine⟨0,0,List.replicate (n+1) 0,Nat.zero_le _,Nat.zero_le _,rfl,rfl,by simp,?_,?_,?_,?_,?_,?_⟩
  ·intro x hx;rw[(List.mem_replicate.1 hx).2];exact za4
  ·rw[<-zbE];have:=Blk.new ((w.alloc (.cells #[.slice A l.length c] 51)).alloc (.cells #[.slice B m.length d] 51)) 50 (madeCells #[.int .u64 0] (n+1));simpa using this
  ·have:=(((Blk.new w 51 #[.slice A l.length c]).alloc (.cells #[.slice B m.length d] 51)).alloc (.cells (madeCells #[.int .u64 0] (n+1)) 50)).cell 0;simpa using this
  ·have:=((Blk.new (w.alloc (.cells #[.slice A l.length c] 51)) 51 #[.slice B m.length d]).alloc (.cells (madeCells #[.int .u64 0] (n+1)) 50)).cell 0;simpa using this
  ·exact(((Below.refl _ _).alloc (Nat.le_refl _) _).alloc (by simp) _).alloc (by simp;omega) _
  ·rfl
 case round=>
  obtain⟨k,cc,s,hk,hcc,rfl,rfl,hI⟩:=hrel;by_cases hlt:k<n
  ·have hcell:=hI.blk.cell k;rw[zaC .u64 s k (by rw[hI.len];omega)]at hcell;have hfz:=hI.blk.frozen k;go_wp2_with fail;refine(zca wr A c _ l k (by omega) (by omega) hI.ca (Ha.out.below hI.below (Nat.le_refl _))).mono ?_;rintro e w' ⟨rfl,rfl⟩;rw[Int.toNat_natCast];go_wp2_with fail;refine(zca _ B d _ m k (by omega) (by omega) hI.cb (Hb.out.below hI.below (Nat.le_refl _))).mono ?_;rintro e w' ⟨rfl,rfl⟩;rw[Int.toNat_natCast];have hadd:=zbO (nth l k) (nth m k) cc hcc;have hN:=znd (hI.next hlt);have hq:(nth l k+nth m k+cc)/B64<=1:=by
    have e1:=zak za4 Hx.out k;have e2:=zak za4 Hy.out k;rw[Nat.div_le_iff_le_mul_add_pred za4];omega
   clear hI;generalize nth l k=x at*;generalize nth m k=y at*;generalize nth s k=z at*;generalize (x+y+cc)/B64=q at*;generalize (x+y+cc)%B64=r at*;go_wp2;go_roundw
   case rel=>exact⟨k+1,q,s.set k r,by omega,hq,rfl,by go_num,hN.out⟩
   case measure=>simp[intOf];omega
  ·obtain rfl:k=n:=by omega
   have hcell:=hI.blk.cell k;rw[zaC .u64 s k (by rw[hI.len];omega)]at hcell;have hfz:=hI.blk.frozen k;have hlen:(s.set k cc).length=k+1:=by simp[hI.len]
   have hlt':∀x∈s.set k cc,x<B64:=zcr hI.lt _ _ (by simp only[B64];omega);have hblk:=hI.blk.set_ k (.int .u64 (cc:Int));rw[zbj]at hblk;have hval:val B64 (s.set k cc)=val B64 l+val B64 m:=by
    rw[<-zaD,hlen,valT,zbx _ _ _ _ _ (Nat.le_refl _),zaq _ _ _ (by rw[hI.len];omega),hI.sum,Hvl.out,Hvm.out]
   have hbel:Below w.heap.size w (wr.setCell ⟨w.heap.size+1+1,k,none⟩ (.int .u64 (cc:Int))):=hI.below.setCell (by show _<=w.heap.size+1+1;omega) _;have Hfin:Hid (trim (s.set k cc)=digs B64 (val B64 l+val B64 m)):=by
    show _=_
    rw[zb5 (by decide) hlt',hval]
   have htd:=zbP (wr.setCell ⟨w.heap.size+1+1,k,none⟩ (.int .u64 (cc:Int))) (some ⟨w.heap.size+1+1,0,none⟩) (k+1) (s.set k cc) (by omega) (by omega) (Rd.of_blk hblk);have hrt:=(Rd.of_blk hblk).take (used (s.set k cc));rw[hlen]at htd;have Htd:=znd htd;have Hrt:=znd hrt;have Hbel:=znd hbel;clear htd hrt hbel hval hblk hlen hlt' hI hmk;generalize nth s k=z at*;go_wp2_with fail;refine Htd.out.mono ?_;intro e w' hret;obtain⟨A',c',rfl,hc',hr',rfl⟩:=hret.rd Hrt.out;have HR:=znd hr';have HC:=znd hc';clear hr' hc' hret Htd Hrt;go_wp2;go_ret;rw[<-Hfin.out];exact⟨A',c',rfl,HC.out,HR.out.1,Hbel.out,HR.out.2 _ (Fr.of_blk (by omega) _)⟩

theorem zel {a w:World} {row:Option Nat} (h:a.grownBy w row) (o:Obj):a.grownBy (w.alloc o) row:=
 ⟨h.os,h.tape,h.output,Nat.le_trans h.size (by simp),fun i hi hne=>(Below.heap_alloc w o i (Nat.lt_of_lt_of_le hi h.size)).trans (h.block i hi hne)⟩
theorem zi0 {a w:World} {row:Option Nat} (h:a.grownBy w row):a.grownBy w.drew row:=⟨h.os,h.tape,h.output,h.size,h.block⟩
theorem zeJ {a w:World} {g:Nat} (h:a.grownBy w (some g)) (i:Nat) (u:Value):a.grownBy (w.setCell ⟨g,i,none⟩ u) (some g):=
 ⟨h.os,h.tape,h.output,by simpa[World.setCell] using h.size,fun j hj hne=>(Below.heap_setCell w _ u j (by rintro rfl;exact hne rfl)).trans (h.block j hj hne)⟩
theorem Rd.only {w w':World} {k:IntKind} {A:Option Addr} {l:List Nat} {g:Nat} (h:Rd w k A l) (ho:w.grownBy w' (some g)) (hne:∀i,i<l.length->(adr A i).block≠g):Rd w' k A l:=
 ⟨h.sl,fun i hi=>(World.cell?_of_block (ho.block _ (h.lt i hi) (fun e=>hne i hi (by injection e)))).trans (h.cell i hi)⟩

theorem zeO {x y c:Nat} (hx:x<B64) (hy:y<B64) (hc:c<=1):(x+B64-y-c)%B64+(y+c)=x+B64*(if x<y+c then 1 else 0):=by
 split
 ·rw[Nat.mod_eq_of_lt (by omega)];omega
 ·have e:x+B64-y-c=(x-y-c)+B64:=by omega
  rw[e,Nat.add_mod_right,Nat.mod_eq_of_lt (by omega)];omega

structure LesInv (w wr:World) (B:Option Addr) (g d k bw:Nat) (m s0 s:List Nat):Prop where
 len:s.length=s0.length
 lt:∀x∈s,x<B64
 rest:∀j,k<=j->nth s j=nth s0 j
 blk:Blk wr g 50 (ints .u64 s)
 cb:wr.cell? ⟨w.heap.size,0,none⟩=some (.slice B m.length d)
 gr:w.grownBy wr (some g)
 sub:valT B64 s k+valT B64 m k=valT B64 s0 k+B64^k*bw

theorem LesInv.drew {w wr:World} {B:Option Addr} {g d k bw:Nat} {m s0 s:List Nat} (h:LesInv w wr B g d k bw m s0 s):LesInv w wr.drew B g d k bw m s0 s:=
 ⟨h.len,h.lt,h.rest,h.blk,h.cb,zi0 h.gr,h.sub⟩

theorem LesInv.next {w wr:World} {B:Option Addr} {g d k bw:Nat} {m s0 s:List Nat} (h:LesInv w wr B g d k bw m s0 s) (hk:k<s0.length) (hg:g<w.heap.size) (hm:∀x∈m,x<B64) (hb:bw<=1):
 LesInv w (wr.setCell ⟨g,k,none⟩ (.int .u64 (((nth s k+B64-nth m k-bw)%B64:Nat):Int))) B g d (k+1) (if nth s k<nth m k+bw then 1 else 0) m s0 (s.set k ((nth s k+B64-nth m k-bw)%B64)):=by
 refine⟨by simp[h.len],zcr h.lt _ _ (Nat.mod_lt _ za4),?_,?_,?_,zeJ h.gr _ _,?_⟩
 ·intro j hj;rw[getD_set_ne _ _ _ _ (by omega)];exact h.rest j (by omega)
 ·have:=h.blk.set_ k (.int .u64 (((nth s k+B64-nth m k-bw)%B64:Nat):Int));rw[zbj]at this;exact this
 ·rw[World.cell?_setCell_other _ _ _ _ (fun e=>by injection e;omega)];exact h.cb
 ·have e:=zeO (zak za4 h.lt k) (zak za4 hm k) hb;have e2:B64^k*((nth s k+B64-nth m k-bw)%B64)+B64^k*(nth m k+bw)=B64^k*nth s k+B64^k*(B64*(if nth s k<nth m k+bw then 1 else 0)):=by
   rw[<-Nat.mul_add,<-Nat.mul_add,e]
  rw[valT,zbx _ _ _ _ _ (Nat.le_refl _),zaq _ _ _ (by rw[h.len];omega),valT,valT,Nat.pow_succ,Nat.mul_assoc,<-h.rest k (Nat.le_refl _)];have:=h.sub;rw[Nat.mul_add]at e2;omega

def zie (w:World) (g n c v:Nat) (s0:List Nat) (e:Ending) (w':World):Prop:=
 e=.returned (.slice (some ⟨g,0,none⟩) n c)/\∃s,Blk w' g 50 (ints .u64 s)/\s.length=s0.length/\(∀x∈s,x<B64)/\(∀j,n<=j->nth s j=nth s0 j)/\valT B64 s n=valT B64 s0 n-v/\w.grownBy w' (some g)

set_option maxRecDepth 100000 in
theorem zdg (w:World) (g n c d:Nat) (B:Option Addr) (s0 m:List Nat) (hn:n<=s0.length) (hl:s0.length<=17592186044416) (hm:m.length<=17592186044000) (hblk:Blk w g 50 (ints .u64 s0)) (hb:Rd w .u64 B m)
 (hne:∀i,i<m.length->(adr B i).block≠g) (hx:∀x∈s0,x<B64) (hy:∀x∈m,x<B64) (hum:used m<=n) (hge:val B64 m<=valT B64 s0 n):
 Calls Tryz.prog 215 #[.slice (some ⟨g,0,none⟩) n c,.slice B m.length d] w (zie w g n c (val B64 m) s0):=by
 have Hblk:=znd hblk;have Hb:=znd hb;have Hx:=znd hx;have Hy:=znd hy;have Hne:=znd hne;have Hge:=znd hge;have Hvm:=znd (zbl B64 m n hum);have hg:=hblk.lt;clear hblk hb hx hy hne hge hum;go_enter Tryz.func215,Tryz.ntmps215;go_wp2_with fail;refine(zcy w B d m).mono ?_;rintro e w' ⟨rfl,rfl⟩;go_wp2_with fail;go_loopw [6,12] (fun cv i wr=>∃(k bw:Nat) (s:List Nat),k<=n/\bw<=1/\cv=.int .u64 bw/\i=.int .i64 k/\LesInv w wr B g d k bw m s0 s) (fun _ i _=>n-(intOf i).toNat)
 case atStart=>
  refine⟨0,0,s0,Nat.zero_le _,Nat.zero_le _,rfl,rfl,rfl,Hx.out,fun _ _=>rfl,Hblk.out.alloc _,?_,zel (World.grownBy.refl w _) _,rfl⟩;exact(Blk.new w 51 #[.slice B m.length d]).cell 0
 case round=>
  obtain⟨k,bw,s,hk,hbw,rfl,rfl,hI⟩:=hrel;by_cases hlt:k<n
  ·have hcell:=hI.blk.cell k;rw[zaC .u64 s k (by rw[hI.len];omega)]at hcell;have hfz:=hI.blk.frozen k;have hN:=znd (hI.drew.next (by omega) hg Hy.out hbw);have hsub:=zcl (nth s k) (nth m k) bw hbw;have Hrd:=znd (fun(W:World) (hW:∀a,W.cell? a=wr.cell? a)=>zca W B d w.heap.size m k (by omega) (by omega) ((hW _).trans hI.cb) ((Hb.out.only hI.gr Hne.out).keep fun p _=>hW p));have hq:(if nth s k<nth m k+bw then 1 else 0)<=1:=by split<;>omega
   rw[Int.toNat_natCast]at Hrd;clear hI;generalize (if nth s k<nth m k+bw then 1 else 0)=q at*;generalize (nth s k+B64-nth m k-bw)%B64=r at*;generalize nth s k=x at*;generalize nth m k=y at*;go_wp2_with fail
   go_region_with (go_at_call 238;refine(Hrd.out _ (by exact fun _=>rfl)).mono ?_;rintro e w' ⟨rfl,rfl⟩)
   all_goals
    go_wp2;go_roundw
    case rel=>exact⟨k+1,q,s.set k r,by omega,hq,rfl,by go_num,hN.out⟩
    case measure=>simp[intOf];omega
  ·obtain rfl:k=n:=by omega
   have Hfin:Hid (zie w g k c (val B64 m) s0 (.returned (.slice (some ⟨g,0,none⟩) k c)) wr):=by
    refine⟨rfl,s,hI.blk,hI.len,hI.lt,hI.rest,?_,hI.gr⟩;have h1:=hI.sub;have h2:=zc3 za4 hI.lt k;have h3:=Hge.out;rw[Hvm.out]at h1;have:bw=0\/bw=1:=by omega
    rcases this with rfl|rfl
    ·omega
    ·omega
   clear hI;go_wp2;go_ret;exact Hfin.out

theorem Below.drewN {B:Nat} {a w:World} (h:Below B a w) (n:Nat):Below B a (w.drewN n):=⟨h.os,h.tape,h.output,h.size,h.block⟩
theorem Below.of_only {w w1 w2:World} {g:Nat} (h:Below w.heap.size w w1) (ho:w1.grownBy w2 (some g)) (hg:w.heap.size<=g):Below w.heap.size w w2:=
 h.grown ho h.size (fun k hk=>by injection hk with hk;omega)
theorem zhZ {a b:Nat}:cmpN a b<=0↔a<=b:=by
 unfold cmpN;split
 ·simp;omega
 ·split
  ·simp;omega
  ·constructor<;>omega

set_option maxRecDepth 100000 in
theorem zih (w:World) (A B:Option Addr) (c d:Nat) (l m:List Nat) (hl:l.length<=17592186044000) (hm:m.length<=17592186044000) (ha:Rd w .u64 A l) (hb:Rd w .u64 B m)
 (hx:∀x∈l,x<B64) (hy:∀x∈m,x<B64):
 Calls Tryz.prog 179 #[.slice A l.length c,.slice B m.length d] w (RetL .u64 (digs B64 (val B64 l-val B64 m)) w):=by
 have Ha:=znd ha;have Hb:=znd hb;have Hx:=znd hx;have Hy:=znd hy;clear ha hb hx hy;go_enter Tryz.func179,Tryz.ntmps179;go_wp2_with fail;refine(zdO w A B c d l m (by omega) (by omega) Ha.out Hb.out Hx.out Hy.out).mono ?_;rintro e w' ⟨rfl,q,rfl⟩;by_cases hle:val B64 l<=val B64 m
 ·have hc:cmpN (val B64 l) (val B64 m)<=0:=zhZ.2 hle;have Hz:Hid (digs B64 (val B64 l-val B64 m)=[]):=by
   show _=_
   rw[show val B64 l-val B64 m=0 by omega];rfl
  clear hle;generalize cmpN (val B64 l) (val B64 m)=z at*;go_wp2;go_ret;rw[Hz.out];exact⟨none,0,rfl,Nat.le_refl _,Rd.nil_ _ _,Below.drewN (Below.refl _ _) _,Fr.none_ _ _⟩
 ·have hc:¬cmpN (val B64 l) (val B64 m)<=0:=fun h=>hle (zhZ.1 h);have Hlt:Hid (val B64 m<val B64 l):=by show _<_;omega
  clear hle;generalize cmpN (val B64 l) (val B64 m)=z at*;go_wp2_with fail;refine(zcg _ A c l (by omega) (Ha.out.drewN q)).mono ?_;rintro e w1 ⟨A1,c1,rfl,ho,hb1⟩;have hb1':Below w.heap.size w w1:=(Below.drewN (Below.refl _ _) q).trans hb1;rcases ho with⟨hnil,-,-⟩|⟨g,rfl,rfl,hg,hblk⟩
  ·exfalso;have h1:=zaz B64 l;rw[hnil]at h1;have:=Hlt.out;simp[val]at h1;omega
  ·have hul:used m<=(trim l).length:=by
    rw[za5];rcases Nat.lt_or_ge (used l) (used m)with h|h
    ·have h1:=zaP (b:=B64) (by decide) (zbp Hx.out) (zbt m) (by rw[za5,za5];exact h);rw[zaz,zaz]at h1;have:=Hlt.out;omega
    ·exact h
   have hll:=zay l;have htl:=za5 l;have hrb:=Hb.out.below hb1' (Nat.le_refl _)
   have Hless:=znd (zdg w1 g (trim l).length (trim l).length d B (trim l) m (Nat.le_refl _) (by omega) hm hblk hrb
    (fun i hi=>by have:=Hb.out.lt i hi;simp only[World.heap_drewN]at hg;omega) (zbp Hx.out) Hy.out hul (by rw[zaD,zaz];exact Nat.le_of_lt Hlt.out))
   have Hbel:=znd hb1';have hg':w.heap.size<=g:=hg;clear htl hul hll hrb hblk hb1 hb1' hg;have HV:Hid (valT B64 (trim l) (trim l).length=val B64 l):=by show _=_;rw[zaD,zaz]
   have hlen:(trim l).length<=17592186044000:=by rw[za5];have:=zay l;omega
   generalize trim l=t at*;go_wp2_with fail;refine Hless.out.mono ?_;rintro e w2 ⟨rfl,s,hs,hsl,hslt,-,hv,ho⟩;have hbel2:=Below.of_only Hbel.out ho hg';have htd:=zbP w2 (some ⟨g,0,none⟩) t.length s (by omega) (by omega) (Rd.of_blk hs);have hrt:=(Rd.of_blk hs).take (used s);have Hfin:Hid (trim s=digs B64 (val B64 l-val B64 m)):=by
    show _=_
    rw[zb5 (b:=B64) (by decide) hslt,<-zaD,hsl,hv,HV.out]
   rw[hsl]at htd;have Htd:=znd htd;have Hrt:=znd hrt;have Hb2:=znd hbel2;clear htd hrt hbel2 hs hslt hv ho hsl;go_wp2_with fail;refine Htd.out.mono ?_;intro e w' hret;obtain⟨A',c',rfl,hc',hr',rfl⟩:=hret.rd Hrt.out;have HR:=znd hr';have HC:=znd hc';clear hr' hc' hret Htd Hrt;go_wp2;go_ret;rw[<-Hfin.out];exact⟨A',c',rfl,HC.out,HR.out.1,Hb2.out,HR.out.2 _ (Fr.of_blk hg' _)⟩
end Go.Proofs.YtegfiemlnnpidaaGreatDoor
