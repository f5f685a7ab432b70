/-
 Plain facts on digits of 8 bits. tripwireref01: trim, Small. tripwireref01: Large. tripwireref01: Add. tripwireref01: Mul. tripwireref02.Make; tripwireref03.Text.
-/
import Derived.Test.YtegfiemlnnpidaaGreatDoorMath
import Derived.Test.YtegfiemlnnpidaaGreatDoorLowB
import Derived.Test.YtegfiemlnnpidaaGreatDoorDiv
import Derived.Test.YtegfiemlnnpidaaGreatDoorText
import Derived.Deep.LoopGhost
namespace Go.Proofs.YtegfiemlnnpidaaGreatDoor
set_option maxHeartbeats 4000000

def by8:Nat->Nat->List Nat
 |0,_=>[]
 |k+1,x=>x%256::by8 k (x/256)
theorem zq4 (k x:Nat):(by8 k x).length=k:=by
 induction k generalizing x with
 |zero=>rfl
 |succ k ih=>simp[by8,ih]
theorem zvP (k x:Nat):∀y∈by8 k x,y<256:=by
 induction k generalizing x with
 |zero=>intro y hy;simp[by8]at hy
 |succ k ih=>
  intro y hy;rcases List.mem_cons.1 hy with rfl|hy
  ·exact Nat.mod_lt _ (by decide)
  ·exact ih _ y hy
theorem ztY (k x:Nat):by8 (k+1) x=by8 k x++[x/256^k%256]:=by
 induction k generalizing x with
 |zero=>simp[by8]
 |succ k ih=>
  rw[by8,ih (x/256),by8,List.cons_append,Nat.div_div_eq_div_mul,Nat.pow_succ,Nat.mul_comm 256]
theorem zv5 (k x:Nat):val 256 (by8 k x)=x%256^k:=by
 induction k generalizing x with
 |zero=>simp[by8,val,Nat.mod_one]
 |succ k ih=>rw[by8,val,ih,Nat.pow_succ,Nat.mul_comm _ 256,Nat.mod_mul]
def bytesOf:List Nat->List Nat
 |[]=>[]
 |x::xs=>by8 8 x++bytesOf xs
theorem zr8 (l:List Nat) (x:Nat):bytesOf (l++[x])=bytesOf l++by8 8 x:=by
 induction l with
 |nil=>simp[bytesOf]
 |cons a l ih=>simp[bytesOf,ih]
theorem zpq (l:List Nat):(bytesOf l).length=8*l.length:=by
 induction l with
 |nil=>rfl
 |cons a l ih=>simp[bytesOf,zq4,ih];omega
theorem zst (l:List Nat):∀y∈bytesOf l,y<256:=by
 induction l with
 |nil=>intro y hy;simp[bytesOf]at hy
 |cons a l ih=>
  intro y hy;rcases List.mem_append.1 hy with hy|hy
  ·exact zvP _ _ y hy
  ·exact ih y hy
theorem zqx:256^8=B64:=by decide
theorem zrw {l:List Nat} (h:∀x∈l,x<B64):val 256 (bytesOf l)=val B64 l:=by
 induction l with
 |nil=>rfl
 |cons a l ih=>
  rw[bytesOf,zbA,zq4,zqx,zv5,zqx,Nat.mod_eq_of_lt (h a (List.mem_cons_self ..)),ih (fun x hx=>h x (List.mem_cons_of_mem _ hx)),val]
theorem zrf {l:List Nat} (h:∀x∈l,x<B64):trim (bytesOf l)=digs 256 (val B64 l):=by
 rw[zb5 (b:=256) (by decide) (zst l),zrw h]

def wordAt (s:List Nat) (i:Nat):Nat:=valT 256 (s.drop i) 8
def zoZ (s:List Nat):Nat->List Nat
 |0=>[]
 |n+1=>zoZ s n++[wordAt s (8*n)]
theorem zpp (s:List Nat) (n:Nat):(zoZ s n).length=n:=by
 induction n with
 |zero=>rfl
 |succ n ih=>simp[zoZ,ih]
theorem zrO (s:List Nat) (i j:Nat):nth (s.drop i) j=nth s (i+j):=by simp[nth,List.getD]
theorem zrQ (b:Nat) (s:List Nat) (i:Nat):∀k,valT b s (i+k)=valT b s i+b^i*valT b (s.drop i) k:=by
 intro k
 induction k with
 |zero=>simp[valT]
 |succ k ih=>rw[<-Nat.add_assoc,valT,ih,valT,zrO,Nat.pow_add,Nat.mul_add,Nat.mul_assoc,Nat.add_assoc]
theorem ztD {s:List Nat} (h:∀x∈s,x<256) (i:Nat):wordAt s i<B64:=by
 have:=zc3 (b:=256) (by decide) (l:=s.drop i) (fun x hx=>h x (List.mem_of_mem_drop hx)) 8;rw[zqx]at this;exact this
theorem zsb {s:List Nat} (h:∀x∈s,x<256) (n:Nat):∀x∈zoZ s n,x<B64:=by
 induction n with
 |zero=>intro x hx;simp[zoZ]at hx
 |succ n ih=>
  intro x hx;rcases List.mem_append.1 hx with hx|hx
  ·exact ih x hx
  ·simp at hx;rw[hx];exact ztD h _
theorem zrm (s:List Nat):∀n,val B64 (zoZ s n)=valT 256 s (8*n):=by
 intro n
 induction n with
 |zero=>rfl
 |succ n ih=>rw[zoZ,zbA,ih,zpp,show 8*(n+1)=8*n+8 by omega,zrQ,<-zqx,<-Nat.pow_mul];simp[val,wordAt]
theorem zr3 {s:List Nat} (h:∀x∈s,x<256) (ht:Tidy s) {n:Nat} (h1:s.length<=8*n) (h2:8*n<s.length+8):zoZ s n=digs B64 (val 256 s):=by
 have hv:val B64 (zoZ s n)=val 256 s:=by
  rw[zrm];exact zbl _ _ _ (by have:=zay s;omega)
 rw[<-hv];apply zfp (by decide) (zsb h n);rcases n with _|n
 ·left;rfl
 ·right;refine⟨wordAt s (8*n),by simp[zoZ],?_⟩;intro e;have hs:s≠[]:=by intro e;rw[e]at h2;simp at h2;omega
  have hlast:0<val 256 (s.drop (8*n)):=by
   have htd:Tidy (s.drop (8*n)):=by
    rcases ht with h|⟨x,hx,h0⟩
    ·exact absurd h hs
    ·right;exact⟨x,by rw[List.getLast?_drop,if_neg (by omega)];exact hx,h0⟩
   exact htd.pos (by decide) (by intro e;have:=congrArg List.length e;simp at this;omega)
  have hw:wordAt s (8*n)=val 256 (s.drop (8*n)):=zbl _ _ _ (by have:=zay (s.drop (8*n));simp at this;omega);omega

open Go.RowKit

theorem zoX:(Tryz.prog.info? 3).map (fun i=>(i.zero,i.size,i.bytes))=some (some (.int .i64 0),1,8):=by kernel_rfl
theorem zoR (w:World):(sizeOf (Tryz.prog.elem 58)).run Tryz.prog w=.ok 1 w:=by kernel_rfl

theorem zpL (w:World) (A:Option Addr) (c:Nat) (l:List Nat) (hl:l.length<=9223372036854775807) (hlc:l.length<=c) (hr:Rd w .i64 A l):
 Calls Tryz.prog 212 #[.slice A l.length c] w fun e w'=>e=.returned (.slice A (trim l).length c)/\w=w':=by
 have hsl:=hr.sl;have h1:=zoR;have Hr:=znd hr;clear hr;have HT:=znd (za5 l);unfold used at HT;go_enter Tryz.func212,Tryz.ntmps212;go_wp2
 go_loop [3] (fun n=>∃k:Nat,k<=l.length/\n=.int .i64 k/\Hid (zbI l l.length=zbI l k)) (fun n=>(intOf n).toNat)
 case atStart=>exact⟨l.length,Nat.le_refl _,rfl,rfl⟩
 case round=>
  obtain⟨k,hk,rfl,hu⟩:=hrel;rcases k with _|k
  ·have Hu:=znd (show(trim l).length=0 by rw[HT.out,hu.out];rfl);go_wp2;go_ret;rw[Hu.out];exact⟨rfl,rfl⟩
  ·have hcell:=Hr.out.cell k (by omega);by_cases h0:nth l k=0
   ·rw[h0]at hcell;have Hu:Hid (zbI l l.length=zbI l k):=by rw[hu.out];show zbI l (k+1)=_;simp only[zbI,if_pos h0]
    clear h0 hu;go_wp2
    go_round
    case rel=>exact⟨k,by omega,by go_num,Hu⟩
    case measure=>simp[intOf]
   ·have Hu:=znd (show(trim l).length=k+1 by rw[HT.out,hu.out];show zbI l (k+1)=_;simp only[zbI,if_neg h0]);have hne:((nth l k:Int)==0)=false:=by simpa using h0
    clear h0 hu;generalize nth l k=x at*;go_wp2;go_ret;rw[Hu.out];exact⟨rfl,rfl⟩

structure SmInv (w wr:World) (pv:Value) (out:List Nat):Prop where
 own:Own wr w.heap.size 3 .i64 pv out
 below:Below w.heap.size w wr

set_option maxRecDepth 100000 in
theorem zox (w:World) (A:Option Addr) (c:Nat) (l:List Nat) (hl:l.length<=1048576) (ha:Rd w .u64 A l) (hx:∀x∈l,x<B64):
 Calls Tryz.prog 176 #[.slice A l.length c] w (RetL .i64 (digs 256 (val B64 l)) w):=by
 have hsl:=ha.sl;have h1:=zaA;have Ha:=znd ha;have Hx:=znd hx;clear ha hx;go_enter Tryz.func176,Tryz.ntmps176;go_wp2_with fail;go_loopw [3,4] (fun pv i wr=>∃k:Nat,k<=l.length/\i=.int .i64 k/\SmInv w wr pv (bytesOf (l.take k))) (fun _ i _=>l.length-(intOf i).toNat)
 case atStart=>exact⟨0,Nat.zero_le _,rfl,Own.nil_ _ _ _ _,Below.refl _ _⟩
 case round=>
  obtain⟨k,hk,rfl,hI⟩:=hrel;obtain⟨wo,rfl⟩:∃wo:World,wo=wr:=⟨_,rfl⟩;by_cases hlt:k<l.length
  ·have hca:=(Ha.out.below hI.below (Nat.le_refl _)).cell k hlt;have hx64:=zak za4 Hx.out k
   have Hsn:=znd (show bytesOf (l.take (k+1))=bytesOf (l.take k)++by8 8 (nth l k) by
    rw[List.take_succ_eq_append_getElem hlt,zr8];simp[nth,List.getD,hlt])
   have Hlen:=znd (show(bytesOf (l.take k)).length<=8388608 by rw[zpq];simp;omega);have HI:=znd hI;have HX:=znd hx64;clear hI hx64;generalize nth l k=x at*;generalize bytesOf (l.take k)=out at*;go_wp2_with fail;go_loopw [3,5,6] (fun pv xv jv wr=>∃j:Nat,j<=8/\jv=.int .i64 j/\xv=.int .u64 ((x/256^j:Nat):Int)/\SmInv w wr pv (out++by8 j x)) (fun _ _ jv _=>8-(intOf jv).toNat)
   case atStart=>exact⟨0,by omega,rfl,by simp,by simpa[by8] using HI.out⟩
   case round=>
    obtain⟨j,hj,rfl,rfl,hJ⟩:=hrel;by_cases hj8:j<8
    ·have hl2:(out++by8 j x).length<=8388616:=by rw[List.length_append,zq4];have:=Hlen.out;omega
     obtain⟨v',w',hrun,ho',hb',-,-⟩:=hJ.own.app (P:=Tryz.prog) (t:=58) Tryz.underlying58 zoX rfl (x/256^j%256) (by omega) (by simp only[maxLen];omega) hJ.below.size;rw[List.append_assoc,<-ztY]at ho';have HN:Hid (SmInv w w' v' (out++by8 (j+1) x)):=⟨ho',hJ.below.trans hb'⟩;have Hrun:=znd hrun;have hdl:x/256^j<=x:=Nat.div_le_self _ _;have hdl2:x/256^j<B64:=Nat.lt_of_le_of_lt hdl HX.out;have e2:x/256^j/256=x/256^(j+1):=by rw[Nat.div_div_eq_div_mul,Nat.pow_succ]
     clear hrun ho' hb' hJ hdl;have He2:=znd e2;clear e2;generalize x/256^j=y at*;have w1:IntKind.u64.wrap ((y:Int)%256)=((y%256:Nat):Int):=by rw[IntKind.wrap_u64];omega
     have w1':IntKind.u64.wrap ((y:Int).tmod 256)=((y%256:Nat):Int):=by rw[Int.tmod_eq_emod_of_nonneg (by omega)];exact w1
     have w2:IntKind.i64.wrap ((y%256:Nat):Int)=((y%256:Nat):Int):=by rw[IntKind.wrap_i64];omega
     have w3:IntKind.u64.wrap ((y:Int)/256)=((y/256:Nat):Int):=by rw[IntKind.wrap_u64];simp only[B64]at hdl2;omega
     have w3':IntKind.u64.wrap ((y:Int).tdiv 256)=((y/256:Nat):Int):=by rw[Int.tdiv_eq_ediv_of_nonneg (by omega)];exact w3
     have w4:(y:Int)%256=((y%256:Nat):Int):=by omega
     have w5:(y:Int)/256=((y/256:Nat):Int):=by omega
     have w6:IntKind.u64.wrap ((y/256:Nat):Int)=((y/256:Nat):Int):=w64 _ (by omega);have w7:IntKind.u64.wrap ((y%256:Nat):Int)=((y%256:Nat):Int):=w64 _ (by simp only[B64];omega);generalize y%256=r at*;generalize y/256=q at*;go_wp2_with (at_builtin;refine zac rfl (.tmp 21) (.tmp 25) 58 _ _ _ rfl rfl rfl Hrun.out ?_);go_roundw
     case rel=>exact⟨j+1,by omega,by go_num,by rw[He2.out],HN.out⟩
     case measure=>simp[intOf];omega
    ·obtain rfl:j=8:=by omega
     rw[<-Hsn.out]at hJ;have HJ:=znd hJ;clear hJ;go_wp2_with fail;go_roundw
     case rel=>exact⟨k+1,by omega,by go_num,HJ.out⟩
     case measure=>simp[intOf];omega
  ·have hkk:k=l.length:=by omega
   rw[hkk,List.take_length]at hI;obtain⟨A1,c1,rfl,hc1,-,hr1,hf1⟩:=hI.own.form;have hbl:=zpq l;have Htr:=znd (zpL wo A1 c1 (bytesOf l) (by omega) hc1 hr1);have HR:=znd (hr1.take (used (bytesOf l)));have HF:=znd hf1;have Hb:=znd hI.below;have hut:=za5 (bytesOf l);have hul:=zay (bytesOf l);have HC:=znd (show(trim (bytesOf l)).length<=c1 by omega);have Hfin:=znd (zrf Hx.out);clear hI hr1 hf1 hc1 hut hul hbl hkk;generalize (bytesOf l).length=bn at*;go_wp2_with fail;refine Htr.out.mono ?_;rintro e w' ⟨rfl,rfl⟩;go_wp2_with fail;go_ret;rw[<-Hfin.out];exact⟨A1,c1,rfl,HC.out,HR.out,Hb.out,fun i hi=>HF.out i (by have:=zay (bytesOf l);rw[za5]at hi;omega)⟩


theorem ztG (b:Nat) (l:List Nat) (n:Nat):valT b l (n+1)=nth l 0+b*valT b (l.drop 1) n:=by
 have h:=zrQ b l 1 n;rw[Nat.add_comm]at h;rw[h];simp[valT]
theorem zt4 (s:List Nat) (i m:Nat) (h:m<8):valT 256 (s.drop (i+m)) (8-m)=nth s (i+m)+256*valT 256 (s.drop (i+(m+1))) (8-(m+1)):=by
 obtain⟨n,hn⟩:∃n,8-m=n+1:=⟨7-m,by omega⟩;rw[hn,ztG,zrO,List.drop_drop,show 8-(m+1)=n by omega,Nat.add_zero];rfl

structure LaInv (w wr:World) (pv:Value) (out:List Nat):Prop where
 own:Own wr w.heap.size 50 .u64 pv out
 below:Below w.heap.size w wr

set_option maxRecDepth 100000 in
theorem zoG (w:World) (A:Option Addr) (c:Nat) (l:List Nat) (hl:l.length<=16777216) (hlc:l.length<=c) (ha:Rd w .i64 A l) (hx:∀x∈l,x<256):
 Calls Tryz.prog 192 #[.slice A l.length c] w (RetL .u64 (digs B64 (val 256 l)) w):=by
 have h1:=zoR;have hul:=zay l;have htl:=za5 l;have Htr:=znd (zpL w A c l (by omega) hlc ha);have Ha:=znd (ha.take (used l));have Hx:=znd (zbp hx);have Htd:=znd (zbt l);have Hv:=znd (zaz 256 l);have hsl:=(ha.take (used l)).sl;have hll:(trim l).length<=16777216:=by omega
 have htc:(trim l).length<=c:=by omega
 have hT:l.take (used l)=trim l:=rfl;rw[hT]at Ha hsl;clear ha hx hul htl hT;generalize trim l=s at*;go_enter Tryz.func192,Tryz.ntmps192;go_wp2_with fail;refine Htr.out.mono ?_;rintro e w' ⟨rfl,rfl⟩;go_wp2_with fail;go_loopw [3,4] (fun pv iv wr=>∃n:Nat,8*n<s.length+8/\iv=.int .i64 ((8*n:Nat):Int)/\LaInv w wr pv (zoZ s n)) (fun _ iv _=>s.length+8-(intOf iv).toNat)
 case atStart=>exact⟨0,by omega,rfl,Own.nil_ _ _ _ _,Below.refl _ _⟩
 case round=>
  obtain⟨n,hn,rfl,hI⟩:=hrel;obtain⟨wo,rfl⟩:∃wo:World,wo=wr:=⟨_,rfl⟩;by_cases hlt:8*n<s.length
  ·have ht:decide (((8*n:Nat):Int)<(s.length:Int))=true:=by simp;omega
   have Ha2:=znd (Ha.out.below hI.below (Nat.le_refl _));have HI:=znd hI;clear hI;have hn8:8*n<=16777216:=by omega
   go_wp2_with fail
   go_loop [5,6] (fun xv kv=>∃m:Nat,m<=8/\kv=.int .i64 ((m:Int)-1)/\xv=.int .u64 ((valT 256 (s.drop (8*n+m)) (8-m):Nat):Int)) (fun _ kv=>((intOf kv)+1).toNat)
   case atStart=>exact⟨8,by omega,rfl,rfl⟩
   case round=>
    obtain⟨m,hm,rfl,rfl⟩:=hrel;rcases m with _|m
    ·have hlen:=zpp s n;obtain⟨v',w',hrun,ho',hb',-,-⟩:=HI.out.own.app (P:=Tryz.prog) (t:=51) Tryz.underlying51 zcc rfl (wordAt s (8*n)) (by omega) (by simp only[maxLen];omega) HI.out.below.size;have HN:Hid (LaInv w w' v' (zoZ s (n+1))):=⟨ho',HI.out.below.trans hb'⟩;have Hrun:=znd hrun;have hw:valT 256 (s.drop (8*n+0)) (8-0)=wordAt s (8*n):=rfl;rw[hw];have e8:((8*n:Nat):Int)+8=((8*(n+1):Nat):Int):=by omega
     clear hrun ho' hb' hlen hw ht;generalize wordAt s (8*n)=x at*;generalize h8n:8*n=n8 at*;generalize h8m:8*(n+1)=n8' at*;have E8:=znd h8n;have E8':=znd h8m;clear h8n h8m;go_wp2_with (at_builtin;refine zac rfl (.tmp 36) (.tmp 38) 51 _ _ _ rfl rfl rfl Hrun.out ?_);go_roundw
     case rel=>exact⟨n+1,by omega,by rw[<-E8'.out],HN.out⟩
     case measure=>have a1:=E8.out;have a2:=E8'.out;simp[intOf];omega
    ·have hws:=zt4 s (8*n) m (by omega);have hb1:=zc3 (b:=256) (by decide) (l:=s.drop (8*n+(m+1))) (fun x hx=>Hx.out x (List.mem_of_mem_drop hx)) (8-(m+1));have hb2:(256:Nat)^(8-(m+1))<=256^7:=Nat.pow_le_pow_right (by omega) (by omega);have hb3:nth s (8*n+m)<256:=zak (by decide) Hx.out _;have k0:(((m+1:Nat):Int)-1)=(m:Int):=by omega
     have w1:IntKind.u64.wrap (((valT 256 (s.drop (8*n+(m+1))) (8-(m+1)):Nat):Int)*256)=((256*valT 256 (s.drop (8*n+(m+1))) (8-(m+1)):Nat):Int):=by
      rw[show((valT 256 (s.drop (8*n+(m+1))) (8-(m+1)):Nat):Int)*256=((256*valT 256 (s.drop (8*n+(m+1))) (8-(m+1)):Nat):Int) by omega];exact w64 _ (by simp only[B64];omega)
     rw[k0];have hmm:m<8:=by omega
     by_cases hin:8*n+m<s.length
     ·have hcell:=Ha2.out.cell (8*n+m) hin;have hin':(((8*n:Nat):Int)+(m:Int))<(s.length:Int):=by omega
      have t0:(((8*n:Nat):Int)+(m:Int)).toNat=8*n+m:=by omega
      have t1:0<=((8*n:Nat):Int)+(m:Int):=by omega
      have w2:IntKind.u64.wrap ((nth s (8*n+m):Nat):Int)=((nth s (8*n+m):Nat):Int):=w64 _ (by simp only[B64];omega);have w3:IntKind.u64.wrap (((256*valT 256 (s.drop (8*n+(m+1))) (8-(m+1)):Nat):Int)+((nth s (8*n+m):Nat):Int))=((valT 256 (s.drop (8*n+m)) (8-m):Nat):Int):=by
       rw[<-Int.natCast_add,hws,Nat.add_comm];exact w64 _ (by simp only[B64];omega)
      clear hws hb1 hb2;generalize nth s (8*n+m)=y at*;generalize hz':valT 256 (s.drop (8*n+m)) (8-m)=z' at*;have HZ:=znd hz';clear hz';generalize 256*valT 256 (s.drop (8*n+(m+1))) (8-(m+1))=z1 at*;generalize valT 256 (s.drop (8*n+(m+1))) (8-(m+1))=z at*;generalize 8*n=n8 at*;go_wp2_with fail
      go_round
      case rel=>exact⟨m,by omega,rfl,by rw[HZ.out]⟩
      case measure=>simp[intOf]
     ·have hin':¬(((8*n:Nat):Int)+(m:Int))<(s.length:Int):=by omega
      have hnz:nth s (8*n+m)=0:=by simp[nth,List.getD,show s.length<=8*n+m by omega]
      rw[hnz,Nat.zero_add]at hws;rw[<-hws]at w1;have w1':=w1;have HZ:=znd (Eq.refl (valT 256 (s.drop (8*n+m)) (8-m)));clear hws hb1 hb2 hnz hb3;generalize hz':valT 256 (s.drop (8*n+m)) (8-m)=z' at*;have HZ:=znd hz';clear hz';generalize valT 256 (s.drop (8*n+(m+1))) (8-(m+1))=z at*;generalize 8*n=n8 at*;go_wp2_with fail
      go_round
      case rel=>exact⟨m,by omega,rfl,by rw[HZ.out]⟩
      case measure=>simp[intOf]
  ·have hfin:=zr3 Hx.out Htd.out (n:=n) (by omega) hn;rw[Hv.out]at hfin;rw[hfin]at hI;obtain⟨A1,c1,rfl,hc1,-,hr1,hf1⟩:=hI.own.form;have HR:=znd hr1;have HF:=znd hf1;have HC:=znd hc1;have Hb:=znd hI.below;have ht:decide (((8*n:Nat):Int)<(s.length:Int))=false:=by simp;omega
   clear hI hr1 hf1 hc1 hfin;go_wp2_with fail;go_ret;exact⟨A1,c1,rfl,HC.out,HR.out,Hb.out,HF.out⟩

theorem zfw {b V n:Nat} (hb:1<b) (h:V<b^n):(digs b V).length<=n:=by
 rcases Nat.lt_or_ge n (digs b V).length with h1|h1
 ·exfalso;have hne:digs b V≠[]:=by intro e;rw[e]at h1;simp at h1
  have h2:=zcB hb (digs_tidy hb V) hne;rw[zar hb]at h2;have h3:b^n<=b^((digs b V).length-1):=Nat.pow_le_pow_right (by omega) (by omega);omega
 ·exact h1
theorem zoz {l:List Nat} (h:∀x∈l,x<B64):(digs 256 (val B64 l)).length<=8*l.length:=by
 apply zfw (by decide);have:=zdo h;rw[<-zqx,<-Nat.pow_mul]at this;exact this
theorem zqc (b:Nat) (o:List Nat) (r:Nat):valT b (o++[r]) (o.length+1)=valT b o o.length+b^o.length*r:=by
 rw[valT];congr 1
 ·exact zbq b _ _ _ (fun k hk=>by simp[nth,List.getD,List.getElem?_append,hk])
 ·simp[nth,List.getD]

structure RaInv (w wr:World) (pv:Value) (xs ys o:List Nat) (i cr:Nat):Prop where
 own:Own wr w.heap.size 3 .i64 pv o
 below:Below w.heap.size w wr
 len:o.length=i
 lt:∀x∈o,x<256
 cr1:cr<=1
 top:xs.length<i->ys.length<i->cr=0
 eq:valT 256 o i+256^i*cr=valT 256 xs i+valT 256 ys i
theorem RaInv.next {w wr w':World} {pv v':Value} {xs ys o:List Nat} {i cr:Nat} (h:RaInv w wr pv xs ys o i cr) (hx:∀x∈xs,x<256) (hy:∀x∈ys,x<256)
 (ho:Own w' w.heap.size 3 .i64 v' (o++[(cr+nth xs i+nth ys i)%256])) (hb:Below w.heap.size w w'):
 RaInv w w' v' xs ys (o++[(cr+nth xs i+nth ys i)%256]) (i+1) ((cr+nth xs i+nth ys i)/256):=by
 have b1:=zak (b:=256) (by decide) hx i;have b2:=zak (b:=256) (by decide) hy i;have hc:=h.cr1;refine⟨ho,hb,by simp[h.len],?_,by omega,?_,?_⟩
 ·intro x hx;rcases List.mem_append.1 hx with hx|hx
  ·exact h.lt x hx
  ·simp at hx;omega
 ·intro h1 h2;have e1:nth xs i=0:=by simp[nth,List.getD,show xs.length<=i by omega]
  have e2:nth ys i=0:=by simp[nth,List.getD,show ys.length<=i by omega]
  omega
 ·have e:=h.eq;have s1:=zqc 256 o ((cr+nth xs i+nth ys i)%256);rw[h.len]at s1;rw[s1,valT,valT,Nat.pow_succ];have d:=Nat.div_add_mod (cr+nth xs i+nth ys i) 256;generalize (cr+nth xs i+nth ys i)/256=q at*;generalize (cr+nth xs i+nth ys i)%256=r at*;generalize nth xs i=a at*;generalize nth ys i=b at*;generalize 256^i=p at*;clear h hx hy ho hb;grind

set_option maxRecDepth 100000 in
theorem zqS (w:World) (A B:Option Addr) (c d:Nat) (l m:List Nat) (hl:l.length<=1000000) (hm:m.length<=1000000) (ha:Rd w .u64 A l) (hb:Rd w .u64 B m)
 (hx:∀x∈l,x<B64) (hy:∀x∈m,x<B64):
 Calls Tryz.prog 193 #[.slice A l.length c,.slice B m.length d] w (RetL .u64 (digs B64 (val B64 l+val B64 m)) w):=by
 have hlx:=zoz hx;have hly:=zoz hy;have h1:=zoR;have Hs1:=znd (zox w A c l (by omega) ha hx);have Hb:=znd hb;have Hy:=znd hy;clear ha hx hb hy;go_enter Tryz.func193,Tryz.ntmps193;go_wp2_with fail;refine Hs1.out.mono ?_;rintro e w1 ⟨A1,c1,rfl,-,hr1,hb1,-⟩;have Hb1:=znd hb1;have Hr1:=znd hr1;have Hs2:=znd (zox w1 B d m (by omega) (Hb.out.below hb1 (Nat.le_refl _)) Hy.out);clear hb1 hr1 Hs1;go_wp2_with fail;refine Hs2.out.mono ?_;rintro e w2 ⟨A2,c2,rfl,-,hr2,hb2,-⟩;have hrx:=Hr1.out.below hb2 (Nat.le_refl _);have Hb2:=znd (Hb1.out.trans (hb2.mono Hb1.out.size));have hsx:=hrx.sl;have hsy:=hr2.sl;have Hrx:=znd hrx;have Hry:=znd hr2;have Hxl:=znd (zbi (b:=256) (by decide) (val B64 l));have Hyl:=znd (zbi (b:=256) (by decide) (val B64 m));have Hvx:=znd (zar (b:=256) (by decide) (val B64 l));have Hvy:=znd (zar (b:=256) (by decide) (val B64 m));clear hr2 hb2 hrx Hs2;have hlx2:(digs 256 (val B64 l)).length<=8000000:=by omega
 have hly2:(digs 256 (val B64 m)).length<=8000000:=by omega
 clear hlx hly;generalize digs 256 (val B64 l)=xs at*;generalize digs 256 (val B64 m)=ys at*;go_wp2_with fail;go_loopw [7,8,9] (fun pv cv iv wr=>∃(i cr:Nat) (o:List Nat),i<=max xs.length ys.length+1/\iv=.int .i64 i/\cv=.int .i64 cr/\RaInv w2 wr pv xs ys o i cr) (fun _ _ iv _=>max xs.length ys.length+2-(intOf iv).toNat)
 case atStart=>exact⟨0,0,[],by omega,rfl,rfl,Own.nil_ _ _ _ _,Below.refl _ _,rfl,by simp,by omega,fun _ _=>rfl,rfl⟩
 case round=>
  obtain⟨i,cr,o,hi,rfl,rfl,hI⟩:=hrel;have hc1:=hI.cr1;have Hrx2:=znd (Hrx.out.below hI.below (Nat.le_refl _));have Hry2:=znd (Hry.out.below hI.below (Nat.le_refl _));have hbx:=zak (b:=256) (by decide) Hxl.out i;have hby:=zak (b:=256) (by decide) Hyl.out i;have hil:i<=8000001:=by omega
  obtain⟨v',w',hrun,ho',hb',-,-⟩:=hI.own.app (P:=Tryz.prog) (t:=58) Tryz.underlying58 zoX rfl ((cr+nth xs i+nth ys i)%256) (by rw[hI.len];omega) (by rw[hI.len];simp only[maxLen];omega) hI.below.size;have Hrun:=znd hrun;have HN:=znd (hI.next Hxl.out Hyl.out ho' (hI.below.trans hb'));have HT:=znd hI.top;have r1:((cr:Int)+(nth xs i:Int)+(nth ys i:Int))%256=(((cr+nth xs i+nth ys i)%256:Nat):Int):=by omega
  have r2:((cr:Int)+(nth xs i:Int)+(nth ys i:Int))/256=(((cr+nth xs i+nth ys i)/256:Nat):Int):=by omega
  clear hrun ho' hb';by_cases h1x:i<xs.length
  ·have hcx:=Hrx2.out.cell i h1x;by_cases h1y:i<ys.length
   ·have hcy:=Hry2.out.cell i h1y;clear hI;generalize (cr+nth xs i+nth ys i)%256=rr at*;generalize (cr+nth xs i+nth ys i)/256=qq at*;generalize nth xs i=xx at*;generalize nth ys i=yy at*;go_wp2_with (at_builtin;refine zac rfl (.tmp 52) (.tmp 55) 58 _ _ _ rfl rfl rfl Hrun.out ?_);go_roundw
    case rel=>exact⟨i+1,qq,_,by omega,by go_num,by first|rfl|rw[r2],HN.out⟩
    case measure=>simp[intOf];omega
   ·have hy0:nth ys i=0:=by simp[nth,List.getD,show ys.length<=i by omega]
    rw[hy0]at r1 r2 Hrun HN;rw[hy0]at hby;simp only[Int.add_zero,Nat.add_zero,Int.cast_ofNat_Int]at r1 r2 Hrun HN;clear hI hy0;generalize (cr+nth xs i)%256=rr at*;generalize (cr+nth xs i)/256=qq at*;generalize nth xs i=xx at*;go_wp2_with (at_builtin;refine zac rfl (.tmp 52) (.tmp 55) 58 _ _ _ rfl rfl rfl Hrun.out ?_);go_roundw
    case rel=>exact⟨i+1,qq,_,by omega,by go_num,by first|rfl|rw[r2],HN.out⟩
    case measure=>simp[intOf];omega
  ·have hx0:nth xs i=0:=by simp[nth,List.getD,show xs.length<=i by omega]
   rw[hx0]at r1 r2 Hrun HN hbx;simp only[Int.add_zero,Nat.add_zero,Int.cast_ofNat_Int]at r1 r2 Hrun HN;by_cases h1y:i<ys.length
   ·have hcy:=Hry2.out.cell i h1y;clear hI hx0;generalize (cr+nth ys i)%256=rr at*;generalize (cr+nth ys i)/256=qq at*;generalize nth ys i=yy at*;go_wp2_with (at_builtin;refine zac rfl (.tmp 52) (.tmp 55) 58 _ _ _ rfl rfl rfl Hrun.out ?_);go_roundw
    case rel=>exact⟨i+1,qq,_,by omega,by go_num,by first|rfl|rw[r2],HN.out⟩
    case measure=>simp[intOf];omega
   ·have hy0:nth ys i=0:=by simp[nth,List.getD,show ys.length<=i by omega]
    rw[hy0]at r1 r2 Hrun HN hby;simp only[Int.add_zero,Nat.add_zero,Int.cast_ofNat_Int]at r1 r2 Hrun HN;by_cases hcr:0<cr
    ·have hi2:i+1<=max xs.length ys.length+1:=by
      rcases Nat.lt_or_ge (max xs.length ys.length) i with h|h
      ·have:=HT.out (by omega) (by omega);omega
      ·omega
     clear hI hx0 hy0;generalize cr%256=rr at*;generalize cr/256=qq at*;go_wp2_with (at_builtin;refine zac rfl (.tmp 52) (.tmp 55) 58 _ _ _ rfl rfl rfl Hrun.out ?_);go_roundw
     case rel=>exact⟨i+1,qq,_,by omega,by go_num,by first|rfl|rw[r2],HN.out⟩
     case measure=>simp[intOf];omega
    ·have hcr0:cr=0:=by omega
     have Hval:=znd (show val 256 o=val B64 l+val B64 m by
      have e:=hI.eq;rw[hcr0,Nat.mul_zero,Nat.add_zero]at e;have hul:=zay xs;have hum:=zay ys;rw[<-Hvx.out,<-Hvy.out,<-zbl 256 xs i (by omega),<-zbl 256 ys i (by omega),<-e,<-hI.len,zaD])
     obtain⟨A3,c3,rfl,hc3,-,hr3,hf3⟩:=hI.own.form;have Hlg:=znd (zoG wr A3 c3 o (by rw[hI.len];omega) hc3 hr3 hI.lt);rw[Hval.out]at Hlg;have Hbl:=znd hI.below;clear hI hx0 hy0 hr3 hf3 hc3 r1 r2 HN Hrun;go_wp2_with fail;refine Hlg.out.mono ?_;rintro e w4 ⟨A4,c4,rfl,hc4,hr4,hb4,hf4⟩;have HC:=znd hc4;have HR:=znd hr4;have HB:=znd hb4;have HF:=znd hf4;clear hc4 hr4 hb4 hf4;go_wp2_with fail;go_ret;have hb5:=Hb2.out.trans (Hbl.out.mono Hb2.out.size);exact⟨A4,c4,rfl,HC.out,HR.out,hb5.trans (HB.out.mono hb5.size),fun j hj=>Nat.le_trans hb5.size (HF.out j hj)⟩


theorem zsS {b:Nat}:∀{l:List Nat} {p x:Nat},p<l.length->val b (l.set p x)+b^p*nth l p=val b l+b^p*x:=by
 intro l
 induction l with
 |nil=>intro p x h;simp at h
 |cons a l ih=>
  intro p x h
  cases p with
  |zero=>simp[val,nth];omega
  |succ p=>
   have h2:=ih (p:=p) (x:=x) (by simpa using h);have e:nth (a::l) (p+1)=nth l p:=by simp[nth,List.getD]
   rw[List.set_cons_succ,val,val,e,Nat.pow_succ];generalize val b (l.set p x)=u at*;generalize val b l=v at*;generalize nth l p=t at*;generalize b^p=q at*;clear ih h e;grind

structure RmIn (w wr:World) (n i k cr V0:Nat) (xs ys s:List Nat):Prop where
 len:s.length=n
 lt:∀x∈s,x<256
 blk:Blk wr w.heap.size 3 (ints .i64 s)
 below:Below w.heap.size w wr
 cr1:cr<=255
 eq:val 256 s+256^(i+k)*cr=V0+256^i*(nth xs i*valT 256 ys k)
theorem RmIn.next {w wr:World} {n i k cr V0 t:Nat} {xs ys s:List Nat} (h:RmIn w wr n i k cr V0 xs ys s) (hx:∀x∈xs,x<256) (hy:∀x∈ys,x<256) (hp:i+k<n) (ht:t=nth s (i+k)+cr+nth xs i*nth ys k) (j:Nat):
 RmIn w ((wr.drewN j).setCell ⟨w.heap.size,i+k,none⟩ (.int .i64 ((t%256:Nat):Int))) n i (k+1) (t/256) V0 xs ys (s.set (i+k) (t%256)):=by
 have b1:=zak (b:=256) (by decide) hx i;have b2:=zak (b:=256) (by decide) hy k;have b3:=zak (b:=256) (by decide) h.lt (i+k);have b4:=h.cr1;have b5:nth xs i*nth ys k<=255*255:=Nat.mul_le_mul (by omega) (by omega);refine⟨by simp[h.len],zcr h.lt _ _ (Nat.mod_lt _ (by decide)),?_,(Below.drewN h.below j).setCell (Nat.le_refl _) _,by omega,?_⟩
 ·have:=(h.blk.drewN j).set_ (i+k) (.int .i64 ((t%256:Nat):Int));rw[zbj]at this;exact this
 ·have e1:=zsS (b:=256) (l:=s) (p:=i+k) (x:=t%256) (by rw[h.len];exact hp);have e2:=h.eq;have e3:=Nat.div_add_mod t 256;rw[<-Nat.add_assoc,valT,Nat.pow_succ,Nat.pow_add];rw[Nat.pow_add]at e1 e2;generalize val 256 (s.set (i+k) (t%256))=u at*;generalize val 256 s=v at*;generalize nth s (i+k)=p at*;generalize nth xs i=a at*;generalize nth ys k=b at*;generalize valT 256 ys k=y at*;generalize t/256=q at*;generalize t%256=r at*;generalize 256^i=g at*;generalize 256^k=f at*;clear h hx hy hp b1 b2 b3 b4 b5;grind
theorem RmIn.top {w wr:World} {n i k cr V0:Nat} {xs ys s:List Nat} (h:RmIn w wr n i k cr V0 xs ys s) (hV:V0=valT 256 xs i*val 256 ys) (hx:∀x∈xs,x<256) (hy:∀x∈ys,x<256) (hk:ys.length<=k) (hc:0<cr):k<=ys.length:=by
 have e:=h.eq;have hu:=zay ys;rw[zbl 256 ys k (by omega),hV]at e;have e2:valT 256 xs i*val 256 ys+256^i*(nth xs i*val 256 ys)=valT 256 xs (i+1)*val 256 ys:=by rw[valT,Nat.add_mul,Nat.mul_assoc]
 rw[e2]at e;have l1:=zc3 (b:=256) (by decide) hx (i+1);have l2:=zdo hy;have l3:valT 256 xs (i+1)*val 256 ys<256^(i+1)*256^ys.length:=Nat.mul_lt_mul'' l1 l2;rw[<-Nat.pow_add]at l3;have l4:256^(i+k)*1<=256^(i+k)*cr:=Nat.mul_le_mul_left _ hc;have l5:256^(i+k)<256^(i+1+ys.length):=by
  generalize 256^(i+k)=p1 at*;generalize 256^(i+1+ys.length)=p2 at*;generalize valT 256 xs (i+1)*val 256 ys=p3 at*;omega
 have:=(Nat.pow_lt_pow_iff_right (by decide)).1 l5;omega
structure RmOut (w wr:World) (n i:Nat) (xs ys s:List Nat):Prop where
 len:s.length=n
 lt:∀x∈s,x<256
 blk:Blk wr w.heap.size 3 (ints .i64 s)
 below:Below w.heap.size w wr
 eq:val 256 s=valT 256 xs i*val 256 ys
theorem RmIn.start {w wr:World} {n i:Nat} {xs ys s:List Nat} (h:RmOut w wr n i xs ys s):RmIn w wr n i 0 0 (valT 256 xs i*val 256 ys) xs ys s:=
 ⟨h.len,h.lt,h.blk,h.below,by omega,by rw[h.eq];simp[valT]⟩
theorem RmIn.done {w wr:World} {n i k:Nat} {xs ys s:List Nat} (h:RmIn w wr n i k 0 (valT 256 xs i*val 256 ys) xs ys s) (hk:ys.length<=k):RmOut w wr n (i+1) xs ys s:=by
 refine⟨h.len,h.lt,h.blk,h.below,?_⟩;have e:=h.eq;have hu:=zay ys;rw[zbl 256 ys k (by omega),Nat.mul_zero,Nat.add_zero]at e;rw[e,valT,Nat.add_mul,Nat.mul_assoc]

set_option maxRecDepth 100000 in
theorem ztj (w:World) (A B:Option Addr) (c d:Nat) (l m:List Nat) (hl:l.length<=500000) (hm:m.length<=500000) (ha:Rd w .u64 A l) (hb:Rd w .u64 B m)
 (hx:∀x∈l,x<B64) (hy:∀x∈m,x<B64):
 Calls Tryz.prog 152 #[.slice A l.length c,.slice B m.length d] w (RetL .u64 (digs B64 (val B64 l*val B64 m)) w):=by
 have hlx:=zoz hx;have hly:=zoz hy;have h1:=zoR;have Hs1:=znd (zox w A c l (by omega) ha hx);have Hb:=znd hb;have Hy:=znd hy;clear ha hx hb hy;go_enter Tryz.func152,Tryz.ntmps152;go_wp2_with fail;refine Hs1.out.mono ?_;rintro e w1 ⟨A1,c1,rfl,-,hr1,hb1,-⟩;have Hb1:=znd hb1;have Hr1:=znd hr1;have Hs2:=znd (zox w1 B d m (by omega) (Hb.out.below hb1 (Nat.le_refl _)) Hy.out);clear hb1 hr1 Hs1;go_wp2_with fail;refine Hs2.out.mono ?_;rintro e w2 ⟨A2,c2,rfl,-,hr2,hb2,-⟩;have hrx:=Hr1.out.below hb2 (Nat.le_refl _);have Hb2:=znd (Hb1.out.trans (hb2.mono Hb1.out.size));have hsx:=hrx.sl;have hsy:=hr2.sl;have Hrx:=znd hrx;have Hry:=znd hr2;have Hxl:=znd (zbi (b:=256) (by decide) (val B64 l));have Hyl:=znd (zbi (b:=256) (by decide) (val B64 m));have Hvx:=znd (zar (b:=256) (by decide) (val B64 l));have Hvy:=znd (zar (b:=256) (by decide) (val B64 m));clear hr2 hb2 hrx Hs2;have hlx2:(digs 256 (val B64 l)).length<=4000000:=by omega
 have hly2:(digs 256 (val B64 m)).length<=4000000:=by omega
 clear hlx hly;generalize digs 256 (val B64 l)=xs at*;generalize digs 256 (val B64 m)=ys at*;have hmk:=fun W=>run_make_row' (P:=Tryz.prog) 58 3 (.int .i64 0) 8 Tryz.underlying58 zoX rfl .i64 .i64 (xs.length+ys.length+1) (by omega) (by omega) W;simp only[Int.natCast_add,Int.cast_ofNat_Int]at hmk;go_wp2_with fail;go_loopw [8] (fun iv wr=>∃(i:Nat) (s:List Nat),i<=xs.length/\iv=.int .i64 i/\RmOut w2 wr (xs.length+ys.length+1) i xs ys s) (fun iv _=>xs.length-(intOf iv).toNat)
 case atStart=>
  refine⟨0,List.replicate (xs.length+ys.length+1) 0,by omega,rfl,by simp,?_,?_,Below.of_alloc _ _,?_⟩
  ·intro x hx;rw[(List.mem_replicate.1 hx).2];decide
  ·rw[<-zbE];exact Blk.new _ _ _
  ·rw[zbd];simp[valT]
 case round=>
  obtain⟨i,s0,hi,rfl,hO⟩:=hrel;obtain⟨wo,rfl⟩:∃wo:World,wo=wr:=⟨_,rfl⟩;by_cases hlt:i<xs.length
  ·have HO:=znd hO;clear hO;go_wp2_with fail;go_loopw [9,10,11] (fun cv kv _ wr=>∃(k cr:Nat) (s:List Nat),k<=ys.length+1/\cv=.int .i64 cr/\kv=.int .i64 k/\RmIn w2 wr (xs.length+ys.length+1) i k cr (valT 256 xs i*val 256 ys) xs ys s) (fun _ kv _ _=>ys.length+2-(intOf kv).toNat)
   case atStart=>exact⟨0,0,s0,by omega,rfl,rfl,RmIn.start HO.out⟩
   case round=>
    obtain⟨k,cr,s,hk,rfl,rfl,hI⟩:=hrel;by_cases hgo:k<ys.length\/0<cr
    ·have hkl:k<=ys.length:=by
      rcases hgo with h|h
      ·omega
      ·rcases Nat.lt_or_ge k ys.length with h2|h2
       ·omega
       ·exact hI.top rfl Hxl.out Hyl.out h2 h
     have hcell:=hI.blk.cell (i+k);rw[zaC .i64 s (i+k) (by rw[hI.len];omega)]at hcell;have hfz:=hI.blk.frozen (i+k);have hcx:=(Hrx.out.below hI.below (Nat.le_refl _)).cell i hlt;have Hcy:=znd (fun h=>(Hry.out.below hI.below (Nat.le_refl _)).cell k h);have b1:=zak (b:=256) (by decide) Hxl.out i;have b2:=zak (b:=256) (by decide) Hyl.out k;have b3:=zak (b:=256) (by decide) hI.lt (i+k);have b4:=hI.cr1;have b5:nth xs i*nth ys k<=255*255:=Nat.mul_le_mul (by omega) (by omega);have HN:=znd (fun j=>hI.next Hxl.out Hyl.out (show i+k<xs.length+ys.length+1 by omega) rfl j);clear hI;by_cases hin:k<ys.length
     ·have hcy:=Hcy.out hin;have i1:(i:Int)<(xs.length:Int):=by omega
      have i2:(k:Int)<(ys.length:Int):=by omega
      have r0:((nth xs i:Int)*(nth ys k:Int))=((nth xs i*nth ys k:Nat):Int):=by rw[Int.natCast_mul]
      have r0':IntKind.i64.wrap ((nth xs i:Int)*(nth ys k:Int))=((nth xs i*nth ys k:Nat):Int):=by rw[r0,IntKind.wrap_i64];omega
      have r3:IntKind.i64.wrap ((nth s (i+k):Int)+(cr:Int)+((nth xs i*nth ys k:Nat):Int))=(nth s (i+k):Int)+(cr:Int)+((nth xs i*nth ys k:Nat):Int):=by rw[IntKind.wrap_i64];omega
      have r1:((nth s (i+k):Int)+(cr:Int)+((nth xs i*nth ys k:Nat):Int))%256=(((nth s (i+k)+cr+nth xs i*nth ys k)%256:Nat):Int):=by omega
      have r2:((nth s (i+k):Int)+(cr:Int)+((nth xs i*nth ys k:Nat):Int))/256=(((nth s (i+k)+cr+nth xs i*nth ys k)/256:Nat):Int):=by omega
      clear hgo;generalize (nth s (i+k)+cr+nth xs i*nth ys k)%256=rr at*;generalize (nth s (i+k)+cr+nth xs i*nth ys k)/256=qq at*;generalize nth xs i*nth ys k=xy at*;generalize nth xs i=xx at*;generalize nth ys k=yy at*;generalize nth s (i+k)=ss at*;go_wp2_with fail;go_quiet (fail);go_wp2_with fail;go_roundw
      case rel=>exact⟨k+1,qq,s.set (i+k) rr,by omega,by first|rfl|rw[r2],by go_num,HN.out _⟩
      case measure=>simp[intOf];omega
     ·have hy0:nth ys k=0:=by simp[nth,List.getD,show ys.length<=k by omega]
      have hcr:0<cr:=by omega
      rw[hy0,Nat.mul_zero,Nat.add_zero]at HN;have HN0:=znd (HN.out 0);have r1:((nth s (i+k):Int)+(cr:Int))%256=(((nth s (i+k)+cr)%256:Nat):Int):=by omega
      have r2:((nth s (i+k):Int)+(cr:Int))/256=(((nth s (i+k)+cr)/256:Nat):Int):=by omega
      clear hgo hy0 Hcy b5 b2 HN;generalize (nth s (i+k)+cr)%256=rr at*;generalize (nth s (i+k)+cr)/256=qq at*;generalize nth xs i=xx at*;generalize nth s (i+k)=ss at*;go_wp2_with fail;go_roundw
      case rel=>exact⟨k+1,qq,s.set (i+k) rr,by omega,by first|rfl|rw[r2],by go_num,HN0.out⟩
      case measure=>simp[intOf];omega
    ·have hcr0:cr=0:=by omega
     have hk2:ys.length<=k:=by omega
     subst hcr0;have HD:=znd (hI.done hk2);clear hI hgo;go_wp2_with fail;go_roundw
     case rel=>exact⟨i+1,s,by omega,by go_num,HD.out⟩
     case measure=>simp[intOf];omega
  ·obtain rfl:i=xs.length:=by omega
   have Hval:=znd (show val 256 s0=val B64 l*val B64 m by rw[hO.eq,zaD,Hvx.out,Hvy.out]);have Hlg:=znd (zoG wo (some ⟨w2.heap.size,0,none⟩) (xs.length+ys.length+1) s0 (by rw[hO.len];omega) (by rw[hO.len];omega) (Rd.of_blk hO.blk) hO.lt);rw[Hval.out,hO.len]at Hlg;have Hbl:=znd hO.below;clear hO hmk;go_wp2_with fail;refine Hlg.out.mono ?_;rintro e w4 ⟨A4,c4,rfl,hc4,hr4,hb4,hf4⟩;have HC:=znd hc4;have HR:=znd hr4;have HB:=znd hb4;have HF:=znd hf4;clear hc4 hr4 hb4 hf4;go_wp2_with fail;go_ret;have hb5:=Hb2.out.trans (Hbl.out.mono Hb2.out.size);exact⟨A4,c4,rfl,HC.out,HR.out,hb5.trans (HB.out.mono hb5.size),fun j hj=>Nat.le_trans hb5.size (HF.out j hj)⟩

def sgn (neg:Bool) (v:Nat):Bool:=if v=0 then false else neg
def RetI (neg:Bool) (v:Nat) (w:World) (e:Ending) (w':World):Prop:=
 ∃A c,e=.returned (.agg #[.bool neg,.slice A (digs B64 v).length c])/\(digs B64 v).length<=c/\Rd w' .u64 A (digs B64 v)/\Below w.heap.size w w'/\Fr w.heap.size A (digs B64 v)

theorem zuF {W:World} {A:Option Addr} {l:List Nat} {k:IntKind} (h:Rd W k A l) {a:Addr} (hf:Fr (a.block+1) A l) (v:Value):Rd (W.setCell a v) k A l:=
 ⟨h.sl,fun i hi=>by
  rw[World.cell?_setCell_other _ _ _ _ (fun e=>by have:=hf i hi;rw[<-e]at this;omega)];exact h.cell i hi⟩

set_option maxRecDepth 100000 in
theorem zrc (w:World) (neg:Bool) (A:Option Addr) (c:Nat) (l:List Nat) (hl:l.length<=1000000) (ha:Rd w .u64 A l) (hx:∀x∈l,x<B64):
 Calls Tryz.prog 151 #[.bool neg,.slice A l.length c] w (RetI (sgn neg (val B64 l)) (val B64 l) w):=by
 have hlx:=zoz hx;have Ha:=znd ha;have Hx:=znd hx;clear ha hx;go_enter Tryz.func151,Tryz.ntmps151;go_wp2_with fail;refine(zox _ A c l (by omega) (Ha.out.alloc _) Hx.out).mono ?_;rintro e w1 ⟨A1,c1,rfl,hc1,hr1,hb1,-⟩;have Hlg:=znd (zoG w1 A1 c1 (digs 256 (val B64 l)) (by omega) hc1 hr1 (zbi (by decide) _));rw[zar (by decide)]at Hlg;have HB1:=znd ((Blk.new w 53 #[.bool false,.slice none 0 0]).below hb1 (by simp));have Hb1:=znd (show Below w.heap.size w w1 from(Below.of_alloc _ _).trans (hb1.mono (by simp)));have hz1:w.heap.size+1<=w1.heap.size:=by have:=hb1.size;simpa using this
 clear hc1 hr1 hb1;go_wp2_with fail;refine Hlg.out.mono ?_;rintro e w2 ⟨A2,c2,rfl,hc2,hr2,hb2,hf2⟩;have hB2:=HB1.out.below hb2 HB1.out.lt;have Hb2:=znd (Hb1.out.trans (hb2.mono Hb1.out.size));have Hr2:=znd hr2;have Hf2:=znd hf2;have Hc2:=znd hc2;have p0:w2.cell? ⟨w.heap.size,0,none⟩=some (.bool false):=hB2.cell 0;have p1:w2.cell? ⟨w.heap.size,1,none⟩=some (.slice none 0 0):=hB2.cell 1;have p2:w2.frozen? ⟨w.heap.size,0,none⟩=false:=hB2.frozen 0;have p3:w2.frozen? ⟨w.heap.size,1,none⟩=false:=hB2.frozen 1;have HB2:=znd hB2;clear hB2 hr2 hf2 hc2 hb2 Hlg hlx;obtain⟨V,hV⟩:∃V,V=val B64 l:=⟨_,rfl⟩;rw[<-hV]at Hr2 Hf2 Hc2⊢;have HV:=znd hV;clear hV;have hfin:∀ng,ng=sgn neg V->RetI (sgn neg (val B64 l)) (val B64 l) w (.returned (.agg #[.bool ng,.slice A2 (digs B64 V).length c2])) ((w2.setCell ⟨w.heap.size,0,none⟩ (.bool ng)).setCell ⟨w.heap.size,1,none⟩ (.slice A2 (digs B64 V).length c2)):=by
  rintro ng rfl;rw[<-HV.out];refine⟨A2,c2,rfl,Hc2.out,?_,?_,?_⟩
  ·have hf:Fr (w.heap.size+1) A2 (digs B64 V):=fun i hi=>Nat.le_trans hz1 (Hf2.out i hi);exact zuF (zuF Hr2.out (a:=⟨w.heap.size,0,none⟩) hf _) (a:=⟨w.heap.size,1,none⟩) hf _
  ·exact(Hb2.out.setCell (p:=⟨w.heap.size,0,none⟩) (Nat.le_refl _) _).setCell (p:=⟨w.heap.size,1,none⟩) (Nat.le_refl _) _
  ·intro i hi;have:=Hf2.out i hi;omega
 have Hfin:=znd hfin;clear hfin;have hres:∀ng,Blk ((w2.setCell ⟨w.heap.size,0,none⟩ (.bool ng)).setCell ⟨w.heap.size,1,none⟩ (.slice A2 (digs B64 V).length c2)) w.heap.size 53 #[.bool ng,.slice A2 (digs B64 V).length c2]:=fun ng=>(HB2.out.set_ 0 (.bool ng)).set_ 1 (.slice A2 (digs B64 V).length c2);have Hres:=znd hres;clear hres;by_cases h0:V=0
 ·have hn:(((digs B64 V).length:Int)==0)=true:=by rw[h0];rfl
  have Hs:=znd (show false=sgn neg V by rw[h0];rfl);clear h0;go_wp2_with fail;have q0:=(Hres.out false).cell 0;have q1:=(Hres.out false).cell 1;have Hf:=Hfin.out false Hs.out;clear p0 p1 p2 p3;generalize ((w2.setCell ⟨w.heap.size,0,none⟩ (.bool false)).setCell ⟨w.heap.size,1,none⟩ (.slice A2 (digs B64 V).length c2))=W at*;exact bodyPost_ret (v:=.agg #[.bool false,.slice A2 (digs B64 V).length c2]) (by simp[results,Tryz.results151,go_sem,q0,q1]) rfl Hf
 ·have hn:(((digs B64 V).length:Int)==0)=false:=by
   simp;intro e;have:=List.eq_nil_of_length_eq_zero (show(digs B64 V).length=0 by rw[e];rfl);rw[zaT (by decide)]at this;exact h0 this
  have Hs:=znd (show neg=sgn neg V by unfold sgn;rw[if_neg h0]);clear h0;go_wp2_with fail;have q0:=(Hres.out neg).cell 0;have q1:=(Hres.out neg).cell 1;have Hf:=Hfin.out neg Hs.out;clear p0 p1 p2 p3;generalize ((w2.setCell ⟨w.heap.size,0,none⟩ (.bool neg)).setCell ⟨w.heap.size,1,none⟩ (.slice A2 (digs B64 V).length c2))=W at*;exact bodyPost_ret (v:=.agg #[.bool neg,.slice A2 (digs B64 V).length c2]) (by simp[results,Tryz.results151,go_sem,q0,q1]) rfl Hf
end Go.Proofs.YtegfiemlnnpidaaGreatDoor
