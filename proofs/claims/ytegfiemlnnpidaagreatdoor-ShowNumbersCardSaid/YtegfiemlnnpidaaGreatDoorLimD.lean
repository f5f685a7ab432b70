/-
 limbs: Mul.
-/
import Derived.Test.YtegfiemlnnpidaaGreatDoorLimC
import Derived.Test.YtegfiemlnnpidaaGreatDoorShelf
namespace Go.Proofs.YtegfiemlnnpidaaGreatDoor
set_option maxHeartbeats 2000000
open Go.RowKit

theorem zkn {x y p c:Nat} (hx:x<B64) (hy:y<B64) (hp:p<B64) (hc:c<B64):
 ((x*y%B64+p)%B64+c)%B64=(x*y+p+c)%B64/\x*y/B64+(x*y%B64+p)/B64+((x*y%B64+p)%B64+c)/B64=(x*y+p+c)/B64/\(x*y+p+c)/B64<B64:=by
 have h0:=Nat.div_add_mod (x*y) B64;have h1:=Nat.div_add_mod (x*y%B64+p) B64;have h2:=Nat.div_add_mod ((x*y%B64+p)%B64+c) B64;have m2:((x*y%B64+p)%B64+c)%B64<B64:=Nat.mod_lt _ za4;have e:x*y+p+c=((x*y%B64+p)%B64+c)%B64+B64*(x*y/B64+(x*y%B64+p)/B64+((x*y%B64+p)%B64+c)/B64):=by
  rw[Nat.mul_add,Nat.mul_add];omega
 have hxy:x*y<=(B64-1)*(B64-1):=Nat.mul_le_mul (by omega) (by omega);refine⟨?_,?_,?_⟩
 ·rw[e,Nat.add_mul_mod_self_left,Nat.mod_eq_of_lt m2]
 ·rw[e,Nat.add_mul_div_left _ _ za4,Nat.div_eq_of_lt m2,Nat.zero_add]
 ·rw[Nat.div_lt_iff_lt_mul za4];simp only[B64]at*;omega

theorem wrap_u64 (a b:Nat) (h:a+b<B64):IntKind.u64.wrap ((a:Int)+(b:Int))=((a+b:Nat):Int):=by
 simp only[B64]at h;rw[IntKind.wrap_u64];omega

structure MulOut (w wr:World) (n q i:Nat) (l m s:List Nat):Prop where
 len:s.length=n+q
 lt:∀x∈s,x<B64
 zero:∀j,i+q<=j->nth s j=0
 blk:Blk wr w.heap.size 50 (ints .u64 s)
 below:Below w.heap.size w wr
 eq:valT B64 s (i+q)=valT B64 l i*valT B64 m q

structure MulIn (w wr:World) (n q i j c:Nat) (l m s0 s:List Nat):Prop where
 len:s.length=n+q
 lt:∀x∈s,x<B64
 rest:∀t,i+j<=t->nth s t=nth s0 t
 blk:Blk wr w.heap.size 50 (ints .u64 s)
 below:Below w.heap.size w wr
 eq:valT B64 s (i+j)+B64^(i+j)*c=valT B64 s0 (i+j)+B64^i*(nth l i*valT B64 m j)

theorem MulIn.drewN {w wr:World} {n q i j c:Nat} {l m s0 s:List Nat} (h:MulIn w wr n q i j c l m s0 s) (k:Nat):MulIn w (wr.drewN k) n q i j c l m s0 s:=
 ⟨h.len,h.lt,h.rest,h.blk,Below.drewN h.below k,h.eq⟩
theorem MulIn.next {w wr:World} {n q i j c t:Nat} {l m s0 s:List Nat} (h:MulIn w wr n q i j c l m s0 s) (hi:i<n) (hj:j<q) (ht:t=nth l i*nth m j+nth s (i+j)+c):
 MulIn w (wr.setCell ⟨w.heap.size,i+j,none⟩ (.int .u64 ((t%B64:Nat):Int))) n q i (j+1) (t/B64) l m s0 (s.set (i+j) (t%B64)):=by
 refine⟨by simp[h.len],zcr h.lt _ _ (Nat.mod_lt _ za4),?_,?_,h.below.setCell (Nat.le_refl _) _,?_⟩
 ·intro k hk;rw[getD_set_ne _ _ _ _ (by omega)];exact h.rest k (by omega)
 ·have:=h.blk.set_ (i+j) (.int .u64 ((t%B64:Nat):Int));rw[zbj]at this;exact this
 ·have e:=Nat.div_add_mod t B64;have e1:=h.eq;have e2:=h.rest (i+j) (Nat.le_refl _);rw[<-Nat.add_assoc,valT,zbx _ _ _ _ _ (Nat.le_refl _),zaq _ _ _ (by rw[h.len];omega),valT,valT,Nat.pow_succ,Nat.pow_add];rw[Nat.pow_add]at e1;rw[e2]at ht;generalize t%B64=r at*;generalize t/B64=d at*;grind

theorem MulIn.start {w wr:World} {n q i:Nat} {l m s:List Nat} (h:MulOut w wr n q i l m s):MulIn w wr n q i 0 0 l m s s:=
 ⟨h.len,h.lt,fun _ _=>rfl,h.blk,h.below,by simp[valT]⟩
theorem MulIn.done {w wr:World} {n q i c:Nat} {l m s0 s:List Nat} (h0:valT B64 s0 (i+q)=valT B64 l i*valT B64 m q) (hz:∀j,i+q<=j->nth s0 j=0) (h:MulIn w wr n q i q c l m s0 s) (hi:i<n) (hc:c<B64):
 MulOut w (wr.setCell ⟨w.heap.size,i+q,none⟩ (.int .u64 (c:Int))) n q (i+1) l m (s.set (i+q) c):=by
 refine⟨by simp[h.len],zcr h.lt _ _ hc,?_,?_,h.below.setCell (Nat.le_refl _) _,?_⟩
 ·intro k hk;rw[getD_set_ne _ _ _ _ (by omega),h.rest k (by omega)];exact hz k (by omega)
 ·have:=h.blk.set_ (i+q) (.int .u64 (c:Int));rw[zbj]at this;exact this
 ·have e1:=h.eq;rw[show i+1+q=(i+q)+1 by omega,valT,zbx _ _ _ _ _ (Nat.le_refl _),zaq _ _ _ (by rw[h.len];omega),e1,h0,valT];grind

theorem zbz (n j:Nat):nth (List.replicate n 0) j=0:=by
 by_cases h:j<n<;>simp[nth,List.getD,h]

theorem zdH (x y:Nat) (hx:x<B64) (hy:y<B64) (w:World):
 Calls Tryz.prog 189 #[.int .u64 x,.int .u64 y] w fun e w'=>e=.returned (.tuple #[.int .u64 ((x*y/B64:Nat):Int),.int .u64 ((x*y%B64:Nat):Int)])/\w'=w:=
 Tryz.bits_Mul64 x y hx hy w
theorem zcI (x y:Nat) (w:World):
 (callFunc 190 #[.int .u64 x,.int .u64 y,.int .u64 0]).run Tryz.prog w=
  .ok (.value (.tuple #[.int .u64 (((x+y)%B64:Nat):Int),.int .u64 (((x+y)/B64:Nat):Int)])) w:=zbO x y 0 (by omega) w

set_option maxRecDepth 100000 in
theorem zlh (w:World) (A B:Option Addr) (c d:Nat) (l m:List Nat) (hl:l.length<=8796093022208) (hm:m.length<=8796093022208) (ha:Rd w .u64 A l) (hb:Rd w .u64 B m)
 (hx:∀x∈l,x<B64) (hy:∀x∈m,x<B64):
 Calls Tryz.prog 149 #[.slice A l.length c,.slice B m.length d] w (RetL .u64 (digs B64 (val B64 l*val B64 m)) w):=by
 have hul:=zay l;have hum:=zay m;have hsa:=ha.sl;have hsb:=hb.sl;have h1:=zaA;have Ha:=znd ha;have Hb:=znd hb;have Hx:=znd hx;have Hy:=znd hy;clear ha hb hx hy;go_enter Tryz.func149,Tryz.ntmps149;go_wp2_with fail;refine(zaK w A c l (by omega) Ha.out).mono ?_;rintro e w' ⟨rfl,rfl⟩;go_wp2_with fail;refine(zaK w B d m (by omega) Hb.out).mono ?_;rintro e w' ⟨rfl,rfl⟩;by_cases hz:used l=0\/used m=0
 ·have Hfin:Hid (digs B64 (val B64 l*val B64 m)=[]):=by
   show _=_
   rcases hz with hz|hz
   ·rw[zav hz,Nat.zero_mul];rfl
   ·rw[zav (l:=m) hz,Nat.mul_zero];rfl
  have hfin:∀w',Below w.heap.size w w'->RetL .u64 (digs B64 (val B64 l*val B64 m)) w (.returned (.slice none 0 0)) w':=fun w' h=>by
   rw[Hfin.out];exact⟨none,0,rfl,Nat.le_refl _,Rd.nil_ _ _,h,Fr.none_ _ _⟩
  have HF:=znd hfin;clear hfin;rcases Nat.eq_zero_or_pos (used l)with h0|h0
  ·have hq:((used l:Int)==0)=true:=by simp[h0]
   clear hz h0;go_wp2;go_ret;exact HF.out _ (Below.refl _ _)
  ·have h0':used m=0:=by omega
   have hq:((used l:Int)==0)=false:=by simp;omega
   have hq2:((used m:Int)==0)=true:=by simp[h0']
   clear hz h0';go_wp2;go_ret;exact HF.out _ (Below.refl _ _)
 ·have hq:((used l:Int)==0)=false:=by simp;omega
  have hq2:((used m:Int)==0)=false:=by simp;omega
  have Hvl:=znd (zbl B64 l (used l) (Nat.le_refl _));have Hvm:=znd (zbl B64 m (used m) (Nat.le_refl _));clear hz;generalize used l=n at*;generalize used m=q at*;have hmk:=fun W=>run_make_row' (P:=Tryz.prog) 51 50 (.int .u64 0) 8 Tryz.underlying51 zcc rfl .i64 .i64 (n+q) (by omega) (by omega) W;simp only[Int.natCast_add]at hmk;go_wp2;go_loopw [29] (fun i wr=>∃(k:Nat) (s:List Nat),k<=n/\i=.int .i64 k/\MulOut w wr n q k l m s) (fun i _=>n-(intOf i).toNat)
  case atStart=>
   refine⟨0,List.replicate (n+q) 0,Nat.zero_le _,rfl,by simp,?_,?_,?_,Below.of_alloc _ _,?_⟩
   ·intro x hx;rw[(List.mem_replicate.1 hx).2];exact za4
   ·intro j hj;exact zbz _ _
   ·rw[<-zbE];exact Blk.new _ _ _
   ·rw[valT,Nat.zero_mul,zbf _ _ _ (by simp),List.take_replicate,zbd]
  case round=>
   obtain⟨i,s0,hi,rfl,hO⟩:=hrel;obtain⟨wo,rfl⟩:∃wo:World,wo=wr:=⟨_,rfl⟩;by_cases hlt:i<n
   ·have HO:=znd hO;clear hO;go_wp2;go_loopw [9,33] (fun cv jv wr=>∃(j cc:Nat) (s:List Nat),j<=q/\Hid (cc<B64)/\cv=.int .u64 cc/\jv=.int .i64 j/\MulIn w wr n q i j cc l m s0 s) (fun _ jv _=>q-(intOf jv).toNat)
    case atStart=>exact⟨0,0,s0,Nat.zero_le _,za4,rfl,rfl,MulIn.start HO.out⟩
    case round=>
     obtain⟨j,cc,s,hj,hcc,rfl,rfl,hI⟩:=hrel;by_cases hjl:j<q
     ·have hca:=(Ha.out.below hI.below (Nat.le_refl _)).cell i (by omega);have hcb:=(Hb.out.below hI.below (Nat.le_refl _)).cell j (by omega);have hcell:=hI.blk.cell (i+j);rw[zaC .u64 s (i+j) (by rw[hI.len];omega)]at hcell;have hfz:=hI.blk.frozen (i+j);have i1:(i:Int)<l.length:=by omega
      have i2:(j:Int)<m.length:=by omega
      have ex:=zak za4 Hx.out i;have ey:=zak za4 Hy.out j;have ep:=zak za4 hI.lt (i+j);have Hst:=znd (zkn ex ey ep hcc.out);have HI:=znd (fun k=>(hI.drewN k).next hlt hjl rfl);have hmul:=znd (zdH (nth l i) (nth m j) ex ey);clear hI ex ey ep;generalize nth l i=x at*;generalize nth m j=y at*;generalize nth s (i+j)=p at*;obtain⟨st1,st2,st3⟩:=Hst.out;have hw1:IntKind.u64.wrap ((x*y/B64:Nat)+((x*y%B64+p)/B64:Nat):Int)=((x*y/B64+(x*y%B64+p)/B64:Nat):Int):=wrap_u64 _ _ (Nat.lt_of_le_of_lt (Nat.le_trans (Nat.le_add_right _ _) (Nat.le_of_eq st2)) st3);have hw2:IntKind.u64.wrap ((x*y/B64+(x*y%B64+p)/B64:Nat)+(((x*y%B64+p)%B64+cc)/B64:Nat):Int)=((x*y/B64+(x*y%B64+p)/B64+((x*y%B64+p)%B64+cc)/B64:Nat):Int):=wrap_u64 _ _ (Nat.lt_of_le_of_lt (Nat.le_of_eq st2) st3);have ha1:=zcI (x*y%B64) p;have ha2:=zcI ((x*y%B64+p)%B64) cc;rw[st2]at hw2;rw[st1]at ha2;have Hlt2:=znd st3;clear st1 st2 st3 Hst;generalize (x*y+p+cc)/B64=H2 at*;generalize (x*y+p+cc)%B64=L2 at*;generalize ((x*y%B64+p)%B64+cc)/B64=C2 at*;generalize (x*y/B64+(x*y%B64+p)/B64)=H1 at*;generalize (x*y%B64+p)/B64=C1 at*;generalize (x*y%B64+p)%B64=L1 at*;generalize x*y/B64=H0 at*;generalize x*y%B64=L0 at*;go_wp2;go_quiet ((go_at_call 189;exact Calls.quiet_of_same (hmul.out _)));go_wp2;go_roundw
      case rel=>exact⟨j+1,H2,s.set (i+j) L2,by omega,Hlt2,rfl,by go_num,HI.out _⟩
      case measure=>simp[intOf];omega
     ·obtain rfl:j=q:=by omega
      have hcell:=hI.blk.cell (i+j);rw[zaC .u64 s (i+j) (by rw[hI.len];omega)]at hcell;have hfz:=hI.blk.frozen (i+j);have HN:=znd (hI.done HO.out.eq HO.out.zero hlt hcc.out);clear hI HO;generalize nth s (i+j)=p at*;go_wp2;go_roundw
      case rel=>exact⟨i+1,s.set (i+j) cc,by omega,by go_num,HN.out⟩
      case measure=>simp[intOf];omega
   ·obtain rfl:i=n:=by omega
    have Hfin:Hid (trim s0=digs B64 (val B64 l*val B64 m)):=by
     show _=_
     rw[zb5 (b:=B64) (by decide) hO.lt,<-zaD,hO.len,hO.eq,Hvl.out,Hvm.out]
    have htd:=zbP wo (some ⟨w.heap.size,0,none⟩) (i+q) s0 (by rw[hO.len];omega) (by rw[hO.len];omega) (Rd.of_blk hO.blk);have hrt:=(Rd.of_blk hO.blk).take (used s0);rw[hO.len]at htd;have Htd:=znd htd;have Hrt:=znd hrt;have Hb2:=znd hO.below;clear htd hrt hO;go_wp2_with fail;refine Htd.out.mono ?_;intro e w' hret;obtain⟨A',c',rfl,hc',hr',rfl⟩:=hret.rd Hrt.out;have HR:=znd hr';have HC:=znd hc';clear hr' hc' hret Htd Hrt;go_wp2;go_ret;rw[<-Hfin.out];exact⟨A',c',rfl,HC.out,HR.out.1,Hb2.out,HR.out.2 _ (Fr.of_blk (Nat.le_refl _) _)⟩

end Go.Proofs.YtegfiemlnnpidaaGreatDoor
