/-
 limbs: Bits, short, DivMod by one digit. limbs: DivMod by one digit.
-/
import Derived.Test.YtegfiemlnnpidaaGreatDoorDiv
namespace Go.Proofs.YtegfiemlnnpidaaGreatDoor
set_option maxHeartbeats 1000000
open Go.RowKit

set_option maxRecDepth 100000 in
theorem zhI (lo y:Nat) (w:World) (h1:0<y) (_:y<B64) (h3:lo<B64):
 Calls Tryz.prog 228 #[.int .u64 0,.int .u64 lo,.int .u64 y] w fun e w'=>e=.returned (.tuple #[.int .u64 ((lo/y:Nat):Int),.int .u64 ((lo%y:Nat):Int)])/\∃n,w'=w.drewN n:=by
 have g1:((y:Int)==0)=false:=by simp;omega
 have g3:¬(y:Int)<=0:=by omega
 have q1:lo/y<=lo:=Nat.div_le_self _ _;have q2:lo%y<=lo:=Nat.mod_le _ _;obtain⟨Q,hQ⟩:∃Q,Q=lo/y:=⟨_,rfl⟩;obtain⟨R,hR⟩:∃R,R=lo%y:=⟨_,rfl⟩;have e1:(lo:Int)/(y:Int)=(Q:Int):=by rw[hQ];rfl
 have e1':(lo:Int).tdiv (y:Int)=(Q:Int):=by rw[Int.tdiv_eq_ediv_of_nonneg (by omega)];exact e1
 have e2:(lo:Int)%(y:Int)=(R:Int):=by rw[hR];rfl
 have e2':(lo:Int).tmod (y:Int)=(R:Int):=by rw[Int.tmod_eq_emod_of_nonneg (by omega)];exact e2
 have e3:IntKind.u64.wrap (Q:Int)=(Q:Int):=w64 _ (by omega);have e4:IntKind.u64.wrap (R:Int)=(R:Int):=w64 _ (by omega);rw[<-hQ,<-hR];clear q1 q2 hQ hR;go_enter Tryz.func228,Tryz.ntmps228;go_wp2_with fail;go_quiet (fail);go_wp2_with fail;go_ret2;exact⟨rfl,_,rfl⟩
theorem zf2 (hi lo y:Nat) (w:World) (h1:hi<y) (h2:y<B64) (h3:lo<B64):
 Calls Tryz.prog 228 #[.int .u64 hi,.int .u64 lo,.int .u64 y] w fun e w'=>e=.returned (.tuple #[.int .u64 (((hi*B64+lo)/y:Nat):Int),.int .u64 (((hi*B64+lo)%y:Nat):Int)])/\∃n,w'=w.drewN n:=by
 rcases Nat.eq_zero_or_pos hi with rfl|h
 ·have:=zhI lo y w h1 h2 h3;simpa using this
 ·exact(zhQ hi lo y w h1 h2 h3 h).mono fun e w' h=>⟨h.1,0,h.2.symm⟩

def bitsN (l:List Nat):Nat:=if used l=0 then 0 else 64*(used l-1)+Lib.bitLen (nth l (used l-1))
theorem zhf {l:List Nat} (h:∀x∈l,x<B64):bitsN l=0↔val B64 l=0:=by
 unfold bitsN;by_cases h0:used l=0
 ·rw[if_pos h0];simp[zav h0]
 ·rw[if_neg h0];have hne:nth l (used l-1)≠0:=by
   intro e;have key:∀n,zbI l n≠0->nth l (zbI l n-1)≠0:=by
    intro n
    induction n with
    |zero=>intro h;exact absurd rfl h
    |succ n ih=>
     intro h;simp only[zbI]at h⊢
     split
     ·rename_i hz;rw[if_pos hz]at h;exact ih h
     ·rename_i hz;simpa using hz
   exact key l.length h0 e
  have hlt:=zak za4 h (used l-1);have hb:=zc5 (nth l (used l-1)) (by omega) hlt;have hv:val B64 l≠0:=by
   rw[<-zaz];have:=(zbt l).pos (b:=B64) (by decide) (by intro e;have:=za5 l;rw[e]at this;simp at this;omega);omega
  constructor<;>intro h<;>omega

theorem zjY (w:World) (A:Option Addr) (c:Nat) (l:List Nat) (hl:l.length<=17592186044416) (hr:Rd w .u64 A l) (hx:∀x∈l,x<B64):
 Calls Tryz.prog 186 #[.slice A l.length c] w fun e w'=>e=.returned (.int .i64 (bitsN l:Nat))/\w=w':=by
 have hu:=zay l;have hsl:=hr.sl;have h1:=zaA;have Hr:=znd hr;have Hx:=znd hx;clear hr hx;go_enter Tryz.func186,Tryz.ntmps186;go_wp2_with fail;refine(zaK w A c l (by omega) Hr.out).mono ?_;rintro e w' ⟨rfl,rfl⟩;by_cases h0:used l=0
 ·have Hz:Hid (bitsN l=0):=by show _=_;unfold bitsN;rw[if_pos h0]
  have hq:((used l:Int)==0)=true:=by simp[h0]
  clear h0;go_wp2_with fail;go_ret;exact⟨zc6 (by rw[Hz.out];rfl),rfl⟩
 ·have Hz:Hid (bitsN l=64*(used l-1)+Lib.bitLen (nth l (used l-1))):=by show _=_;unfold bitsN;rw[if_neg h0]
  have hq:((used l:Int)==0)=false:=by simp[h0]
  have hcell:=Hr.out.cell (used l-1) (by omega);have hlt:=zak za4 Hx.out (used l-1);have hbl:Lib.bitLen (nth l (used l-1))<=64:=Lib.bitLen_le _ 64 (Nat.le_refl _) hlt;have Hlen:=znd (Tryz.bits_Len64 (nth l (used l-1):Nat) w (by omega) (by simp only[B64]at hlt;omega));rw[Int.toNat_natCast]at Hlen;generalize used l=u at*;generalize nth l (u-1)=x at*;generalize Lib.bitLen x=bx at*;clear hlt;go_wp2_with fail;refine Hlen.out.mono ?_;rintro e w' ⟨rfl,hw⟩;have hw2:=hw.symm;subst hw2;go_wp2_with fail;go_ret;exact⟨zc6 (by rw[Hz.out];simp;omega),rfl⟩

theorem zcO {b:Nat} {l:List Nat} {k:Nat} (h:k<l.length):val b (l.drop k)=nth l k+b*val b (l.drop (k+1)):=by
 rw[List.drop_eq_getElem_cons h,val];simp[nth,List.getD,h]
theorem zdm {b:Nat} {l:List Nat} {k x:Nat} (h:k<l.length):val b ((l.set k x).drop k)=x+b*val b (l.drop (k+1)):=by
 rw[zcO (by simpa using h),zaq _ _ _ h,List.drop_set_of_lt (by omega)]

structure InBlk (w:World) (g:Nat) (A:Option Addr) (k c:Nat) (l:List Nat):Prop where
 len:k=l.length
 at_:l=[]/\A=none\/A=some ⟨g,0,none⟩/\k<=c/\∃s:List Nat,Blk w g 50 (ints .u64 s)/\(∀x∈s,x<B64)/\s.take k=l/\k<=s.length/\s.length<=17592186044000
def OwnD (b:Nat) (w:World) (A:Option Addr) (k c:Nat) (l:List Nat):Prop:=∃g,b<=g/\InBlk w g A k c l
def RetO (l:List Nat) (w:World) (e:Ending) (w':World):Prop:=∃A c,e=.returned (.slice A l.length c)/\OwnD w.heap.size w' A l.length c l/\Below w.heap.size w w'
theorem InBlk.rd {w:World} {g:Nat} {A:Option Addr} {k c:Nat} {l:List Nat} (h:InBlk w g A k c l):Rd w .u64 A l/\(∀b,b<=g->Fr b A l)/\(l.length<=c\/l=[]):=by
 rcases h.at_ with⟨rfl,rfl⟩|⟨rfl,hc,s,hs,hx,rfl,hk,-⟩
 ·exact⟨Rd.nil_ _ _,fun _ _=>Fr.none_ _ _,.inr rfl⟩
 ·exact⟨(Rd.of_blk hs).take _,fun b hb=>Fr.of_blk hb _,.inl (by rw[<-h.len];exact hc)⟩
theorem OwnD.rd {b:Nat} {w:World} {A:Option Addr} {k c:Nat} {l:List Nat} (h:OwnD b w A k c l):Rd w .u64 A l/\Fr b A l:=by
 obtain⟨g,hg,hi⟩:=h;exact⟨hi.rd.1,hi.rd.2.1 b hg⟩
theorem OwnD.len {b:Nat} {w:World} {A:Option Addr} {c:Nat} {l:List Nat} (h:OwnD b w A l.length c l):l.length<=c:=by
 obtain⟨g,hg,hi⟩:=h;rcases hi.rd.2.2 with h|h
 ·exact h
 ·rw[h];exact Nat.zero_le _
theorem RetO.ret {l:List Nat} {w w':World} {e:Ending} (h:RetO l w e w'):RetL .u64 l w e w':=by
 obtain⟨A,c,rfl,ho,hb⟩:=h;exact⟨A,c,rfl,ho.len,ho.rd.1,hb,ho.rd.2⟩
theorem RetNew.own {l:List Nat} {w w':World} {e:Ending} (h:RetNew l w e w') (hl:l.length<=17592186044000) (hx:∀x∈l,x<B64):RetO l w e w':=by
 obtain⟨A,c,rfl,ho,hb⟩:=h;rcases ho with⟨rfl,rfl,rfl⟩|⟨g,rfl,rfl,hgs,hg⟩
 ·exact⟨none,0,rfl,⟨w.heap.size,Nat.le_refl _,⟨rfl,.inl ⟨rfl,rfl⟩⟩⟩,hb⟩
 ·exact⟨_,_,rfl,⟨g,hgs,⟨rfl,.inr ⟨rfl,Nat.le_refl _,l,hg,hx,by simp,Nat.le_refl _,hl⟩⟩⟩,hb⟩
theorem RetIn.inb {g c:Nat} {l s:List Nat} {w w':World} {e:Ending} (h:RetIn (some ⟨g,0,none⟩) c (trim l) w e w') (hB:Blk w g 50 (ints .u64 s)) (hs:s.take l.length=l) (hl:l.length<=s.length) (hx:∀x∈s,x<B64) (hS:s.length<=17592186044000):
 ∃A' c',e=.returned (.slice A' (trim l).length c')/\InBlk w g A' (trim l).length c' (trim l)/\w=w':=by
 obtain⟨A',c',rfl,hc,ho,rfl⟩:=h;refine⟨A',c',rfl,⟨rfl,?_⟩,rfl⟩;have hu:=zay l;rcases ho with⟨rfl,h⟩|⟨rfl,rfl⟩
 ·exact .inl ⟨h,rfl⟩
 ·refine .inr ⟨rfl,hc,s,hB,hx,?_,by rw[za5];omega,hS⟩;rw[za5];have e1:(s.take l.length).take (used l)=s.take (used l):=by rw[List.take_take,Nat.min_eq_left hu]
  rw[hs]at e1;exact e1.symm
theorem InBlk.below {w w':World} {g:Nat} {A:Option Addr} {k c:Nat} {l:List Nat} {B:Nat} (h:InBlk w g A k c l) (hb:Below B w w') (hg:g<B):InBlk w' g A k c l:=by
 refine⟨h.len,?_⟩;rcases h.at_ with h|⟨rfl,hc,s,hs,r⟩
 ·exact .inl h
 ·exact .inr ⟨rfl,hc,s,hs.below hb hg,r⟩
theorem InBlk.only {w w':World} {g g':Nat} {A:Option Addr} {k c:Nat} {l:List Nat} (h:InBlk w g A k c l) (ho:w.grownBy w' (some g')) (hne:g≠g'):InBlk w' g A k c l:=by
 refine⟨h.len,?_⟩;rcases h.at_ with h|⟨rfl,hc,s,hs,r⟩
 ·exact .inl h
 ·exact .inr ⟨rfl,hc,s,(ho.block g hs.lt (fun e=>hne (by injection e))).trans hs,r⟩

def zh2 (p q:List Nat) (w:World) (e:Ending) (w':World):Prop:=
 ∃A c A' c',e=.returned (.tuple #[.slice A p.length c,.slice A' q.length c'])/\p.length<=c/\q.length<=c'/\Rd w' .u64 A p/\Rd w' .u64 A' q/\Below w.heap.size w w'/\Fr w.heap.size A p/\Fr w.heap.size A' q/\OwnD w.heap.size w' A' q.length c' q

structure ShInv (w wr:World) (n k d rest:Nat) (l s:List Nat):Prop where
 len:s.length=n
 lt:∀x∈s,x<B64
 blk:Blk wr w.heap.size 50 (ints .u64 s)
 below:Below w.heap.size w wr
 rlt:rest<d
 eq:val B64 (l.drop k)=val B64 (s.drop k)*d+rest
theorem zd2 {x:Nat} (h:x<B64):∀y∈[x],y<B64:=by intro y hy;simp at hy;omega
theorem zfh {rest x d:Nat} (hr:rest<d) (hx:x<B64):(rest*B64+x)/d<B64:=by
 rw[Nat.div_lt_iff_lt_mul (by omega)];have:(rest+1)*B64<=d*B64:=Nat.mul_le_mul_right _ hr;rw[Nat.add_mul,Nat.one_mul]at this;rw[Nat.mul_comm B64];omega
theorem ShInv.next {w wr:World} {n k d rest:Nat} {l s:List Nat} (h:ShInv w wr n (k+1) d rest l s) (hk:k<n) (hn:n=l.length) (hl:∀x∈l,x<B64) (j:Nat):
 ShInv w ((wr.drewN j).setCell ⟨w.heap.size,k,none⟩ (.int .u64 (((rest*B64+nth l k)/d:Nat):Int))) n k d ((rest*B64+nth l k)%d) l (s.set k ((rest*B64+nth l k)/d)):=by
 have hd:0<d:=by have:=h.rlt;omega
 refine⟨by simp[h.len],zcr h.lt _ _ (zfh h.rlt (zak za4 hl k)),?_,(Below.drewN h.below j).setCell (Nat.le_refl _) _,Nat.mod_lt _ hd,?_⟩
 ·have:=(h.blk.drewN j).set_ k (.int .u64 (((rest*B64+nth l k)/d:Nat):Int));rw[zbj]at this;exact this
 ·rw[zdm (by rw[h.len];exact hk),zcO (by omega),h.eq];have e:=Nat.div_add_mod (rest*B64+nth l k) d;generalize (rest*B64+nth l k)/d=q at*;generalize (rest*B64+nth l k)%d=r at*;generalize val B64 (s.drop (k+1))=v at*;generalize nth l k=x at*;clear h hl hn hk hd;generalize B64=b at*;grind

set_option maxRecDepth 100000 in
theorem ziA (w:World) (A:Option Addr) (c d:Nat) (l:List Nat) (hl:l.length<=17592186044000) (ha:Rd w .u64 A l) (hx:∀x∈l,x<B64) (hd:0<d) (hd2:d<B64):
 Calls Tryz.prog 201 #[.slice A l.length c,.int .u64 d] w (zh2 (digs B64 (val B64 l/d)) (digs B64 (val B64 l%d)) w):=by
 have hsa:=ha.sl;have h1:=zaA;have Ha:=znd ha;have Hx:=znd hx;obtain⟨n,hn⟩:∃n,n=l.length:=⟨_,rfl⟩;have hmk:=fun W=>run_make_row' (P:=Tryz.prog) 51 50 (.int .u64 0) 8 Tryz.underlying51 zcc rfl .i64 .i64 n (by omega) (by omega) W;rw[<-hn]at hsa hl⊢;have HN:=znd hn;clear ha hx hn;go_enter Tryz.func201,Tryz.ntmps201;go_wp2_with fail;go_loopw [8,16] (fun rv i wr=>∃(k rest:Nat) (s:List Nat),k<=n/\rv=.int .u64 rest/\i=.int .i64 ((n-k:Nat):Int)/\ShInv w wr n k d rest l s) (fun _ i _=>n-(intOf i).toNat)
 case atStart=>
  refine⟨n,0,List.replicate n 0,Nat.le_refl _,rfl,by simp,by simp,?_,?_,Below.of_alloc _ _,hd,?_⟩
  ·intro x hx;rw[(List.mem_replicate.1 hx).2];exact za4
  ·rw[<-zbE];exact Blk.new _ _ _
  ·rw[List.drop_eq_nil_of_le (by rw[HN.out];exact Nat.le_refl _),List.drop_eq_nil_of_le (by simp)];simp[val]
 case round=>
  obtain⟨k,rest,s,hk,rfl,rfl,hI⟩:=hrel;rcases k with _|k
  ·have hfq:trim s=digs B64 (val B64 l/d)/\trim [rest]=digs B64 (val B64 l%d):=by
    have e:=hI.eq;simp only[List.drop_zero]at e;have r1:=hI.rlt;constructor
    ·rw[zb5 (b:=B64) (by decide) hI.lt,e,Nat.mul_comm,Nat.mul_add_div hd,Nat.div_eq_of_lt r1,Nat.add_zero]
    ·rw[zb5 (b:=B64) (by decide) (by intro x hx;simp at hx;omega),e,Nat.mul_comm,Nat.mul_add_mod,Nat.mod_eq_of_lt r1];simp[val]
   have Hfin:=znd hfq;have Hrl:=znd (show rest<B64 from Nat.lt_trans hI.rlt hd2);have hl1:=hI.len;have htd:=zbP wr (some ⟨w.heap.size,0,none⟩) n s (by omega) (by omega) (Rd.of_blk hI.blk);have hrt:=(Rd.of_blk hI.blk).take (used s);rw[hl1]at htd;have Htd:=znd htd;have Hrt:=znd hrt;have Hb2:=znd hI.below;have hgt:w.heap.size<wr.heap.size:=hI.blk.lt;clear htd hrt hI hfq hl1;simp only[Nat.sub_zero];go_wp2_with fail;refine Htd.out.mono ?_;intro e w' hret;obtain⟨A',c',rfl,hc',hr',rfl⟩:=hret.rd Hrt.out;have HR:=znd hr';have HC:=znd hc';clear hr' hc' hret Htd Hrt;have hb3:Blk (wr.alloc (.cells #[.int .u64 (rest:Int)] 50)) wr.heap.size 50 (ints .u64 [rest]):=Blk.new _ _ _;have htd:=zbP (wr.alloc (.cells #[.int .u64 (rest:Int)] 50)) (some ⟨wr.heap.size,0,none⟩) 1 [rest] (by simp) (by simp) (Rd.of_blk hb3);have hrt:=(Rd.of_blk hb3).take (used [rest]);have Htd:=znd htd;have Hrt:=znd hrt;clear htd hrt;have hb3':=hb3;clear hb3;have Hb3:=znd hb3';clear hb3';go_wp2_with fail;have hb3':=Hb3.out;have Hb3:=znd hb3';clear hb3';refine Htd.out.mono ?_;intro e w' hret;have hin:=hret.inb Hb3.out (by simp) (by simp) (zd2 Hrl.out) (by simp);obtain⟨A'',c'',rfl,hc',hr',rfl⟩:=hret.rd Hrt.out;obtain⟨A3,c3,he3,hin,-⟩:=hin;obtain⟨rfl,rfl⟩:A''=A3/\c''=c3:=by injection he3 with he3;injection he3 with e1 e2 e3;exact⟨e1,e3⟩
   have HIn:=znd hin;clear hin he3;have HR2:=znd hr';have HC2:=znd hc';clear hr' hc' hret Htd Hrt;go_wp2_with fail;go_ret2;rw[<-Hfin.out.1,<-Hfin.out.2];exact⟨A',c',A'',c'',rfl,HC.out,HC2.out,HR.out.1.alloc _,HR2.out.1,Hb2.out.alloc Hb2.out.size _,HR.out.2 _ (Fr.of_blk (Nat.le_refl _) _),HR2.out.2 _ (Fr.of_blk Hb2.out.size _),⟨_,Hb2.out.size,HIn.out⟩⟩
  ·have hca:=(Ha.out.below hI.below (Nat.le_refl _)).cell k (by have:=HN.out;omega);have hcell:=hI.blk.cell k;rw[zaC .u64 s k (by rw[hI.len];omega)]at hcell;have hfz:=hI.blk.frozen k;have hdiv:=znd (fun W=>zf2 rest (nth l k) d W hI.rlt hd2 (zak za4 Hx.out k));have HI:=znd (fun j=>hI.next (by omega) HN.out Hx.out j);have i1:(n:Int)-1-((n-(k+1):Nat):Int)=(k:Int):=by omega
   have i2:((n-(k+1):Nat):Int)<(n:Int):=by omega
   have i3:((n-(k+1):Nat):Int)+1=((n-k:Nat):Int):=by omega
   have hm:n-(n-k)<n-(n-(k+1)):=by omega
   have hkn:k<n:=by omega
   clear hI;generalize nth l k=x at*;generalize nth s k=z at*;generalize (rest*B64+x)/d=q at*;generalize (rest*B64+x)%d=r at*;generalize n-(k+1)=i at*;go_wp2_with fail;refine(hdiv.out _).mono ?_;rintro e w' ⟨rfl,j,rfl⟩;go_wp2_with fail;go_roundw
   case rel=>exact⟨k,r,s.set k q,by omega,rfl,rfl,HI.out j⟩
   case measure=>simp[intOf];omega


theorem zbN {a b:Nat}:cmpN a b<0↔a<b:=by
 unfold cmpN;split
 ·simp;omega
 ·split
  ·simp;omega
  ·constructor<;>omega

set_option maxRecDepth 100000 in
theorem zhm (w:World) (A B:Option Addr) (c d:Nat) (l m:List Nat) (hl:l.length<=17592186044000) (hm:m.length<=17592186044000) (hlc:l.length<=c) (ha:Rd w .u64 A l) (hb:Rd w .u64 B m)
 (hx:∀x∈l,x<B64) (hy:∀x∈m,x<B64) (h1:used m=1):
 Calls Tryz.prog 171 #[.slice A l.length c,.slice B m.length d] w (zh2 (digs B64 (val B64 l/val B64 m)) (digs B64 (val B64 l%val B64 m)) w):=by
 have hml:=zay m;have hll:=zay l;have hvm:val B64 m=nth m 0:=by
  rw[<-zbl B64 m 1 (by omega)];simp[valT]
 have hv0:0<nth m 0:=by
  have h:=(zbt m).pos (b:=B64) (by decide) (by intro e;have:=za5 m;rw[e]at this;simp at this;omega);rw[zaz,hvm]at h;exact h
 have hvl:nth m 0<B64:=zak za4 hy 0;have hsa:=ha.sl;have hsb:=hb.sl;have hz:=zaA;have Hvm:=znd hvm;have Ha:=znd ha;have Hb:=znd hb;have Hx:=znd hx;have Hy:=znd hy;have hcell:=hb.cell 0 (by omega);have hm0:0<m.length:=by omega
 have hul:=znd (zaK w A c l (by omega) ha);have hum:=znd (zaK w B d m (by omega) hb);rw[h1]at hum;clear ha hb hx hy hvm h1 hml;go_enter Tryz.func171,Tryz.ntmps171;go_wp2_with fail;refine hum.out.mono ?_;rintro e w' ⟨rfl,rfl⟩;go_wp2_with fail;refine(zdO w A B c d l m (by omega) (by omega) Ha.out Hb.out Hx.out Hy.out).mono ?_;rintro e w' ⟨rfl,q,rfl⟩;by_cases hlt:val B64 l<val B64 m
 ·have hc:cmpN (val B64 l) (val B64 m)<0:=zbN.2 hlt
  have Hfin:Hid (digs B64 (val B64 l/val B64 m)=[]/\digs B64 (val B64 l%val B64 m)=trim l):=
   ⟨by rw[Nat.div_eq_of_lt hlt];rfl,by rw[Nat.mod_eq_of_lt hlt,zb5 (by decide) Hx.out]⟩
  clear hlt;generalize cmpN (val B64 l) (val B64 m)=z at*;go_wp2_with fail;refine((zcg _ A c l (by omega) (Ha.out.drewN q)).mono fun _ _ h=>h.own (by rw[za5];omega) (zbp Hx.out)).mono ?_;rintro e w1 ⟨A1,c1,rfl,ho1,hb1⟩;have hc1:=ho1.len;have hr1:=ho1.rd.1;have HF:=znd (And.intro ho1.rd.2 ho1);clear ho1;have HB:=znd hb1;have HR:=znd hr1;have HC:=znd hc1;clear hb1 hr1 hc1;go_wp2_with fail;go_ret2;rw[Hfin.out.1,Hfin.out.2];exact⟨none,0,A1,c1,rfl,Nat.le_refl _,HC.out,Rd.nil_ _ _,HR.out,(Below.drewN (Below.refl _ _) q).trans HB.out,Fr.none_ _ _,HF.out⟩
 ·have hc:¬cmpN (val B64 l) (val B64 m)<0:=fun h=>hlt (zbN.1 h);clear hlt;generalize cmpN (val B64 l) (val B64 m)=z at*;have Hus:=znd (fun W (hW:∀a,W.cell? a=w.cell? a)=>zaK W A c l (by omega) (Ha.out.keep fun p _=>hW p));have Hsh:=znd (fun W (hW:∀a,W.cell? a=w.cell? a)=>ziA W A c (nth m 0) (trim l) (by rw[za5];omega) ((Ha.out.keep fun p _=>hW p).take (used l)) (zbp Hx.out) hv0 hvl);rw[za5,zaz]at Hsh;generalize used l=u at*;generalize nth m 0=y at*;go_wp2_with fail
  go_region_with (first|(go_at_call 155;refine(Hus.out _ (by exact fun _=>rfl)).mono ?_;rintro e w' ⟨rfl,rfl⟩)|(go_at_call 201;refine(Hsh.out _ (by exact fun _=>rfl)).mono ?_;rintro e w1 ⟨A1,c1,A2,c2,rfl,hc1,hc2,hr1,hr2,hb1,hf1,hf2⟩;have HF:=znd hf1;have HF2:=znd hf2;clear hf1 hf2;have HB:=znd hb1;have HR:=znd hr1;have HC:=znd hc1;have HR2:=znd hr2;have HC2:=znd hc2;clear hb1 hr1 hc1 hr2 hc2))
  all_goals
   go_wp2_with fail;go_ret2;rw[Hvm.out];exact⟨A1,c1,A2,c2,rfl,HC.out,HC2.out,HR.out,HR2.out,⟨HB.out.os,HB.out.tape,HB.out.output,HB.out.size,HB.out.block⟩,HF.out,HF2.out⟩
end Go.Proofs.YtegfiemlnnpidaaGreatDoor
