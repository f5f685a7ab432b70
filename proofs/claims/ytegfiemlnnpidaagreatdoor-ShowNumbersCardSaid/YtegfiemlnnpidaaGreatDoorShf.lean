/-
 limbs: up, down, Shr.
-/
import Derived.Test.YtegfiemlnnpidaaGreatDoorLimF
import Derived.Test.YtegfiemlnnpidaaGreatDoorGcdM
import Derived.Test.YtegfiemlnnpidaaGreatDoorTake
namespace Go.Proofs.YtegfiemlnnpidaaGreatDoor
set_option maxHeartbeats 2000000
open Go.RowKit

theorem ziG (x p:Nat):IntKind.u64.wrap ((x:Int)*2^p)=((x*2^p%B64:Nat):Int):=by
 rw[IntKind.wrap_u64,show((x:Int)*2^p)=((x*2^p:Nat):Int) by simp];simp only[B64];omega
theorem or64 (a b:Nat) (ha:a<B64) (hb:b<B64):bits .or .u64 (a:Int) (b:Int)=((a|||b:Nat):Int):=by
 have hx:a|||b<2^64:=Nat.or_lt_two_pow ha hb;have e1:(BitVec.ofInt 64 (a:Int)).toNat=a:=by rw[BitVec.ofInt_natCast,BitVec.toNat_ofNat];exact Nat.mod_eq_of_lt ha
 have e2:(BitVec.ofInt 64 (b:Int)).toNat=b:=by rw[BitVec.ofInt_natCast,BitVec.toNat_ofNat];exact Nat.mod_eq_of_lt hb
 show IntKind.u64.wrap ((BitVec.ofInt 64 (a:Int)|||BitVec.ofInt 64 (b:Int)).toNat:Int)=_
 rw[BitVec.toNat_or,e1,e2];exact w64 _ hx
theorem zlf (x p:Nat):(x:Int)/2^p=((x/2^p:Nat):Int):=by simp

set_option maxRecDepth 100000 in
theorem zi9 (w:World) (A:Option Addr) (c n:Nat) (l:List Nat) (hl:l.length<=1000000000000) (hn:n<=64000000000000) (ha:Rd w .u64 A l) (hx:∀x∈l,x<B64):
 Calls Tryz.prog 230 #[.slice A l.length c,.int .i64 (n:Int)] w (RetL .u64 (digs B64 (val B64 l*2^n)) w):=by
 have hul:=zay l;have hsa:=ha.sl;have h1:=zaA;have Ha:=znd ha;have Hx:=znd hx;clear ha hx;obtain⟨whole,hwh⟩:∃k,k=n/64:=⟨_,rfl⟩;obtain⟨part,hpt⟩:∃k,k=n%64:=⟨_,rfl⟩;have e1:(n:Int)/64=(whole:Int):=by omega
 have e2:(n:Int)%64=(part:Int):=by omega
 have e3:(n:Int).tdiv 64=(whole:Int):=by rw[Int.tdiv_eq_ediv_of_nonneg (by omega)];exact e1
 have e4:(n:Int).tmod 64=(part:Int):=by rw[Int.tmod_eq_emod_of_nonneg (by omega)];exact e2
 have hp:part<64:=by omega
 have hw1:whole<=1000000000000:=by omega
 have Hn:=znd (show 64*whole+part=n by omega);have e5:IntKind.u64.wrap (part:Int)=(part:Int):=w64 _ (by simp only[B64];omega);clear hwh hpt;go_enter Tryz.func230,Tryz.ntmps230;go_wp2_with fail;refine(zaK w A c l (by omega) Ha.out).mono ?_;rintro e w' ⟨rfl,rfl⟩;by_cases h0:used l=0
 ·have Hf:Hid (digs B64 (val B64 l*2^n)=[]):=by show _=_;rw[zav h0,Nat.zero_mul];rfl
  have hq:((used l:Int)==0)=true:=by simp[h0]
  clear h0;go_wp2_with fail;go_ret;rw[Hf.out];exact⟨none,0,rfl,Nat.le_refl _,Rd.nil_ _ _,Below.refl _ _,Fr.none_ _ _⟩
 ·have hq:((used l:Int)==0)=false:=by simp[h0]
  clear h0;generalize hu:used l=u at*;have Hu:=znd (Nat.le_of_eq hu);clear hu;have hmk:=fun W=>run_make_row' (P:=Tryz.prog) 51 50 (.int .u64 0) 8 Tryz.underlying51 zcc rfl .i64 .i64 (u+whole+1) (by omega) (by omega) W;simp only[Int.natCast_add,Int.cast_ofNat_Int]at hmk;go_wp2_with fail;go_loopw [25] (fun i wr=>∃(k:Nat) (t:List Nat),k<=u/\i=.int .i64 k/\t.length=u+whole+1/\Hid (UpM whole part k l t)/\Hid (Blk wr w.heap.size 50 (ints .u64 t))/\Hid (Below w.heap.size w wr)) (fun i _=>u-(intOf i).toNat)
  case atStart=>exact⟨0,List.replicate (u+whole+1) 0,Nat.zero_le _,rfl,by simp,UpM.start _ _ _ _,(by rw[<-zbE];exact Blk.new _ _ _:Blk _ _ _ _),Below.of_alloc _ _⟩
  case round=>
   obtain⟨k,t,hk,rfl,ht,hU,hB,hb⟩:=hrel;by_cases hlt:k<u
   ·have hca:=(Ha.out.below hb.out (Nat.le_refl _)).cell k (by omega);have hcell:=hB.out.cell (k+whole);rw[zaC .u64 t (k+whole) (by omega)]at hcell;have hcell2:=hB.out.cell (k+whole+1);rw[zaC .u64 t (k+whole+1) (by omega)]at hcell2;have hfz:=hB.out.frozen (k+whole);have hfz2:=hB.out.frozen (k+whole+1);have hxl:=zak za4 Hx.out k;have j1:(k:Int)<l.length:=by omega
    have j2:(k:Int)+whole<(u:Int)+whole+1:=by omega
    have j3:(k:Int)+whole+1<(u:Int)+whole+1:=by omega
    have j4:((k:Int)+whole).toNat=k+whole:=by omega
    have j5:((k:Int)+whole+1).toNat=k+whole+1:=by omega
    have j6:(0:Int)<=(k:Int)+whole:=by omega
    have j7:(0:Int)<=(k:Int)+whole+1:=by omega
    have j8:IntKind.i64.wrap ((k:Int)+whole)=(k:Int)+whole:=IntWalk.i64_in _ (by omega);have j9:IntKind.i64.wrap ((k:Int)+whole+1)=(k:Int)+whole+1:=IntWalk.i64_in _ (by omega);have j10:(k:Int)+whole<((u+whole+1:Nat):Int):=by omega
    have j11:(k:Int)+whole+1<((u+whole+1:Nat):Int):=by omega
    have s1:=ziG (nth l k) part;have s2:=or64 (nth t (k+whole)) (nth l k*2^part%B64) (zak za4 hU.out.lt _) (Nat.mod_lt _ za4);have s3:IntKind.u64.wrap (64-(part:Int))=((64-part:Nat):Int):=by rw[show(64-(part:Int))=((64-part:Nat):Int) by omega];exact w64 _ (by simp only[B64];omega)
    have s4:((nth l k:Nat):Int)/2^(min (64-part) 64)=((nth l k/2^(64-part):Nat):Int):=by rw[Nat.min_eq_left (by omega)];exact zlf _ _
    have hN:=znd (hU.out.next hp rfl hxl (by omega));have hB1:=hB.out.set_ (k+whole) (.int .u64 ((nth t (k+whole)|||nth l k*2^part%B64:Nat):Int));rw[zbj]at hB1;have hB2:=hB1.set_ (k+whole+1) (.int .u64 ((nth l k/2^(64-part):Nat):Int));rw[zbj]at hB2;have HB2:=znd hB2;have hca2:(wr.setCell ⟨w.heap.size,k+whole,none⟩ (.int .u64 ((nth t (k+whole)|||nth l k*2^part%B64:Nat):Int))).cell? (adr A k)=some (.int .u64 (nth l k:Nat)):=by
     rw[World.cell?_setCell_other _ _ _ _ (fun e=>by have:=Ha.out.lt k (by omega);rw[<-e]at this;exact absurd this (Nat.lt_irrefl _))];exact hca
    have Hb2:=znd (show Below w.heap.size w ((wr.setCell ⟨w.heap.size,k+whole,none⟩ (.int .u64 ((nth t (k+whole)|||nth l k*2^part%B64:Nat):Int))).setCell ⟨w.heap.size,k+whole+1,none⟩ (.int .u64 ((nth l k/2^(64-part):Nat):Int)))from(hb.out.setCell (Nat.le_refl _) _).setCell (Nat.le_refl _) _);clear hU hB hb hB1 hB2 hxl;generalize (nth t (k+whole)|||nth l k*2^part%B64)=o at*;generalize nth l k*2^part%B64=lo at*;generalize nth l k/2^(64-part)=hi at*;generalize nth t (k+whole)=y at*;generalize nth t (k+whole+1)=y2 at*;generalize nth l k=x at*;generalize hS:64-part=sh at*;clear hS;go_wp2_with fail
    go_region_with (fail)
    all_goals
     go_wp2_with fail;go_roundw
     case rel=>exact⟨k+1,(t.set (k+whole) o).set (k+whole+1) hi,by omega,by go_num,by simpa using ht,hN,(show Blk _ _ _ _ from HB2.out),(show Below _ _ _ from Below.drew Hb2.out)⟩
     case measure=>simp[intOf];omega
   ·obtain rfl:k=u:=by omega
    have Hfin:=znd (show trim t=digs B64 (val B64 l*2^n) by
     rw[zb5 (b:=B64) (by decide) hU.out.lt,hU.out.done Hu.out ht,Hn.out])
    have htd:=zbP wr (some ⟨w.heap.size,0,none⟩) (k+whole+1) t (by omega) (by omega) (Rd.of_blk hB.out);have hrt:=(Rd.of_blk hB.out).take (used t);rw[ht]at htd;have Htd:=znd htd;have Hrt:=znd hrt;clear htd hrt hU hB ht hmk;go_wp2_with fail;refine Htd.out.mono ?_;intro e w' hret;obtain⟨A',c',rfl,hc',hr',rfl⟩:=hret.rd Hrt.out;have HR:=znd hr';have HC:=znd hc';clear hr' hc' hret Htd Hrt;go_wp2_with fail;go_ret;rw[<-Hfin.out];exact⟨A',c',rfl,HC.out,HR.out.1,hb.out,HR.out.2 _ (Fr.of_blk (Nat.le_refl _) _)⟩

def RetAt (g:Nat) (l:List Nat) (w:World) (e:Ending) (w':World):Prop:=
 ∃A k c,e=.returned (.slice A k c)/\InBlk w' g A k c l/\w.grownBy w' (some g)

set_option maxRecDepth 100000 in
theorem zd5 (w:World) (g N c n:Nat) (s0:List Nat) (hN:N<=s0.length) (hNc:N<=c) (hl:s0.length<=17592186044000) (hn:n<=2000000000000000) (hblk:Blk w g 50 (ints .u64 s0)) (hx:∀x∈s0,x<B64):
 Calls Tryz.prog 237 #[.slice (some ⟨g,0,none⟩) N c,.int .i64 (n:Int)] w (RetAt g (digs B64 (valT B64 s0 N/2^n)) w):=by
 obtain⟨whole,hwh⟩:∃k,k=n/64:=⟨_,rfl⟩;obtain⟨part,hpt⟩:∃k,k=n%64:=⟨_,rfl⟩;have e1:(n:Int)/64=(whole:Int):=by omega
 have e2:(n:Int)%64=(part:Int):=by omega
 have e3:(n:Int).tdiv 64=(whole:Int):=by rw[Int.tdiv_eq_ediv_of_nonneg (by omega)];exact e1
 have e4:(n:Int).tmod 64=(part:Int):=by rw[Int.tmod_eq_emod_of_nonneg (by omega)];exact e2
 have hp:part<64:=by omega
 have hw1:whole<=1000000000000000:=by omega
 have Hn:=znd (show 64*whole+part=n by omega);have e5:IntKind.u64.wrap (part:Int)=(part:Int):=w64 _ (by simp only[B64];omega);have Hblk:=znd hblk;have Hx:=znd hx;have hg:=hblk.lt;clear hwh hpt hblk hx;go_enter Tryz.func237,Tryz.ntmps237;by_cases h0:N<=whole
 ·have Hz:=znd (show digs B64 (valT B64 s0 N/2^n)=[] by
   have h3:valT B64 s0 N<B64^N:=zc3 za4 Hx.out N;have h4:B64^N<=2^n:=by
    rw[<-Hn.out,Nat.pow_add,Nat.pow_mul];exact Nat.le_trans (Nat.pow_le_pow_right za4 h0) (Nat.le_mul_of_pos_right _ (Nat.two_pow_pos _))
   rw[Nat.div_eq_of_lt (by omega)];rfl)
  go_wp2_with fail;go_ret;exact⟨none,0,0,rfl,⟨by rw[Hz.out];rfl,.inl ⟨Hz.out,rfl⟩⟩,World.grownBy.refl _ _⟩
 ·have h0':¬(N:Int)<=(whole:Int):=by omega
  obtain⟨m,hm⟩:∃m,N=m+whole:=⟨N-whole,by omega⟩;have e6:(N:Int)-(whole:Int)=(m:Int):=by omega
  have Hm:=znd hm;have hmN:m<=N:=by omega
  clear hm;go_wp2_with fail;have hrd:=zcy w (some ⟨g,0,none⟩) c (s0.take N);have hS0:(s0.take N).length=N:=by simp;omega
  rw[hS0]at hrd;refine hrd.mono ?_;clear hrd;rintro e w' ⟨rfl,rfl⟩;have HS0:=znd hS0;clear hS0;go_wp2_with fail;go_loopw [26] (fun i wr=>∃(k:Nat) (S:List Nat),k<=m/\i=.int .i64 k/\S.length=N/\Hid (DownM whole part k (s0.take N) S)/\Hid (Blk wr g 50 (ints .u64 (S++s0.drop N)))/\Hid (wr.cell? ⟨w.heap.size,0,none⟩=some (.slice (some ⟨g,0,none⟩) N c))/\Hid (w.grownBy wr (some g))) (fun i _=>m-(intOf i).toNat)
  case atStart=>
   refine⟨0,s0.take N,Nat.zero_le _,rfl,HS0.out,DownM.start (fun x hxx=>Hx.out x (List.mem_of_mem_take hxx)),?_,?_,zel (World.grownBy.refl w _) _⟩
   ·show Blk _ _ _ _
    rw[List.take_append_drop];exact Hblk.out.alloc _
   ·exact(Blk.new w 51 #[.slice (some ⟨g,0,none⟩) N c]).cell 0
  case round=>
   obtain⟨k,S,hk,rfl,hS,hD,hB,hc,hgr⟩:=hrel;have hrS:Rd wr .u64 (some ⟨g,0,none⟩) S:=by
    have:=(Rd.of_blk hB.out).take N
    rwa [List.take_append_of_le_length (by omega),List.take_of_length_le (by omega)]at this
   by_cases hlt:k<m
   ·have hcell:=hB.out.cell k;rw[zaC .u64 (S++s0.drop N) k (by simp;omega)]at hcell;have hfz:=hB.out.frozen k;have Hr1:=znd (fun(i:Int) (h:0<=i)=>zca wr (some ⟨g,0,none⟩) c w.heap.size S i h (by omega) (by rw[hS];exact hc.out) hrS);have s1:((nth S (k+whole):Nat):Int)/2^(min part 64)=((nth S (k+whole)/2^part:Nat):Int):=by rw[Nat.min_eq_left (by omega)];exact zlf _ _
    have s1':=zlf (nth S (k+whole)) part;have s2:=ziG (nth S (k+whole+1)) (64-part);have s3:IntKind.u64.wrap (64-(part:Int))=((64-part:Nat):Int):=by rw[show(64-(part:Int))=((64-part:Nat):Int) by omega];exact w64 _ (by simp only[B64];omega)
    have hxl:=zak za4 hD.out.lt (k+whole);have s4:=or64 (nth S (k+whole)/2^part) (nth S (k+whole+1)*2^(64-part)%B64) (Nat.lt_of_le_of_lt (Nat.div_le_self _ _) hxl) (Nat.mod_lt _ za4);have hNx:=znd (hD.out.next hp (by omega) rfl rfl);have hB1:=hB.out.set_ k (.int .u64 ((nth S (k+whole)/2^part|||nth S (k+whole+1)*2^(64-part)%B64:Nat):Int));rw[zbj,List.set_append_left _ _ (by omega)]at hB1;have HB1:=znd hB1
    have Hc1:=znd (show(wr.setCell ⟨g,k,none⟩ (.int .u64 ((nth S (k+whole)/2^part|||nth S (k+whole+1)*2^(64-part)%B64:Nat):Int))).cell? ⟨w.heap.size,0,none⟩=some (.slice (some ⟨g,0,none⟩) N c) by
     rw[World.cell?_setCell_other _ _ _ _ (fun e=>by injection e;omega)];exact hc.out)
    have Hg1:=znd (zeJ hgr.out k (.int .u64 ((nth S (k+whole)/2^part|||nth S (k+whole+1)*2^(64-part)%B64:Nat):Int)));have k1:((k:Int)+(whole:Int)).toNat=k+whole:=by omega
    have k2:((k:Int)+(whole:Int)+1).toNat=k+whole+1:=by omega
    have K1:=znd k1;have K2:=znd k2;clear hD hB hc hgr hB1 hxl hrS k1 k2;generalize (nth S (k+whole)/2^part|||nth S (k+whole+1)*2^(64-part)%B64)=o at*;generalize nth S (k+whole+1)*2^(64-part)%B64=lo at*;generalize nth S (k+whole)/2^part=hi at*;go_wp2_with fail;refine(Hr1.out _ (by omega)).mono ?_;rintro e w' ⟨rfl,rfl⟩;rw[K1.out];go_wp2_with fail;refine(Hr1.out _ (by omega)).mono ?_;rintro e w' ⟨rfl,rfl⟩;rw[K2.out];go_wp2_with fail;go_roundw
    case rel=>exact⟨k+1,S.set k o,by omega,by go_num,by simpa using hS,hNx,HB1,Hc1,Hg1⟩
    case measure=>simp[intOf];omega
   ·obtain rfl:k=m:=by omega
    have hSm:(S.take k).length=k:=by simp;omega
    have Hfin:=znd (show trim (S.take k)=digs B64 (valT B64 s0 N/2^n) by
     rw[zb5 (b:=B64) (by decide) (fun x hxx=>hD.out.lt x (List.mem_of_mem_take hxx)),<-zbf _ _ _ (by omega),hD.out.done (fun x hxx=>Hx.out x (List.mem_of_mem_take hxx)) (by rw[HS0.out,Hm.out]),zbf _ _ _ hN,Hn.out])
    have htd:=zbP wr (some ⟨g,0,none⟩) c (S.take k) (by omega) (by omega) (hrS.take k);rw[hSm]at htd;have Htd:=znd htd;have hul:=zay (S.take k)
    have HI:=znd (show∃s:List Nat,Blk wr g 50 (ints .u64 s)/\(∀x∈s,x<B64)/\s.take (trim (S.take k)).length=trim (S.take k)/\(trim (S.take k)).length<=s.length/\s.length<=17592186044000 from
     ⟨S++s0.drop N,hB.out,fun x hxx=>by rcases List.mem_append.1 hxx with h|h;exact hD.out.lt x h;exact Hx.out x (List.mem_of_mem_drop h),by
      rw[za5,List.take_append_of_le_length (by omega)];unfold trim;rw[List.take_take,Nat.min_eq_left (by omega)],by rw[za5];simp;omega,by simp;omega⟩)
    have HC:=znd (show(trim (S.take k)).length<=c by rw[za5];omega);clear hD hB hc hrS htd hSm hul;go_wp2_with fail;refine Htd.out.mono ?_;rintro e w' ⟨A',c',rfl,-,ho,rfl⟩;have HO:=znd ho;clear ho;go_wp2_with fail;go_ret;rw[<-Hfin.out];refine⟨A',_,c',rfl,⟨rfl,?_⟩,hgr.out⟩;rcases HO.out with⟨h1,h2⟩|⟨h1,h2⟩
    ·exact .inl ⟨h2,h1⟩
    ·exact .inr ⟨h1,by rw[h2];exact HC.out,HI.out⟩

set_option maxRecDepth 100000 in
theorem zk8 (w:World) (n:Nat) (hn:n<=2000000000000000):
 Calls Tryz.prog 237 #[.slice none 0 0,.int .i64 (n:Int)] w fun e w'=>e=.returned (.slice none 0 0)/\w=w':=by
 have e1:(0:Int)<=(n:Int)/64:=by omega
 have e3:(n:Int).tdiv 64=(n:Int)/64:=Int.tdiv_eq_ediv_of_nonneg (by omega);have e4:(n:Int).tmod 64=(n:Int)%64:=Int.tmod_eq_emod_of_nonneg (by omega);go_enter Tryz.func237,Tryz.ntmps237;go_wp2_with fail;go_ret;exact⟨rfl,rfl⟩

theorem RetAt.own {g:Nat} {l:List Nat} {w0 w w':World} {e:Ending} (h:RetAt g l w e w') (hb:Below w0.heap.size w0 w) (hg:w0.heap.size<=g):RetO l w0 e w':=by
 obtain⟨A,k,c,rfl,hi,hgr⟩:=h;obtain rfl:=hi.len;exact⟨A,c,rfl,⟨g,hg,hi⟩,Below.of_only hb hgr hg⟩

set_option maxRecDepth 100000 in
theorem zlQ (w:World) (A:Option Addr) (c n:Nat) (l:List Nat) (hl:l.length<=1000000000000) (hn:n<=2000000000000000) (ha:Rd w .u64 A l) (hx:∀x∈l,x<B64):
 Calls Tryz.prog 232 #[.slice A l.length c,.int .i64 (n:Int)] w (RetO (digs B64 (val B64 l/2^n)) w):=by
 have htl:=za5 l;have hul:=zay l;have Ht:=znd (zcg w A c l (by omega) ha);have Hx:=znd (zbp hx);have Hv:=znd (zaz B64 l);have Hl:=znd (show(trim l).length<=1000000000000 by omega);have hmx:∀W,(Builtin.max_ #[3,3] 3 #[.int .i64 (n:Int),.int .i64 0]).run Tryz.prog W=.ok (.int .i64 (n:Int)) W:=fun W=>by
  rw[run_max_int2];congr 2<;>omega
 clear ha hx htl hul;generalize trim l=t at*;go_enter Tryz.func232,Tryz.ntmps232;go_wp2_with fail;refine Ht.out.mono ?_;rintro e w1 ⟨A1,c1,rfl,ho,hb⟩;have Hb:=znd hb;clear hb;rcases ho with⟨rfl,rfl,rfl⟩|⟨g,rfl,rfl,hg,hB⟩
 ·rw[show([]:List Nat).length=0 from rfl];have Hz:=znd (show digs B64 (val B64 l/2^n)=[] by rw[<-Hv.out,show val B64 []=0 from rfl,Nat.zero_div];rfl);go_wp2_with fail;refine(zk8 w1 n hn).mono ?_;rintro e w' ⟨rfl,rfl⟩;go_wp2_with fail;go_ret;rw[Hz.out];exact⟨none,0,rfl,⟨w.heap.size,Nat.le_refl _,⟨rfl,.inl ⟨rfl,rfl⟩⟩⟩,Hb.out⟩
 ·have HD:=znd (zd5 w1 g t.length t.length n t (Nat.le_refl _) (Nat.le_refl _) (by have:=Hl.out;omega) hn hB Hx.out);rw[zaD,Hv.out]at HD;have Hg:=znd hg;clear hB hg;generalize t.length=k at*;go_wp2_with fail;refine HD.out.mono ?_;intro e w2 hr;have HR:=znd (hr.own Hb.out Hg.out);obtain⟨A2,k2,c2,rfl,-,-⟩:=hr;go_wp2_with fail;go_ret;exact HR.out
end Go.Proofs.YtegfiemlnnpidaaGreatDoor
