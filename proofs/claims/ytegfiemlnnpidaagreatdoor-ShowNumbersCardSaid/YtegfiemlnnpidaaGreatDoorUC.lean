/-
 show: the texts of numbers.
-/
import Derived.Test.YtegfiemlnnpidaaGreatDoorUB
namespace Go.Proofs.YtegfiemlnnpidaaGreatDoor
set_option maxHeartbeats 4000000
open Go.RowKit

theorem zxs:Tryz.prog.underlying 165=some (.slice 9):=by kernel_rfl
theorem zxt:(Tryz.prog.info? 9).map (fun i=>(i.zero,i.size,i.bytes))=some (some (.string ⟨#[]⟩),1,16):=by kernel_rfl
theorem zwG (w:World):(sizeOf (Tryz.prog.elem 165)).run Tryz.prog w=.ok 1 w:=by kernel_rfl
theorem zwF (w:World) (L:Nat) (hL:L<=100000):(Instr.makeSlice 165 (.int .i64 (L:Int)) (.int .i64 (L:Int))).run Tryz.prog w=.ok (.slice (some ⟨w.heap.size,0,none⟩) L L) (w.alloc (.cells (madeCells (zwe []).cells (L*1)) 9)):=by
 obtain⟨i0,hi0,hz0,hz1,hz2⟩:=info_parts zxt;have h:=run_makeSlice (P:=Tryz.prog) w 165 9 i0 (zwe []) zxs hi0 hz0 .i64 .i64 (L:Int) (L:Int) (by omega) (by omega) (by rw[hz1,Int.toNat_natCast];omega) (by rw[hz2];omega) (by omega);rw[Int.toNat_natCast,hz1]at h;exact h
section
variable {w W:World} {ls:List Ow} {old new:World->Prop}
theorem GL.ads (h:GL w ls old new W) (L:Nat) (hl:L<=100000):∃W' g,W.alloc (.cells (madeCells (zwe []).cells (L*1)) 9)=W'/\W.heap.size=g/\Hid (GL w (⟨9,1,.slice (some ⟨g,0,none⟩) L L,(List.replicate L []).map fun x=>#[zwe x]⟩::ls) old new W'):=⟨_,_,rfl,rfl,znd (by
 rw[List.map_replicate];exact h.addz (z:=(zwe []).cells) rfl (by decide) L (by simp[maxLen];omega))⟩
theorem GL.sc1 {k i:Nat} {e:TypeId} {n cap:Nat} {A:Option Addr} {l:List (List UInt8)} (h:GL w ls old new W) (hk:ls[k]?=some ⟨e,1,.slice A n cap,l.map fun x=>#[zwe x]⟩) (hi:i<l.length):W.cell? (adr A i)=some (.string (bA l[i])):=by
 have hc:=h.cell (i:=i) (j:=0) hk (by simpa using hi) (by decide);rw[List.getElem_map,Nat.mul_one,Nat.add_zero]at hc;exact hc
theorem GL.sp1 {k i:Nat} {e:TypeId} {g n cap:Nat} {A:Option Addr} (hA:A=some ⟨g,0,none⟩) {l:List (List UInt8)} (h:GL w ls old new W) (hk:ls[k]?=some ⟨e,1,.slice A n cap,l.map fun x=>#[zwe x]⟩) (hi:i<l.length) (x:List UInt8):
 ∃W',W.setCell (adr A i) (.string (bA x))=W'/\Hid (GL w (ls.set k ⟨e,1,.slice A n cap,(l.set i x).map fun x=>#[zwe x]⟩) old new W'):=⟨_,rfl,znd (by
 have h0:=GL.set1 hA h hk (by simpa using hi) (zwe x);rw[show(l.set i x).map (fun x=>#[zwe x])=(l.map fun x=>#[zwe x]).set i #[zwe x]from List.map_set ..];exact h0)⟩
end
def fil (l:List (List UInt8)) (i:Nat):List (List UInt8):=l.take i++List.replicate (l.length-i) []
theorem zwO (l:List (List UInt8)):fil l 0=List.replicate l.length []:=by simp[fil]
theorem zx7 (l:List (List UInt8)):fil l l.length=l:=by simp[fil]
theorem zx2 (l:List (List UInt8)) {i:Nat} (h:i<=l.length):(fil l i).length=l.length:=by simp[fil];omega
theorem zx4 (l:List (List UInt8)) {i:Nat} (h:i<l.length):(fil l i).set i l[i]=fil l (i+1):=by
 unfold fil;rw[List.set_append_right _ _ (by simp;omega),List.take_succ_eq_append_getElem h,List.append_assoc];congr 1;rw[show l.length-i=(l.length-(i+1))+1 by omega,List.replicate_succ];simp[Nat.min_eq_left (Nat.le_of_lt h)]
def I64 (z:Int):Prop:=-9223372036854775808<=z/\z<=9223372036854775807
/-! pieces of a text are no longer than it -/
theorem zyR {sep:List UInt8} {l:List (List UInt8)} {x:List UInt8} (h:x∈l):x.length<=(brS sep l).length:=by
 have key:x.length<=(Lib.join l sep).length:=by
  obtain⟨i,hi,rfl⟩:=List.mem_iff_getElem.1 h;have h1:∀k,k<=l.length->(Lib.join (l.take k) sep).length<=(Lib.join l sep).length:=fun k hk=>by
   obtain⟨d,hd⟩:∃d,l.length=k+d:=⟨l.length-k,by omega⟩
   induction d generalizing k with
   |zero=>rw[List.take_of_length_le (by omega)];exact Nat.le_refl _
   |succ d ih=>
    refine Nat.le_trans ?_ (ih (k+1) (by omega) (by omega));rw[zwU (by omega),List.length_append];omega
  have h2:=h1 (i+1) hi;rw[zwU hi,List.length_append,List.length_append]at h2;omega
 simp only[brS,List.length_cons,List.length_append];omega
set_option maxRecDepth 100000 in
theorem zy5 (w:World) (n:Nat) (hn:n<=1048576) (h1n:1<=n) (r:RV) (q:Rat) (h:RatD r q n w) (hT:Tz w) (ht:Tab w):Calls Tryz.prog 95 #[rA r] w (TxR (zoT q) w):=by
 have HE:=znd (lyR r ((h.old).and ((hT.old).and (ht.old))));have c:=Env.c1 HE.out;clear h hT ht;unfold rA;go_enter Tryz.func95,Tryz.ntmps95;go_wp2_with fail;refine(zwJ _ r q n hn h1n HE.out.o.1 HE.out.o.2.1 HE.out.o.2.2).mono ?_;rintro e w1 ⟨rfl,hb⟩;replace HE:=znd (Env.call HE.out hb);go_wp2_with fail;go_ret;exact⟨rfl,HE.out.bel⟩
set_option maxRecDepth 100000 in
theorem zy2 (w:World) (z:Int) (h0:-9223372036854775808<=z) (h1:z<=9223372036854775807) (ht:Tab w):Calls Tryz.prog 128 #[.int .i64 z] w (TxR (Lib.itoa z) w):=by
 go_enter Tryz.func128,Tryz.ntmps128;go_wp2_with fail;refine(zwl z h0 h1 _ ht).mono ?_;rintro e w1 ⟨rfl,hb⟩;go_wp2_with fail;go_ret;exact⟨rfl,hb⟩
theorem zwB {z:Int} (h0:-9223372036854775808<=z) (h1:z<=9223372036854775807):(Lib.itoa z).length<=100:=by
 have h (v:Nat) (hv:v<=9223372036854775808):(Lib.decDigits v).length<=20:=zsd (k:=20) (Nat.lt_of_le_of_lt hv (by decide)) (by decide);unfold Lib.itoa
 split
 ·have:=h z.natAbs (by omega);simp only[List.length_cons];omega
 ·have:=h z.toNat (by omega);omega
set_option maxRecDepth 100000 in
theorem zy9 (w:World) (n:Nat) (hn:n<=1048576) (h1n:1<=n) (t:TeV) (h0:-9223372036854775808<=t.pl) (h1:t.pl<=9223372036854775807) (h:RatD t.r t.q n w) (hL:(zoT t.q).length<=35184372088832) (hT:Tz w) (ht:Tab w):Calls Tryz.prog 126 #[tA t] w (TxR (teS (plq t)) w):=by
 have hl1:(Lib.itoa t.pl).length<=100:=zwB h0 h1;have hl2:=hL;clear hL;obtain⟨s1,Es1,hs1,cs1⟩:=catR (Lib.itoa t.pl) [58,32] 2 rfl (by omega);obtain⟨s2,Es2,hs2,cs2⟩:=catM s1 (zoT t.q) (by omega);have HF:=znd (show s2=teS (plq t)from by rw[Es2.out,Es1.out];simp[teS,plq]);have HE:=znd (lyT t (((RatD.old h)).and ((hT.old).and (ht.old))));have c:=Env.c1 HE.out;clear h hT ht;unfold tA;go_enter Tryz.func126,Tryz.ntmps126;go_wp2_with fail
 go_region_held3 (fun W=>CB (w.heap.size) #[.int .i64 t.pl,.bool t.r.num.neg,.slice t.r.num.A t.r.num.k t.r.num.c,.bool t.r.den.neg,.slice t.r.den.A t.r.den.k t.r.den.c] W) (first|with_reducible exact c|((repeat' apply And.intro)<;>go_keep)|exact c)
  (first
   |(go_at_call 46;go_must (refine(zwl t.pl h0 h1 _ (HE.out.wd.o.2.2)).mono ?_;rintro e w1 ⟨rfl,hb⟩;replace HE:=znd (Env.cx HE.out hb);replace c:=Env.c1 HE.out;clear hb))
   |(go_at_call 83;go_must (refine(zwJ _ t.r t.q n hn h1n (HE.out.wd.o.1) (HE.out.wd.o.2.1) (HE.out.wd.o.2.2)).mono ?_;rintro e w2 ⟨rfl,hb⟩;replace HE:=znd (Env.cx HE.out hb);replace c:=Env.c1 HE.out;clear hb)))
 go_wp2_with fail;go_ret;exact⟨by rw[<-HF.out];rfl,by exact HE.out.wd.bel⟩
set_option maxRecDepth 100000 in
theorem zwP (w:World) (n:Nat) (hn:n<=1048576) (h1n:1<=n) (A:Option Addr) (c:Nat) (l:List (RV×Rat)) (h:LsR 4 rtcells (roD n) A l w) (hl:l.length<=100000) (hx:∀v∈l,True) (hL:(nuS (l.map Prod.snd)).length<=35184372088832) (hT:Tz w) (ht:Tab w) (nl:Nat) (hnl:nl=l.length):Calls Tryz.prog 94 #[.slice A nl c,.string (bA [32]),.func (.func 95) #[] #[]] w (TxR (nuS (l.map Prod.snd)) w):=by
 have sl1:=h.sl;rw[<-hnl]at sl1;have hsz1:=zal;have hsz2:=zwG;have hadd:=zaa;have hnb:nl<=100000:=by omega
 have Hn:=znd hnl;have Hx:=znd hx;obtain⟨ts,hts⟩:∃ts:List (List UInt8),ts=l.map (fun p=>zoT p.2):=⟨_,rfl⟩;have htl:nl=ts.length:=by rw[hts,List.length_map];exact hnl
 have HT:=znd hts;have HF:=znd (show brS [32] ts=nuS (l.map Prod.snd)from by rw[hts];simp[nuS,List.map_map,Function.comp_def]);rw[<-HF.out]at hL⊢;have hjl:(Lib.join ts [32]).length<=35184372088832:=by simp only[brS,List.length_cons,List.length_append]at hL;omega
 obtain⟨j,hj⟩:∃j,j=Lib.join ts [32]:=⟨_,rfl⟩;have hjl2:=hjl;rw[<-hj]at hjl2;obtain⟨s1,Es1,hs1,cs1⟩:=catL [91] j 1 rfl (by omega);obtain⟨s2,Es2,hs2,cs2⟩:=catR s1 [93] 1 rfl (by omega);have Htl:=znd htl;have Hj:=znd hj;clear hts htl hj hL;have HE:=znd (Env.start (((h.old zbQ)).and ((hT.old).and (ht.old))));clear h hT ht hx hnl hl;go_enter Tryz.func94,Tryz.ntmps94;go_wp2_with fail;have HG:=znd (GL.start HE.out);clear HE;rw[zwF _ nl hnb];obtain⟨W4,gx,hW4,hgx,HG2⟩:=HG.out.ads nl hnb;rw[hW4,hgx];clear hW4 hgx HG;obtain⟨Ao,hAo⟩:∃A:Option Addr,A=some ⟨gx,0,none⟩:=⟨_,rfl⟩;rw[<-hAo]at HG2⊢;have HAo:=znd hAo;have slo:Sl Ao nl:=by rw[hAo];exact Sl.some_ _ _ _
 clear hAo;have HG:=znd (show GL w (⟨9,1,.slice Ao nl nl,(fil ts 0).map fun x=>#[zwe x]⟩::[]) (fun V=>LsR 4 rtcells (roD n) A l V/\Tz V/\Tab V) (fun _=>True) _ from by rw[zwO,<-Htl.out];exact HG2.out.imp (fun _ h=>h.2) (fun _ _=>trivial));clear HG2;go_upto_region 3 with fail;go_loopw [15] (fun iv wr=>∃i:Nat,iv=.int .i64 (i:Int)/\i<=nl/\Hid (GL w (⟨9,1,.slice Ao nl nl,(fil ts i).map fun x=>#[zwe x]⟩::[]) (fun V=>LsR 4 rtcells (roD n) A l V/\Tz V/\Tab V) (fun _=>True) wr)) (fun iv _=>nl-(intOf iv).toNat)
 case atStart=>exact⟨0,rfl,Nat.zero_le _,HG⟩
 case round=>
  clear HG;obtain⟨i,rfl,hi,HG⟩:=hrel;by_cases hlt:i<nl
  ·have hlx:i<l.length:=by rw[<-Hn.out];exact hlt
   have hlo:i<ts.length:=by rw[<-Htl.out];exact hlt
   have hlf:i<(fil ts i).length:=by rw[zx2 _ (Nat.le_of_lt hlo)];exact hlo
   have c0:=HG.out.o.1.rc i hlx;have HS:=znd (zx4 ts hlo);have HQ:=znd (show ts[i]=(fun p=>zoT p.2) l[i]from by simp only[HT.out,List.getElem_map]);obtain⟨v,hv⟩:∃v,v=l[i]:=⟨_,rfl⟩;rw[<-hv]at c0 HQ;have Hm:=znd (show v∈l by rw[hv];exact List.getElem_mem hlx);clear hv;go_upto_region 5 with fail;obtain⟨W5,gp,hW5,hgp,HG2⟩:=HG.out.al 55 (cR v.1);rw[hW5,hgp];clear hW5 hgp c0;have HG:=znd (HG2.out.imp (fun _ h=>h) fun _ h=>h.1);clear HG2;have c5:=Blk.cb HG.out.n;go_wp2_with fail;refine(zy5 _ n hn h1n v.1 v.2 (HG.out.o.1.ok v Hm.out) HG.out.o.2.1 HG.out.o.2.2).mono ?_;rintro e wq ⟨rfl,hb9⟩;rw[<-HQ.out];replace HG:=znd ((HG.out.cl hb9).imp (fun _ h=>h) (fun _ _=>trivial));clear hb9 c5;have fr:=HG.out.free HAo.out (k:=0) rfl;have sc:=HG.out.sc1 (k:=0) rfl hlf;go_upto_region 6 with fail;obtain⟨W9,hW9,HG5⟩:=HG.out.sp1 HAo.out (k:=0) rfl hlf ts[i];rw[hW9];clear hW9 fr sc HG;replace HG5:=znd (show GL w (⟨9,1,.slice Ao nl nl,(fil ts (i+1)).map fun x=>#[zwe x]⟩::[]) (fun V=>LsR 4 rtcells (roD n) A l V/\Tz V/\Tab V) (fun _=>True) _ from HS.out▸HG5.out);go_wp2_with fail;go_roundw
   case rel=>exact⟨i+1,by go_num,by omega,HG5⟩
   case measure=>(simp[intOf]<;>omega)
  ·obtain rfl:i=nl:=by omega
   have HG2:=znd (show GL w (⟨9,1,.slice Ao i i,ts.map fun x=>#[zwe x]⟩::[]) (fun V=>LsR 4 rtcells (roD n) A l V/\Tz V/\Tab V) (fun _=>True) wr from by have h9:=HG.out;rw[Htl.out,zx7,<-Htl.out]at h9;exact h9);clear HG hlt;have Hbl:=znd HG2.out.bel;go_wp2_with fail;refine(zk6 HAo.out Htl.out HG2.out (k:=0) rfl [32] (by omega) (by omega)).mono ?_;rintro e wq ⟨rfl,hb9⟩;rw[<-Hj.out];have Hb:=znd (Below.after Hbl.out hb9);clear hb9;go_wp2_with fail;go_ret;exact⟨by rw[show brS [32] ts=s2 from by rw[Es2.out,Es1.out,Hj.out];simp[brS]];rfl,Hb.out⟩
set_option maxRecDepth 100000 in
theorem zx6 (w:World) (n:Nat) (_hn:n<=1048576) (_h1n:1<=n) (A:Option Addr) (c:Nat) (l:List (Int)) (h:LsR 1 zoA okI A l w) (hl:l.length<=100000) (hx:∀v∈l,-9223372036854775808<=v/\v<=9223372036854775807) (hL:(inS l).length<=35184372088832) (hT:Tz w) (ht:Tab w) (nl:Nat) (hnl:nl=l.length):Calls Tryz.prog 127 #[.slice A nl c,.string (bA [32]),.func (.func 128) #[] #[]] w (TxR (inS l) w):=by
 have sl1:=h.sl;rw[<-hnl]at sl1;have hsz1:=zcX;have hsz2:=zwG;have hadd:=zaa;have hnb:nl<=100000:=by omega
 have Hn:=znd hnl;have Hx:=znd hx;obtain⟨ts,hts⟩:∃ts:List (List UInt8),ts=l.map Lib.itoa:=⟨_,rfl⟩;have htl:nl=ts.length:=by rw[hts,List.length_map];exact hnl
 have HT:=znd hts;have HF:=znd (show brS [32] ts=inS l from by rw[hts];rfl);rw[<-HF.out]at hL⊢;have hjl:(Lib.join ts [32]).length<=35184372088832:=by simp only[brS,List.length_cons,List.length_append]at hL;omega
 obtain⟨j,hj⟩:∃j,j=Lib.join ts [32]:=⟨_,rfl⟩;have hjl2:=hjl;rw[<-hj]at hjl2;obtain⟨s1,Es1,hs1,cs1⟩:=catL [91] j 1 rfl (by omega);obtain⟨s2,Es2,hs2,cs2⟩:=catR s1 [93] 1 rfl (by omega);have Htl:=znd htl;have Hj:=znd hj;clear hts htl hj hL;have HE:=znd (Env.start (((h.old zrk)).and ((hT.old).and (ht.old))));clear h hT ht hx hnl hl;go_enter Tryz.func127,Tryz.ntmps127;go_wp2_with fail;have HG:=znd (GL.start HE.out);clear HE;rw[zwF _ nl hnb];obtain⟨W4,gx,hW4,hgx,HG2⟩:=HG.out.ads nl hnb;rw[hW4,hgx];clear hW4 hgx HG;obtain⟨Ao,hAo⟩:∃A:Option Addr,A=some ⟨gx,0,none⟩:=⟨_,rfl⟩;rw[<-hAo]at HG2⊢;have HAo:=znd hAo;have slo:Sl Ao nl:=by rw[hAo];exact Sl.some_ _ _ _
 clear hAo;have HG:=znd (show GL w (⟨9,1,.slice Ao nl nl,(fil ts 0).map fun x=>#[zwe x]⟩::[]) (fun V=>LsR 1 zoA okI A l V/\Tz V/\Tab V) (fun _=>True) _ from by rw[zwO,<-Htl.out];exact HG2.out.imp (fun _ h=>h.2) (fun _ _=>trivial));clear HG2;go_upto_region 3 with fail;go_loopw [15] (fun iv wr=>∃i:Nat,iv=.int .i64 (i:Int)/\i<=nl/\Hid (GL w (⟨9,1,.slice Ao nl nl,(fil ts i).map fun x=>#[zwe x]⟩::[]) (fun V=>LsR 1 zoA okI A l V/\Tz V/\Tab V) (fun _=>True) wr)) (fun iv _=>nl-(intOf iv).toNat)
 case atStart=>exact⟨0,rfl,Nat.zero_le _,HG⟩
 case round=>
  clear HG;obtain⟨i,rfl,hi,HG⟩:=hrel;by_cases hlt:i<nl
  ·have hlx:i<l.length:=by rw[<-Hn.out];exact hlt
   have hlo:i<ts.length:=by rw[<-Htl.out];exact hlt
   have hlf:i<(fil ts i).length:=by rw[zx2 _ (Nat.le_of_lt hlo)];exact hlo
   have c0:=HG.out.o.1.ic i hlx;have HS:=znd (zx4 ts hlo);have HQ:=znd (show ts[i]=Lib.itoa l[i]from by simp only[HT.out,List.getElem_map]);obtain⟨v,hv⟩:∃v,v=l[i]:=⟨_,rfl⟩;rw[<-hv]at c0 HQ;have Hm:=znd (show v∈l by rw[hv];exact List.getElem_mem hlx);clear hv;go_wp2_with fail;refine(zy2 _ v (Hx.out v Hm.out).1 (Hx.out v Hm.out).2 HG.out.o.2.2).mono ?_;rintro e wq ⟨rfl,hb9⟩;rw[<-HQ.out];replace HG:=znd (HG.out.cl hb9);clear hb9 c0;have fr:=HG.out.free HAo.out (k:=0) rfl;have sc:=HG.out.sc1 (k:=0) rfl hlf;go_upto_region 6 with fail;obtain⟨W9,hW9,HG5⟩:=HG.out.sp1 HAo.out (k:=0) rfl hlf ts[i];rw[hW9];clear hW9 fr sc HG;replace HG5:=znd (show GL w (⟨9,1,.slice Ao nl nl,(fil ts (i+1)).map fun x=>#[zwe x]⟩::[]) (fun V=>LsR 1 zoA okI A l V/\Tz V/\Tab V) (fun _=>True) _ from HS.out▸HG5.out);go_wp2_with fail;go_roundw
   case rel=>exact⟨i+1,by go_num,by omega,HG5⟩
   case measure=>(simp[intOf]<;>omega)
  ·obtain rfl:i=nl:=by omega
   have HG2:=znd (show GL w (⟨9,1,.slice Ao i i,ts.map fun x=>#[zwe x]⟩::[]) (fun V=>LsR 1 zoA okI A l V/\Tz V/\Tab V) (fun _=>True) wr from by have h9:=HG.out;rw[Htl.out,zx7,<-Htl.out]at h9;exact h9);clear HG hlt;have Hbl:=znd HG2.out.bel;go_wp2_with fail;refine(zk6 HAo.out Htl.out HG2.out (k:=0) rfl [32] (by omega) (by omega)).mono ?_;rintro e wq ⟨rfl,hb9⟩;rw[<-Hj.out];have Hb:=znd (Below.after Hbl.out hb9);clear hb9;go_wp2_with fail;go_ret;exact⟨by rw[show brS [32] ts=s2 from by rw[Es2.out,Es1.out,Hj.out];simp[brS]];rfl,Hb.out⟩
set_option maxRecDepth 100000 in
theorem zxn (w:World) (n:Nat) (hn:n<=1048576) (h1n:1<=n) (A:Option Addr) (c:Nat) (l:List (TeV)) (h:LsR 5 zw7 (teD n) A l w) (hl:l.length<=100000) (hx:∀v∈l,(-9223372036854775808<=v.pl/\v.pl<=9223372036854775807)/\(zoT v.q).length<=35184372088832) (hL:(tsS (l.map plq)).length<=35184372088832) (hT:Tz w) (ht:Tab w) (nl:Nat) (hnl:nl=l.length):Calls Tryz.prog 125 #[.slice A nl c,.string (bA [44,32]),.func (.func 126) #[] #[]] w (TxR (tsS (l.map plq)) w):=by
 have sl1:=h.sl;rw[<-hnl]at sl1;have hsz1:=zbV;have hsz2:=zwG;have hadd:=zaa;have hnb:nl<=100000:=by omega
 have Hn:=znd hnl;have Hx:=znd hx;obtain⟨ts,hts⟩:∃ts:List (List UInt8),ts=l.map (fun t=>teS (plq t)):=⟨_,rfl⟩;have htl:nl=ts.length:=by rw[hts,List.length_map];exact hnl
 have HT:=znd hts;have HF:=znd (show brS [44,32] ts=tsS (l.map plq)from by rw[hts];simp[tsS,List.map_map,Function.comp_def]);rw[<-HF.out]at hL⊢;have hjl:(Lib.join ts [44,32]).length<=35184372088832:=by simp only[brS,List.length_cons,List.length_append]at hL;omega
 obtain⟨j,hj⟩:∃j,j=Lib.join ts [44,32]:=⟨_,rfl⟩;have hjl2:=hjl;rw[<-hj]at hjl2;obtain⟨s1,Es1,hs1,cs1⟩:=catL [91] j 1 rfl (by omega);obtain⟨s2,Es2,hs2,cs2⟩:=catR s1 [93] 1 rfl (by omega);have Htl:=znd htl;have Hj:=znd hj;clear hts htl hj hL;have HE:=znd (Env.start (((h.old zah)).and ((hT.old).and (ht.old))));clear h hT ht hx hnl hl;go_enter Tryz.func125,Tryz.ntmps125;go_wp2_with fail;have HG:=znd (GL.start HE.out);clear HE;rw[zwF _ nl hnb];obtain⟨W4,gx,hW4,hgx,HG2⟩:=HG.out.ads nl hnb;rw[hW4,hgx];clear hW4 hgx HG;obtain⟨Ao,hAo⟩:∃A:Option Addr,A=some ⟨gx,0,none⟩:=⟨_,rfl⟩;rw[<-hAo]at HG2⊢;have HAo:=znd hAo;have slo:Sl Ao nl:=by rw[hAo];exact Sl.some_ _ _ _
 clear hAo;have HG:=znd (show GL w (⟨9,1,.slice Ao nl nl,(fil ts 0).map fun x=>#[zwe x]⟩::[]) (fun V=>LsR 5 zw7 (teD n) A l V/\Tz V/\Tab V) (fun _=>True) _ from by rw[zwO,<-Htl.out];exact HG2.out.imp (fun _ h=>h.2) (fun _ _=>trivial));clear HG2;go_upto_region 3 with fail;go_loopw [15] (fun iv wr=>∃i:Nat,iv=.int .i64 (i:Int)/\i<=nl/\Hid (GL w (⟨9,1,.slice Ao nl nl,(fil ts i).map fun x=>#[zwe x]⟩::[]) (fun V=>LsR 5 zw7 (teD n) A l V/\Tz V/\Tab V) (fun _=>True) wr)) (fun iv _=>nl-(intOf iv).toNat)
 case atStart=>exact⟨0,rfl,Nat.zero_le _,HG⟩
 case round=>
  clear HG;obtain⟨i,rfl,hi,HG⟩:=hrel;by_cases hlt:i<nl
  ·have hlx:i<l.length:=by rw[<-Hn.out];exact hlt
   have hlo:i<ts.length:=by rw[<-Htl.out];exact hlt
   have hlf:i<(fil ts i).length:=by rw[zx2 _ (Nat.le_of_lt hlo)];exact hlo
   have c0:=HG.out.o.1.tc i hlx;have HS:=znd (zx4 ts hlo);have HQ:=znd (show ts[i]=(fun t=>teS (plq t)) l[i]from by simp only[HT.out,List.getElem_map]);obtain⟨v,hv⟩:∃v,v=l[i]:=⟨_,rfl⟩;rw[<-hv]at c0 HQ;have Hm:=znd (show v∈l by rw[hv];exact List.getElem_mem hlx);clear hv;go_upto_region 5 with fail;obtain⟨W5,gp,hW5,hgp,HG2⟩:=HG.out.al 80 #[.int .i64 v.pl,.bool v.r.num.neg,.slice v.r.num.A v.r.num.k v.r.num.c,.bool v.r.den.neg,.slice v.r.den.A v.r.den.k v.r.den.c];rw[hW5,hgp];clear hW5 hgp c0;have HG:=znd (HG2.out.imp (fun _ h=>h) fun _ h=>h.1);clear HG2;have c5:=Blk.cb HG.out.n;go_wp2_with fail;refine(zy9 _ n hn h1n v (Hx.out v Hm.out).1.1 (Hx.out v Hm.out).1.2 (HG.out.o.1.ok v Hm.out) (Hx.out v Hm.out).2 HG.out.o.2.1 HG.out.o.2.2).mono ?_;rintro e wq ⟨rfl,hb9⟩;rw[<-HQ.out];replace HG:=znd ((HG.out.cl hb9).imp (fun _ h=>h) (fun _ _=>trivial));clear hb9 c5;have fr:=HG.out.free HAo.out (k:=0) rfl;have sc:=HG.out.sc1 (k:=0) rfl hlf;go_upto_region 6 with fail;obtain⟨W9,hW9,HG5⟩:=HG.out.sp1 HAo.out (k:=0) rfl hlf ts[i];rw[hW9];clear hW9 fr sc HG;replace HG5:=znd (show GL w (⟨9,1,.slice Ao nl nl,(fil ts (i+1)).map fun x=>#[zwe x]⟩::[]) (fun V=>LsR 5 zw7 (teD n) A l V/\Tz V/\Tab V) (fun _=>True) _ from HS.out▸HG5.out);go_wp2_with fail;go_roundw
   case rel=>exact⟨i+1,by go_num,by omega,HG5⟩
   case measure=>(simp[intOf]<;>omega)
  ·obtain rfl:i=nl:=by omega
   have HG2:=znd (show GL w (⟨9,1,.slice Ao i i,ts.map fun x=>#[zwe x]⟩::[]) (fun V=>LsR 5 zw7 (teD n) A l V/\Tz V/\Tab V) (fun _=>True) wr from by have h9:=HG.out;rw[Htl.out,zx7,<-Htl.out]at h9;exact h9);clear HG hlt;have Hbl:=znd HG2.out.bel;go_wp2_with fail;refine(zk6 HAo.out Htl.out HG2.out (k:=0) rfl [44,32] (by omega) (by omega)).mono ?_;rintro e wq ⟨rfl,hb9⟩;rw[<-Hj.out];have Hb:=znd (Below.after Hbl.out hb9);clear hb9;go_wp2_with fail;go_ret;exact⟨by rw[show brS [44,32] ts=s2 from by rw[Es2.out,Es1.out,Hj.out];simp[brS]];rfl,Hb.out⟩
set_option maxRecDepth 100000 in
theorem zw9 (w:World) (n:Nat) (hn:n<=1048576) (h1n:1<=n) (A:Option Addr) (c:Nat) (l:List (RV×Rat)) (h:LsR 4 rtcells (roD n) A l w) (hl:l.length<=100000) (hx:∀v∈l,True) (hL:(nuS (l.map Prod.snd)).length<=35184372088832) (hT:Tz w) (ht:Tab w) (nl:Nat) (hnl:nl=l.length):Calls Tryz.prog 55 #[.slice A nl c] w (TxR (nuS (l.map Prod.snd)) w):=by
 have Hn:=znd hnl;clear hnl;go_enter Tryz.func55,Tryz.ntmps55;go_wp2_with fail;refine(zwP _ n hn h1n A c l h hl hx hL hT ht nl Hn.out).mono ?_;rintro e w1 ⟨rfl,hb⟩;go_wp2_with fail;go_ret;exact⟨rfl,hb⟩
set_option maxRecDepth 100000 in
theorem zww (w:World) (n:Nat) (hn:n<=1048576) (h1n:1<=n) (A:Option Addr) (c:Nat) (l:List (Int)) (h:LsR 1 zoA okI A l w) (hl:l.length<=100000) (hx:∀v∈l,-9223372036854775808<=v/\v<=9223372036854775807) (hL:(inS l).length<=35184372088832) (hT:Tz w) (ht:Tab w) (nl:Nat) (hnl:nl=l.length):Calls Tryz.prog 85 #[.slice A nl c] w (TxR (inS l) w):=by
 have Hn:=znd hnl;clear hnl;go_enter Tryz.func85,Tryz.ntmps85;go_wp2_with fail;refine(zx6 _ n hn h1n A c l h hl hx hL hT ht nl Hn.out).mono ?_;rintro e w1 ⟨rfl,hb⟩;go_wp2_with fail;go_ret;exact⟨rfl,hb⟩
set_option maxRecDepth 100000 in
theorem zxK (w:World) (n:Nat) (hn:n<=1048576) (h1n:1<=n) (A:Option Addr) (c:Nat) (l:List (TeV)) (h:LsR 5 zw7 (teD n) A l w) (hl:l.length<=100000) (hx:∀v∈l,I64 v.pl) (hL:(tsS (l.map plq)).length<=35184372088832) (hT:Tz w) (ht:Tab w) (nl:Nat) (hnl:nl=l.length):Calls Tryz.prog 84 #[.slice A nl c] w (TxR (tsS (l.map plq)) w):=by
 have Hn:=znd hnl;clear hnl;go_enter Tryz.func84,Tryz.ntmps84;go_wp2_with fail;refine(zxn _ n hn h1n A c l h hl (fun v hv=>⟨hx v hv,by have h9:=zyR (sep:=[44,32]) (show teS (plq v)∈(l.map plq).map teS from List.mem_map_of_mem (List.mem_map_of_mem hv));have h8:(tsS (l.map plq)).length<=_:=hL;unfold tsS at h8;have h7:(zoT v.q).length<=(teS (plq v)).length:=(by unfold teS plq;simp only[List.length_append,List.length_cons];omega);omega⟩) hL hT ht nl Hn.out).mono ?_;rintro e w1 ⟨rfl,hb⟩;go_wp2_with fail;go_ret;exact⟨rfl,hb⟩
end Go.Proofs.YtegfiemlnnpidaaGreatDoor
