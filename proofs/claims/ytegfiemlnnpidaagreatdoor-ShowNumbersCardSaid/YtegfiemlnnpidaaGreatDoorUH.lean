/-
 A builder beside what is read; show.layer. show.net, show.query, show.within. show.exact, show.Net, show.Query. shapes.Query: may a query be? show.Show.
-/
import Derived.Test.YtegfiemlnnpidaaGreatDoorUC
import Derived.Test.YtegfiemlnnpidaaGreatDoorNH
namespace Go.Proofs.YtegfiemlnnpidaaGreatDoor
set_option maxHeartbeats 4000000
open Go.RowKit

structure BS (B:Nat) (W1:World) (φ:World->Prop) (l:List UInt8) (W:World):Prop where
 s:W1.heap.size=B
 o:Rests W1 (·<B) φ
 b:IsB B B l W
 k:Below B W1 W
section
variable {B:Nat} {w W1 W W':World} {φ:World->Prop} {l:List UInt8}
theorem BS.now (h:BS B W1 φ l W):φ W:=h.o.lift W fun b hb _=>h.k.block b hb
theorem BS.hs (h:BS B W1 φ l W):B<=W.heap.size:=by have:=h.k.size;have:=h.s;omega
theorem BS.call (h:BS B W1 φ l W) (hb:Below W.heap.size W W'):BS B W1 φ l W':=⟨h.s,h.o,h.b.below hb,h.k.trans (hb.mono h.hs)⟩
theorem BS.drew (h:BS B W1 φ l W):BS B W1 φ l W.drew:=h.call (Below.refl _ _).drew
theorem BS.al (h:BS B W1 φ l W) (t:TypeId) (cs:Array Value):∃W' g,W.alloc (.cells cs t)=W'/\W.heap.size=g/\Blk W' g t cs/\Hid (BS B W1 φ l W'):=⟨_,_,rfl,rfl,Blk.new W t cs,znd (h.call (Below.of_alloc W _))⟩
theorem zwc (h:BS B W1 φ l W) (k:List UInt8) (hlen:l.length+k.length<=140737488355328):
 Calls Tryz.prog 45 #[.pointer (some ⟨B,0,none⟩),.string (bA k)] W fun e w'=>(∃v,e=.returned v)/\BS B W1 φ (l++k) w':=
 (zxW B B l k W h.b hlen h.hs).mono fun _ _ r=>⟨r.1,h.s,h.o,r.2.1,h.k.trans r.2.2⟩
theorem BS.lay (h:Rests w (·<w.heap.size) φ) (t:TypeId) (cs:Array Value):∃W',((w.alloc (.cells cs t)).alloc (.cells #[.pointer none,.slice none 0 0] 89))=W'/\Hid (BS (w.heap.size+1) (w.alloc (.cells cs t)) (fun V=>Blk V w.heap.size t cs/\φ V) [] W'):=
 have e:(w.alloc (.cells cs t)).heap.size=w.heap.size+1:=by simp
 have hb:=Blk.new w t cs
 ⟨_,rfl,znd ⟨e,Rests.and ⟨hb,fun w' hw=>(hw w.heap.size (by omega) (by omega)).trans hb⟩ ((h.alloc _).mono fun b hb=>by have:b<w.heap.size:=hb;omega),by rw[<-e];exact IsB.new_ _,by rw[<-e];exact Below.of_alloc _ _⟩⟩
theorem BS.bel {t:TypeId} {cs:Array Value} (h:BS (w.heap.size+1) (w.alloc (.cells cs t)) φ l W) (hb:Below (w.heap.size+1) W W'):Below w.heap.size w W':=(Below.of_alloc w _).trans ((h.k.trans hb).mono (Nat.le_succ _))
end
structure ShL (l:LaV):Prop where
 s:LaS l
 k:l.kind=1\/l.kind=2\/l.kind=3\/l.kind=4
 b:l.kind=1->l.rows.length=l.bias.length
 pl:∀v∈l.rows,∀t∈v.ts,I64 t.pl
 d:∀z∈[l.ch,l.high,l.wide,l.out,l.kh,l.kw,l.st,l.pad],I64 z
 g:∀g∈l.grs,∀z∈g.l,I64 z
/-! pieces of a text are no longer than it -/
theorem zwA {L:List (List UInt8)} {i:Nat} (h:i<L.length):(L.take (i+1)).flatten=(L.take i).flatten++L[i]:=by
 rw[List.take_succ_eq_append_getElem h,List.flatten_append];simp
theorem zxg (L:List (List UInt8)) (i:Nat):(L.take i).flatten.length<=L.flatten.length:=by
 conv=>rhs;rw[<-List.take_append_drop i L,List.flatten_append,List.length_append]
 omega
theorem zxG {L:List (List UInt8)} {i:Nat} (h:i<L.length):L[i].length<=L.flatten.length:=by
 have h1:=zxg L (i+1);rw[zwA h,List.length_append]at h1;omega
set_option maxRecDepth 100000 in
theorem zxj (w:World) (n:Nat) (_hn:n<=1048576) (_h1n:1<=n) (l:LaV) (h:LaD n l w) (hs:ShL l) (_hL:(layS l.q).length<=35184372088832) (hT:Tz w) (ht:Tab w) (nr nb nk ng:Nat) (HL:Hid (Lens l nr nb nk ng)) (hk:l.kind=3):Calls Tryz.prog 47 #[lA l nr nb nk ng] w (TxR (layS l.q) w):=by
 have HL9:=znd HL.out;have hlr:=HL.out.r;have hlb:=HL.out.b;have hlk:=HL.out.k;have hlg:=HL.out.g;have Hs:=znd hs;have sz13:=zpP;have hsz4:=zal;have hsz1:=zaw;have hszg:=zp2;have hszi:=zcX;have hadd:=zaa;have slr:=h.rows.sl;have slb:=h.bias.sl;have slg:=h.grs.sl;rw[<-hlr]at slr;rw[<-hlb]at slb;rw[<-hlg]at slg;have hnr:nr<=100000:=by have:=hs.s.rows;omega
 have hnb:nb<=100000:=by have:=hs.s.bias;omega
 have hnk:nk<=100000:=by have:=hs.s.kern;omega
 have hng:ng<=100000:=by have:=hs.s.grs;omega
 have HF:=znd (show layS l.q=relS from by rw[show layS l.q=_ from rfl];unfold layS;rw[if_neg (show¬l.q.kind=1 from by rw[show l.q.kind=l.kind from rfl,hk];decide),if_neg (show¬l.q.kind=2 from by rw[show l.q.kind=l.kind from rfl,hk];decide),if_pos (show l.q.kind=3 from hk)]);rw[HF.out];have hk1:(l.kind==1)=false:=by rw[hk];rfl
 have hk2:(l.kind==2)=false:=by rw[hk];rfl
 have hk3:(l.kind==3)=true:=by rw[hk];rfl
 clear hk;obtain⟨W2,hW2,HS⟩:=BS.lay ((LaD.old l w h).and (hT.old.and ht.old)) 49 #[.int .u8 l.kind,.slice l.Ar nr l.cr,.slice l.Ab nb l.cb,.int .i64 l.ch,.int .i64 l.high,.int .i64 l.wide,.int .i64 l.out,.int .i64 l.kh,.int .i64 l.kw,.int .i64 l.st,.int .i64 l.pad,.slice l.Ak nk l.ck,.slice l.Ag ng l.cg];have Hr:=znd hlr;have Hb:=znd hlb;have Hk:=znd hlk;have Hg:=znd hlg;clear h hs hT ht HL hlr hlb hlk hlg _hL;unfold lA;go_enter Tryz.func47,Tryz.ntmps47;go_upto_region 2 with fail;clear hW2;have c:=Blk.cb HS.out.now.1;go_wp2_with fail;refine(zwc (by first|exact HS.out|exact HS.out.drew) [32,32,114,101,108,117,10] (by decide)).mono ?_;rintro e w9 ⟨⟨v,rfl⟩,HS9⟩;replace HS:=znd HS9;clear HS9;replace c:=Blk.cb HS.out.now.1;go_wp2_with fail;refine(zwu _ _ _ _ (by first|exact HS.out.b|exact HS.out.drew.b) (by first|exact HS.out.hs|exact HS.out.drew.hs)).mono ?_;rintro e w9 ⟨rfl,hb9⟩;have HB:=znd (BS.bel (by first|exact HS.out|exact HS.out.drew) hb9);clear hb9;go_wp2_with fail;go_ret;exact⟨rfl,HB.out⟩
set_option maxRecDepth 100000 in
theorem zxp (w:World) (n:Nat) (hn:n<=1048576) (h1n:1<=n) (l:LaV) (h:LaD n l w) (hs:ShL l) (hL:(layS l.q).length<=35184372088832) (hT:Tz w) (ht:Tab w) (nr nb nk ng:Nat) (HL:Hid (Lens l nr nb nk ng)) (hk:l.kind=4):Calls Tryz.prog 47 #[lA l nr nb nk ng] w (TxR (layS l.q) w):=by
 have HL9:=znd HL.out;have hlr:=HL.out.r;have hlb:=HL.out.b;have hlk:=HL.out.k;have hlg:=HL.out.g;have Hs:=znd hs;have sz13:=zpP;have hsz4:=zal;have hsz1:=zaw;have hszg:=zp2;have hszi:=zcX;have hadd:=zaa;have slr:=h.rows.sl;have slb:=h.bias.sl;have slg:=h.grs.sl;rw[<-hlr]at slr;rw[<-hlb]at slb;rw[<-hlg]at slg;have hnr:nr<=100000:=by have:=hs.s.rows;omega
 have hnb:nb<=100000:=by have:=hs.s.bias;omega
 have hnk:nk<=100000:=by have:=hs.s.kern;omega
 have hng:ng<=100000:=by have:=hs.s.grs;omega
 have hF:layS l.q=zyx l.q:=by unfold layS;rw[if_neg (show¬l.q.kind=1 from by rw[show l.q.kind=l.kind from rfl,hk];decide)];rw[if_neg (show¬l.q.kind=2 from by rw[show l.q.kind=l.kind from rfl,hk];decide)];rw[if_neg (show¬l.q.kind=3 from by rw[show l.q.kind=l.kind from rfl,hk];decide)];rw[if_pos (show l.q.kind=4 from hk)]
 obtain⟨L,hLe⟩:∃L,L=l.grs.map fun g=>grT g.l:=⟨_,rfl⟩;have hF2:layS l.q=[32,32,112,111,111,108,32,123,10]++L.flatten++[32,32,125,10]:=by rw[hF,hLe];unfold zyx;rw[List.append_assoc,show l.q.grs=l.grs.map GrV.l from rfl,List.map_map];rfl
 have hLf:L.flatten.length<=35184372088832:=by rw[hF2]at hL;simp only[List.length_append]at hL;omega
 have hLl:ng=L.length:=by rw[hLe,List.length_map];exact hlg
 have Hn:=znd hLl;have HLe:=znd hLe;have HF:=znd hF2;rw[hF2];have hk1:(l.kind==1)=false:=by rw[hk];rfl
 have hk2:(l.kind==2)=false:=by rw[hk];rfl
 have hk3:(l.kind==3)=false:=by rw[hk];rfl
 have hk4:(l.kind==4)=true:=by rw[hk];rfl
 clear hk hF hF2 hLe hLl;obtain⟨W2,hW2,HS⟩:=BS.lay ((LaD.old l w h).and (hT.old.and ht.old)) 49 #[.int .u8 l.kind,.slice l.Ar nr l.cr,.slice l.Ab nb l.cb,.int .i64 l.ch,.int .i64 l.high,.int .i64 l.wide,.int .i64 l.out,.int .i64 l.kh,.int .i64 l.kw,.int .i64 l.st,.int .i64 l.pad,.slice l.Ak nk l.ck,.slice l.Ag ng l.cg];have Hr:=znd hlr;have Hb:=znd hlb;have Hk:=znd hlk;have Hg:=znd hlg;clear h hs hT ht HL hlr hlb hlk hlg hL;unfold lA;go_enter Tryz.func47,Tryz.ntmps47;go_upto_region 2 with fail;clear hW2;have c:=Blk.cb HS.out.now.1;go_wp2_with fail;refine(zwc (by first|exact HS.out|exact HS.out.drew) [32,32,112,111,111,108,32,123,10] (by decide)).mono ?_;rintro e w9 ⟨⟨v,rfl⟩,HS9⟩;replace HS:=znd HS9;clear HS9;replace c:=Blk.cb HS.out.now.1;replace HS:=znd (show BS (w.heap.size+1) (w.alloc (.cells #[.int .u8 l.kind,.slice l.Ar nr l.cr,.slice l.Ab nb l.cb,.int .i64 l.ch,.int .i64 l.high,.int .i64 l.wide,.int .i64 l.out,.int .i64 l.kh,.int .i64 l.kw,.int .i64 l.st,.int .i64 l.pad,.slice l.Ak nk l.ck,.slice l.Ag ng l.cg] 49)) (fun V=>Blk V w.heap.size 49 #[.int .u8 l.kind,.slice l.Ar nr l.cr,.slice l.Ab nb l.cb,.int .i64 l.ch,.int .i64 l.high,.int .i64 l.wide,.int .i64 l.out,.int .i64 l.kh,.int .i64 l.kw,.int .i64 l.st,.int .i64 l.pad,.slice l.Ak nk l.ck,.slice l.Ag ng l.cg]/\LaD n l V/\Tz V/\Tab V) [32,32,112,111,111,108,32,123,10] _ from HS.out);go_upto_region 21 with fail;go_loopw [88] (fun iv wr=>∃i:Nat,iv=.int .i64 (i:Int)/\i<=ng/\Hid (BS (w.heap.size+1) (w.alloc (.cells #[.int .u8 l.kind,.slice l.Ar nr l.cr,.slice l.Ab nb l.cb,.int .i64 l.ch,.int .i64 l.high,.int .i64 l.wide,.int .i64 l.out,.int .i64 l.kh,.int .i64 l.kw,.int .i64 l.st,.int .i64 l.pad,.slice l.Ak nk l.ck,.slice l.Ag ng l.cg] 49)) (fun V=>Blk V w.heap.size 49 #[.int .u8 l.kind,.slice l.Ar nr l.cr,.slice l.Ab nb l.cb,.int .i64 l.ch,.int .i64 l.high,.int .i64 l.wide,.int .i64 l.out,.int .i64 l.kh,.int .i64 l.kw,.int .i64 l.st,.int .i64 l.pad,.slice l.Ak nk l.ck,.slice l.Ag ng l.cg]/\LaD n l V/\Tz V/\Tab V) ([32,32,112,111,111,108,32,123,10]++(L.take i).flatten) wr)) (fun iv _=>ng-(intOf iv).toNat)
 case atStart=>exact⟨0,rfl,Nat.zero_le _,znd (by rw[List.take_zero,List.flatten_nil,List.append_nil];exact HS.out)⟩
 case round=>
  clear HS c;obtain⟨i,rfl,hi,HS⟩:=hrel;by_cases hlt:i<ng
  ·have c:=Blk.cb HS.out.now.1;have hlL:i<L.length:=by rw[<-Hn.out];exact hlt
   have hlx:i<l.grs.length:=by rw[<-Hg.out];exact hlt
   have c0:=HS.out.now.2.1.grs.gc i hlx;have HN:=znd (zwA hlL);have hb1:=zxg L i;have hb2:=zxG hlL;have HQ:=znd (show L[i]=grT (l.grs[i]).l from by simp only[HLe.out,List.getElem_map]);have Hm:=znd (List.getElem_mem hlx);have HGl:=znd (Hs.out.s.gr _ (List.getElem_mem hlx));have HGi:=znd (Hs.out.g _ (List.getElem_mem hlx));obtain⟨g,hg⟩:∃g,g=l.grs[i]:=⟨_,rfl⟩;rw[<-hg]at c0 HQ Hm HGl HGi;clear hg;obtain⟨x,hx⟩:∃x,x=L[i]:=⟨_,rfl⟩;rw[<-hx]at HN hb2 HQ;clear hx;obtain⟨j,hj⟩:∃j,j=inS g.l:=⟨_,rfl⟩;have hjl:j.length<=35184372088832:=by have h9:=hb2;rw[HQ.out]at h9;unfold grT at h9;simp only[List.length_append,<-hj]at h9;omega
   obtain⟨s1,Es1,hs1,cs1⟩:=catL [32,32,32,32] j 4 rfl (by omega);obtain⟨s2,Es2,hs2,cs2⟩:=catR s1 [10] 1 rfl (by omega);have HX:=znd (show s2=x from by rw[Es2.out,Es1.out,HQ.out,hj];simp[grT]);have hxl:s2.length=x.length:=by rw[HX.out]
   have Hj:=znd hj;clear hj;go_wp2_with fail;refine(zww _ n hn h1n g.A g.c g.l (HS.out.now.2.1.grs.ok g Hm.out) (by have:=HGl.out;omega) (fun z hz=>HGi.out z hz) (by rw[<-Hj.out];exact hjl) HS.out.now.2.2.1 HS.out.now.2.2.2 _ rfl).mono ?_;rintro e w8 ⟨rfl,hb9⟩;replace HS:=znd (HS.out.call hb9);clear hb9 c0;replace c:=Blk.cb HS.out.now.1;rw[<-Hj.out];go_wp2_with fail;refine(zwc (by first|exact HS.out|exact HS.out.drew) s2 (by simp only[List.length_append,List.length_cons,List.length_nil];omega)).mono ?_;rintro e w9 ⟨⟨v,rfl⟩,HS9⟩;replace HS:=znd HS9;clear HS9;replace c:=Blk.cb HS.out.now.1;replace HS:=znd (HX.out▸HS.out);go_wp2_with fail;go_roundw
   case rel=>exact⟨i+1,by go_num,by omega,znd (by have h9:=HS.out;rw[List.append_assoc,<-HN.out]at h9;exact h9)⟩
   case measure=>(simp[intOf]<;>omega)
  ·obtain rfl:i=ng:=by omega
   have HS2:=znd (show BS (w.heap.size+1) (w.alloc (.cells #[.int .u8 l.kind,.slice l.Ar nr l.cr,.slice l.Ab nb l.cb,.int .i64 l.ch,.int .i64 l.high,.int .i64 l.wide,.int .i64 l.out,.int .i64 l.kh,.int .i64 l.kw,.int .i64 l.st,.int .i64 l.pad,.slice l.Ak nk l.ck,.slice l.Ag i l.cg] 49)) (fun V=>Blk V w.heap.size 49 #[.int .u8 l.kind,.slice l.Ar nr l.cr,.slice l.Ab nb l.cb,.int .i64 l.ch,.int .i64 l.high,.int .i64 l.wide,.int .i64 l.out,.int .i64 l.kh,.int .i64 l.kw,.int .i64 l.st,.int .i64 l.pad,.slice l.Ak nk l.ck,.slice l.Ag i l.cg]/\LaD n l V/\Tz V/\Tab V) ([32,32,112,111,111,108,32,123,10]++L.flatten) wr from by have h9:=HS.out;rw[show L.take i=L from List.take_of_length_le (by rw[<-Hn.out];exact Nat.le_refl _)]at h9;exact h9);clear HS hlt;have HS:=HS2;clear HS2;have c:=Blk.cb HS.out.now.1;go_wp2_with fail;refine(zwc (by first|exact HS.out|exact HS.out.drew) [32,32,125,10] (by simp only[List.length_append,List.length_cons,List.length_nil];omega)).mono ?_;rintro e w9 ⟨⟨v,rfl⟩,HS9⟩;replace HS:=znd HS9;clear HS9;go_wp2_with fail;refine(zwu _ _ _ _ (by first|exact HS.out.b|exact HS.out.drew.b) (by first|exact HS.out.hs|exact HS.out.drew.hs)).mono ?_;rintro e w9 ⟨rfl,hb9⟩;have HB:=znd (BS.bel (by first|exact HS.out|exact HS.out.drew) hb9);clear hb9;go_wp2_with fail;go_ret;exact⟨rfl,HB.out⟩
set_option maxRecDepth 100000 in
theorem zxQ (w:World) (n:Nat) (hn:n<=1048576) (h1n:1<=n) (l:LaV) (h:LaD n l w) (hs:ShL l) (hL:(layS l.q).length<=35184372088832) (hT:Tz w) (ht:Tab w) (nr nb nk ng:Nat) (HL:Hid (Lens l nr nb nk ng)) (hk:l.kind=1):Calls Tryz.prog 47 #[lA l nr nb nk ng] w (TxR (layS l.q) w):=by
 have HL9:=znd HL.out;have hlr:=HL.out.r;have hlb:=HL.out.b;have hlk:=HL.out.k;have hlg:=HL.out.g;have Hs:=znd hs;have sz13:=zpP;have hsz4:=zal;have hsz1:=zaw;have hszg:=zp2;have hszi:=zcX;have hadd:=zaa;have slr:=h.rows.sl;have slb:=h.bias.sl;have slg:=h.grs.sl;rw[<-hlr]at slr;rw[<-hlb]at slb;rw[<-hlg]at slg;have hnr:nr<=100000:=by have:=hs.s.rows;omega
 have hnb:nb<=100000:=by have:=hs.s.bias;omega
 have hnk:nk<=100000:=by have:=hs.s.kern;omega
 have hng:ng<=100000:=by have:=hs.s.grs;omega
 have hF:layS l.q=affS l.q:=by unfold layS;rw[if_pos (show l.q.kind=1 from hk)]
 obtain⟨L,hLe⟩:∃L,L=((l.q.bias.zip l.q.rows).map fun p=>rwS p.1 p.2):=⟨_,rfl⟩;have hF2:layS l.q=[32,32,97,102,102,105,110,101,32,123,10]++L.flatten++[32,32,125,10]:=by rw[hF,hLe];unfold affS rwsS;rw[List.append_assoc];rfl
 have hLf:L.flatten.length<=35184372088832:=by rw[hF2]at hL;simp only[List.length_append]at hL;omega
 have hrb:=hs.b hk;have hLl:nr=L.length:=by rw[hLe,List.length_map,List.length_zip,show l.q.bias=l.bias.map Prod.snd from rfl,show l.q.rows=l.rows.map fun v=>v.ts.map plq from rfl,List.length_map,List.length_map];omega
 have Hn:=znd hLl;have HLe:=znd hLe;have Hrb:=znd hrb;have HF:=znd hF2;rw[hF2];have hk1:(l.kind==1)=true:=by rw[hk];rfl
 clear hk hF hF2 hLe hLl hrb;obtain⟨W2,hW2,HS⟩:=BS.lay ((LaD.old l w h).and (hT.old.and ht.old)) 49 #[.int .u8 l.kind,.slice l.Ar nr l.cr,.slice l.Ab nb l.cb,.int .i64 l.ch,.int .i64 l.high,.int .i64 l.wide,.int .i64 l.out,.int .i64 l.kh,.int .i64 l.kw,.int .i64 l.st,.int .i64 l.pad,.slice l.Ak nk l.ck,.slice l.Ag ng l.cg];have Hr:=znd hlr;have Hb:=znd hlb;have Hk:=znd hlk;have Hg:=znd hlg;clear h hs hT ht HL hlr hlb hlk hlg hL;unfold lA;go_enter Tryz.func47,Tryz.ntmps47;go_upto_region 2 with fail;clear hW2;have c:=Blk.cb HS.out.now.1;go_wp2_with fail;refine(zwc (by first|exact HS.out|exact HS.out.drew) [32,32,97,102,102,105,110,101,32,123,10] (by decide)).mono ?_;rintro e w9 ⟨⟨v,rfl⟩,HS9⟩;replace HS:=znd HS9;clear HS9;replace c:=Blk.cb HS.out.now.1;replace HS:=znd (show BS (w.heap.size+1) (w.alloc (.cells #[.int .u8 l.kind,.slice l.Ar nr l.cr,.slice l.Ab nb l.cb,.int .i64 l.ch,.int .i64 l.high,.int .i64 l.wide,.int .i64 l.out,.int .i64 l.kh,.int .i64 l.kw,.int .i64 l.st,.int .i64 l.pad,.slice l.Ak nk l.ck,.slice l.Ag ng l.cg] 49)) (fun V=>Blk V w.heap.size 49 #[.int .u8 l.kind,.slice l.Ar nr l.cr,.slice l.Ab nb l.cb,.int .i64 l.ch,.int .i64 l.high,.int .i64 l.wide,.int .i64 l.out,.int .i64 l.kh,.int .i64 l.kw,.int .i64 l.st,.int .i64 l.pad,.slice l.Ak nk l.ck,.slice l.Ag ng l.cg]/\LaD n l V/\Tz V/\Tab V) [32,32,97,102,102,105,110,101,32,123,10] _ from HS.out);go_upto_region 6 with fail;go_loopw [16] (fun iv wr=>∃i:Nat,iv=.int .i64 (i:Int)/\i<=nr/\Hid (BS (w.heap.size+1) (w.alloc (.cells #[.int .u8 l.kind,.slice l.Ar nr l.cr,.slice l.Ab nb l.cb,.int .i64 l.ch,.int .i64 l.high,.int .i64 l.wide,.int .i64 l.out,.int .i64 l.kh,.int .i64 l.kw,.int .i64 l.st,.int .i64 l.pad,.slice l.Ak nk l.ck,.slice l.Ag ng l.cg] 49)) (fun V=>Blk V w.heap.size 49 #[.int .u8 l.kind,.slice l.Ar nr l.cr,.slice l.Ab nb l.cb,.int .i64 l.ch,.int .i64 l.high,.int .i64 l.wide,.int .i64 l.out,.int .i64 l.kh,.int .i64 l.kw,.int .i64 l.st,.int .i64 l.pad,.slice l.Ak nk l.ck,.slice l.Ag ng l.cg]/\LaD n l V/\Tz V/\Tab V) ([32,32,97,102,102,105,110,101,32,123,10]++(L.take i).flatten) wr)) (fun iv _=>nr-(intOf iv).toNat)
 case atStart=>exact⟨0,rfl,Nat.zero_le _,znd (by rw[List.take_zero,List.flatten_nil,List.append_nil];exact HS.out)⟩
 case round=>
  clear HS c;obtain⟨i,rfl,hi,HS⟩:=hrel;by_cases hlt:i<nr
  ·have c:=Blk.cb HS.out.now.1;have hlL:i<L.length:=by rw[<-Hn.out];exact hlt
   have hlx:i<l.rows.length:=by rw[<-Hr.out];exact hlt
   have hlb2:i<l.bias.length:=by rw[<-Hrb.out];exact hlx
   have hlb3:i<nb:=by rw[Hb.out];exact hlb2
   have c0:=HS.out.now.2.1.rows.vc i hlx;have c1:=HS.out.now.2.1.bias.rc i hlb2;have HN:=znd (zwA hlL);have hb1:=zxg L i;have hb2:=zxG hlL;have HQ:=znd (show L[i]=rwS (l.bias[i]).2 ((l.rows[i]).ts.map plq)from by simp only[HLe.out,List.getElem_map,List.getElem_zip,LaG.q]);have Hm:=znd (List.getElem_mem hlx);have Hmb:=znd (List.getElem_mem hlb2);have HGl:=znd (Hs.out.s.row _ (List.getElem_mem hlx));have HGi:=znd (Hs.out.pl _ (List.getElem_mem hlx));obtain⟨v,hv⟩:∃v,v=l.rows[i]:=⟨_,rfl⟩;obtain⟨p,hp⟩:∃p,p=l.bias[i]:=⟨_,rfl⟩;rw[<-hv]at c0 HQ Hm HGl HGi;rw[<-hp]at c1 HQ Hmb;clear hv hp;obtain⟨x,hx⟩:∃x,x=L[i]:=⟨_,rfl⟩;rw[<-hx]at HN hb2 HQ;clear hx;obtain⟨a,ha⟩:∃a,a=zoT p.2:=⟨_,rfl⟩;obtain⟨j,hj⟩:∃j,j=tsS (v.ts.map plq):=⟨_,rfl⟩;have hjl:a.length<=35184372088832/\j.length<=35184372088832:=by have h9:=hb2;rw[HQ.out]at h9;unfold rwS at h9;simp only[List.length_append,List.length_cons,<-hj,<-ha]at h9;omega
   obtain⟨hal,hjl⟩:=hjl;obtain⟨s1,Es1,hs1,cs1⟩:=catL [32,32,32,32,114,111,119,32] a 8 rfl (by omega);obtain⟨s2,Es2,hs2,cs2⟩:=catR s1 [32] 1 rfl (by omega);obtain⟨s3,Es3,hs3,cs3⟩:=catM s2 j (by omega);obtain⟨s4,Es4,hs4,cs4⟩:=catR s3 [10] 1 rfl (by omega);have HX:=znd (show s4=x from by rw[Es4.out,Es3.out,Es2.out,Es1.out,HQ.out,hj,ha];simp[rwS]);have hxl:s4.length=x.length:=by rw[HX.out]
   have Hj:=znd hj;have Ha:=znd ha;clear hj ha;dsimp only[RC]at c1;go_wp2_with fail;refine(zwJ _ p.1 p.2 n hn h1n (HS.out.now.2.1.bias.ok p Hmb.out) HS.out.now.2.2.1 HS.out.now.2.2.2).mono ?_;rintro e w8 ⟨rfl,hb9⟩;replace HS:=znd (HS.out.call hb9);clear hb9 c0 c1;replace c:=Blk.cb HS.out.now.1;rw[<-Ha.out];go_wp2_with fail;refine(zxK _ n hn h1n v.A v.c v.ts (HS.out.now.2.1.rows.ok v Hm.out) (by have:=HGl.out;omega) (fun t ht=>HGi.out t ht) (by rw[<-Hj.out];exact hjl) HS.out.now.2.2.1 HS.out.now.2.2.2 _ rfl).mono ?_;rintro e w8 ⟨rfl,hb9⟩;replace HS:=znd (HS.out.call hb9);clear hb9;replace c:=Blk.cb HS.out.now.1;rw[<-Hj.out];go_wp2_with fail;refine(zwc (by first|exact HS.out|exact HS.out.drew) s4 (by simp only[List.length_append,List.length_cons,List.length_nil];omega)).mono ?_;rintro e w9 ⟨⟨v,rfl⟩,HS9⟩;replace HS:=znd HS9;clear HS9;replace c:=Blk.cb HS.out.now.1;replace HS:=znd (HX.out▸HS.out);go_wp2_with fail;go_roundw
   case rel=>exact⟨i+1,by go_num,by omega,znd (by have h9:=HS.out;rw[List.append_assoc,<-HN.out]at h9;exact h9)⟩
   case measure=>(simp[intOf]<;>omega)
  ·obtain rfl:i=nr:=by omega
   have HS2:=znd (show BS (w.heap.size+1) (w.alloc (.cells #[.int .u8 l.kind,.slice l.Ar i l.cr,.slice l.Ab nb l.cb,.int .i64 l.ch,.int .i64 l.high,.int .i64 l.wide,.int .i64 l.out,.int .i64 l.kh,.int .i64 l.kw,.int .i64 l.st,.int .i64 l.pad,.slice l.Ak nk l.ck,.slice l.Ag ng l.cg] 49)) (fun V=>Blk V w.heap.size 49 #[.int .u8 l.kind,.slice l.Ar i l.cr,.slice l.Ab nb l.cb,.int .i64 l.ch,.int .i64 l.high,.int .i64 l.wide,.int .i64 l.out,.int .i64 l.kh,.int .i64 l.kw,.int .i64 l.st,.int .i64 l.pad,.slice l.Ak nk l.ck,.slice l.Ag ng l.cg]/\LaD n l V/\Tz V/\Tab V) ([32,32,97,102,102,105,110,101,32,123,10]++L.flatten) wr from by have h9:=HS.out;rw[show L.take i=L from List.take_of_length_le (by rw[<-Hn.out];exact Nat.le_refl _)]at h9;exact h9);clear HS hlt;have HS:=HS2;clear HS2;have c:=Blk.cb HS.out.now.1;go_wp2_with fail;refine(zwc (by first|exact HS.out|exact HS.out.drew) [32,32,125,10] (by simp only[List.length_append,List.length_cons,List.length_nil];omega)).mono ?_;rintro e w9 ⟨⟨v,rfl⟩,HS9⟩;replace HS:=znd HS9;clear HS9;go_wp2_with fail;refine(zwu _ _ _ _ (by first|exact HS.out.b|exact HS.out.drew.b) (by first|exact HS.out.hs|exact HS.out.drew.hs)).mono ?_;rintro e w9 ⟨rfl,hb9⟩;have HB:=znd (BS.bel (by first|exact HS.out|exact HS.out.drew) hb9);clear hb9;go_wp2_with fail;go_ret;exact⟨rfl,HB.out⟩
theorem li3 {w:World} {g:Nat} {x y z:Int} (h:Blk w g 3 #[.int .i64 x,.int .i64 y,.int .i64 z]) (hok:∀v∈[x,y,z],okI v w):LsR 1 zoA okI (some ⟨g,0,none⟩) [x,y,z] w:=by
 refine⟨⟨Sl.some_ _ _ _,fun i hi=>?_,fun i hi j hj=>?_⟩,hok⟩
 ·have:i<3:=hi;rcases(by omega:i=0\/i=1\/i=2)with rfl|rfl|rfl<;>rfl
 ·have:i<3:=hi;obtain rfl:j=0:=by omega
  rcases(by omega:i=0\/i=1\/i=2)with rfl|rfl|rfl<;>exact h.cell _
set_option maxRecDepth 100000 in
theorem zxo (w:World) (n:Nat) (hn:n<=1048576) (h1n:1<=n) (l:LaV) (h:LaD n l w) (hs:ShL l) (hL:(layS l.q).length<=35184372088832) (hT:Tz w) (ht:Tab w) (nr nb nk ng:Nat) (HL:Hid (Lens l nr nb nk ng)) (hk:l.kind=2):Calls Tryz.prog 47 #[lA l nr nb nk ng] w (TxR (layS l.q) w):=by
 have HL9:=znd HL.out;have hlr:=HL.out.r;have hlb:=HL.out.b;have hlk:=HL.out.k;have hlg:=HL.out.g;have Hs:=znd hs;have sz13:=zpP;have hsz4:=zal;have hsz1:=zaw;have hszg:=zp2;have hszi:=zcX;have hadd:=zaa;have slr:=h.rows.sl;have slb:=h.bias.sl;have slg:=h.grs.sl;rw[<-hlr]at slr;rw[<-hlb]at slb;rw[<-hlg]at slg;have hnr:nr<=100000:=by have:=hs.s.rows;omega
 have hnb:nb<=100000:=by have:=hs.s.bias;omega
 have hnk:nk<=100000:=by have:=hs.s.kern;omega
 have hng:ng<=100000:=by have:=hs.s.grs;omega
 have hF:layS l.q=cnvS l.q:=by unfold layS;rw[if_neg (show¬l.q.kind=1 from by rw[show l.q.kind=l.kind from rfl,hk];decide)];rw[if_pos (show l.q.kind=2 from hk)]
 obtain⟨i1,hi1⟩:∃s,s=inS [l.ch,l.high,l.wide]:=⟨_,rfl⟩;obtain⟨i2,hi2⟩:∃s,s=inS [l.out,l.kh,l.kw]:=⟨_,rfl⟩;obtain⟨z1,hz1⟩:∃s,s=Lib.itoa l.st:=⟨_,rfl⟩;obtain⟨z2,hz2⟩:∃s,s=Lib.itoa l.pad:=⟨_,rfl⟩;obtain⟨u1,hu1⟩:∃s,s=nuS (l.kern.map Prod.snd):=⟨_,rfl⟩;obtain⟨u2,hu2⟩:∃s,s=nuS (l.bias.map Prod.snd):=⟨_,rfl⟩;have hF2:layS l.q=([32,32,99,111,110,118,32]++(i1++([32]++(i2++([32,115,116,114,105,100,101,32]++(z1++([32,112,97,100,32]++(z2++([32,107,101,114,110,101,108,32]++(u1++([32,98,105,97,115,32]++(u2++([10]))))))))))))):=by rw[hF,hi1,hi2,hz1,hz2,hu1,hu2];rfl
 have hlens:i1.length<=35184372088832/\i2.length<=35184372088832/\z1.length<=35184372088832/\z2.length<=35184372088832/\u1.length<=35184372088832/\u2.length<=35184372088832/\i1.length+i2.length+z1.length+z2.length+u1.length+u2.length<=35184372088832:=by rw[hF2]at hL;simp only[List.length_append]at hL;omega
 obtain⟨hli1,hli2,hlz1,hlz2,hlu1,hlu2,hl9⟩:=hlens;have HF:=znd hF2;rw[hF2];have hk1:(l.kind==1)=false:=by rw[hk];rfl
 have hk2:(l.kind==2)=true:=by rw[hk];rfl
 clear hk hF hF2;have hd:∀z∈[l.ch,l.high,l.wide,l.out,l.kh,l.kw,l.st,l.pad],I64 z:=hs.d;have Hd:=znd hd;clear hd;obtain⟨a1,Ea1,ha1,ca1⟩:=catL [32,32,99,111,110,118,32] i1 7 rfl (by omega);obtain⟨b1,Eb1,hb1,cb1⟩:=catL [32] i2 1 rfl (by omega);obtain⟨d1,Ed1,hd1,cd1⟩:=catL [32,115,116,114,105,100,101,32] z1 8 rfl (by omega);obtain⟨d2,Ed2,hd2,cd2⟩:=catR d1 [32,112,97,100,32] 5 rfl (by omega);obtain⟨d3,Ed3,hd3,cd3⟩:=catM d2 z2 (by omega);obtain⟨f1,Ef1,hf1,cf1⟩:=catL [32,107,101,114,110,101,108,32] u1 8 rfl (by omega);obtain⟨f2,Ef2,hf2,cf2⟩:=catR f1 [32,98,105,97,115,32] 6 rfl (by omega);obtain⟨f3,Ef3,hf3,cf3⟩:=catM f2 u2 (by omega);obtain⟨f4,Ef4,hf4,cf4⟩:=catR f3 [10] 1 rfl (by omega);have Hi1:=znd hi1;have Hi2:=znd hi2;have Hz1:=znd hz1;have Hz2:=znd hz2;have Hu1:=znd hu1;have Hu2:=znd hu2;clear hi1 hi2 hz1 hz2 hu1 hu2;obtain⟨W2,hW2,HS⟩:=BS.lay ((LaD.old l w h).and (hT.old.and ht.old)) 49 #[.int .u8 l.kind,.slice l.Ar nr l.cr,.slice l.Ab nb l.cb,.int .i64 l.ch,.int .i64 l.high,.int .i64 l.wide,.int .i64 l.out,.int .i64 l.kh,.int .i64 l.kw,.int .i64 l.st,.int .i64 l.pad,.slice l.Ak nk l.ck,.slice l.Ag ng l.cg];have Hr:=znd hlr;have Hb:=znd hlb;have Hk:=znd hlk;have Hg:=znd hlg;clear h hs hT ht HL hlr hlb hlk hlg hL;unfold lA;go_enter Tryz.func47,Tryz.ntmps47;go_upto_region 2 with fail;clear hW2;have c:=Blk.cb HS.out.now.1;go_upto_region 12 with fail;go_wp2_with fail;obtain⟨W3,gi1,hW3,hg3,hB3,HS3⟩:=HS.out.al 3 #[.int .i64 l.ch,.int .i64 l.high,.int .i64 l.wide];rw[hW3,hg3];clear hW3 hg3;replace HS:=HS3;clear HS3;refine(zww _ n hn h1n (some ⟨gi1,0,none⟩) 3 [l.ch,l.high,l.wide] (li3 hB3 (fun _ _=>trivial)) (show 3<=100000 by decide) (fun z hz=>Hd.out z (by simp only[List.mem_cons,List.not_mem_nil,or_false]at hz⊢;omega)) (by rw[<-Hi1.out];exact hli1) HS.out.now.2.2.1 HS.out.now.2.2.2 3 rfl).mono ?_;rintro e w8 ⟨rfl,hb9⟩;rw[<-Hi1.out];replace HS:=znd (HS.out.call hb9);clear hb9 hB3;replace c:=Blk.cb HS.out.now.1;go_wp2_with fail;refine(zwc (by first|exact HS.out|exact HS.out.drew) a1 (by simp only[List.length_nil];omega)).mono ?_;rintro e w9 ⟨⟨v,rfl⟩,HS9⟩;replace HS:=znd HS9;clear HS9;replace c:=Blk.cb HS.out.now.1;go_wp2_with fail;obtain⟨W3,gi2,hW3,hg3,hB3,HS3⟩:=HS.out.al 3 #[.int .i64 l.out,.int .i64 l.kh,.int .i64 l.kw];rw[hW3,hg3];clear hW3 hg3;replace HS:=HS3;clear HS3;refine(zww _ n hn h1n (some ⟨gi2,0,none⟩) 3 [l.out,l.kh,l.kw] (li3 hB3 (fun _ _=>trivial)) (show 3<=100000 by decide) (fun z hz=>Hd.out z (by simp only[List.mem_cons,List.not_mem_nil,or_false]at hz⊢;omega)) (by rw[<-Hi2.out];exact hli2) HS.out.now.2.2.1 HS.out.now.2.2.2 3 rfl).mono ?_;rintro e w8 ⟨rfl,hb9⟩;rw[<-Hi2.out];replace HS:=znd (HS.out.call hb9);clear hb9 hB3;replace c:=Blk.cb HS.out.now.1;go_wp2_with fail;refine(zwc (by first|exact HS.out|exact HS.out.drew) b1 (by simp only[List.length_append,List.length_nil];omega)).mono ?_;rintro e w9 ⟨⟨v,rfl⟩,HS9⟩;replace HS:=znd HS9;clear HS9;replace c:=Blk.cb HS.out.now.1;go_upto_region 14 with fail
 go_region_held3 (fun W=>CB w.heap.size #[.int .u8 l.kind,.slice l.Ar nr l.cr,.slice l.Ab nb l.cb,.int .i64 l.ch,.int .i64 l.high,.int .i64 l.wide,.int .i64 l.out,.int .i64 l.kh,.int .i64 l.kw,.int .i64 l.st,.int .i64 l.pad,.slice l.Ak nk l.ck,.slice l.Ag ng l.cg] W) (first|with_reducible exact c|exact Blk.cb HS.out.drew.now.1|go_keep)
  (first
   |(go_at_call_of 46 (#[.int .i64 l.st]:Array Value);go_must (refine(zwl l.st (Hd.out l.st (by simp)).1 (Hd.out l.st (by simp)).2 _ (by first|exact HS.out.now.2.2.2|exact HS.out.drew.now.2.2.2)).mono ?_;rintro e w1 ⟨rfl,hb⟩;rw[<-Hz1.out];replace HS:=znd (BS.call (by first|exact HS.out|exact HS.out.drew) hb);replace c:=Blk.cb HS.out.now.1;clear hb))
   |(go_at_call_of 46 (#[.int .i64 l.pad]:Array Value);go_must (refine(zwl l.pad (Hd.out l.pad (by simp)).1 (Hd.out l.pad (by simp)).2 _ (by first|exact HS.out.now.2.2.2|exact HS.out.drew.now.2.2.2)).mono ?_;rintro e w2 ⟨rfl,hb⟩;rw[<-Hz2.out];replace HS:=znd (BS.call (by first|exact HS.out|exact HS.out.drew) hb);replace c:=Blk.cb HS.out.now.1;clear hb))
   |(go_at_call 45;go_must (refine(zwc (by first|exact HS.out|exact HS.out.drew) d3 (by simp only[List.length_append,List.length_nil];omega)).mono ?_;rintro e w3 ⟨⟨v,rfl⟩,HS9⟩;replace HS:=znd HS9;clear HS9;replace c:=Blk.cb HS.out.now.1)))
 go_upto_region 15 with fail
 go_region_held3 (fun W=>CB w.heap.size #[.int .u8 l.kind,.slice l.Ar nr l.cr,.slice l.Ab nb l.cb,.int .i64 l.ch,.int .i64 l.high,.int .i64 l.wide,.int .i64 l.out,.int .i64 l.kh,.int .i64 l.kw,.int .i64 l.st,.int .i64 l.pad,.slice l.Ak nk l.ck,.slice l.Ag ng l.cg] W) (first|with_reducible exact c|exact Blk.cb HS.out.drew.now.1|go_keep)
  (first
   |(go_at_call_of 55 (#[.slice l.Ak nk l.ck]:Array Value);go_must (refine(zw9 _ n hn h1n l.Ak l.ck l.kern (by first|exact HS.out.now.2.1.kern|exact HS.out.drew.now.2.1.kern) (by have:=Hs.out.s.kern;omega) (fun _ _=>trivial) (by rw[<-Hu1.out];exact hlu1) (by first|exact HS.out.now.2.2.1|exact HS.out.drew.now.2.2.1) (by first|exact HS.out.now.2.2.2|exact HS.out.drew.now.2.2.2) nk Hk.out).mono ?_;rintro e w1 ⟨rfl,hb⟩;rw[<-Hu1.out];replace HS:=znd (BS.call (by first|exact HS.out|exact HS.out.drew) hb);replace c:=Blk.cb HS.out.now.1;clear hb))
   |(go_at_call_of 55 (#[.slice l.Ab nb l.cb]:Array Value);go_must (refine(zw9 _ n hn h1n l.Ab l.cb l.bias (by first|exact HS.out.now.2.1.bias|exact HS.out.drew.now.2.1.bias) (by have:=Hs.out.s.bias;omega) (fun _ _=>trivial) (by rw[<-Hu2.out];exact hlu2) (by first|exact HS.out.now.2.2.1|exact HS.out.drew.now.2.2.1) (by first|exact HS.out.now.2.2.2|exact HS.out.drew.now.2.2.2) nb Hb.out).mono ?_;rintro e w2 ⟨rfl,hb⟩;rw[<-Hu2.out];replace HS:=znd (BS.call (by first|exact HS.out|exact HS.out.drew) hb);replace c:=Blk.cb HS.out.now.1;clear hb))
   |(go_at_call 45;go_must (refine(zwc (by first|exact HS.out|exact HS.out.drew) f4 (by simp only[List.length_append,List.length_nil];omega)).mono ?_;rintro e w3 ⟨⟨v,rfl⟩,HS9⟩;replace HS:=znd HS9;clear HS9;replace c:=Blk.cb HS.out.now.1)))
 go_wp2_with fail;refine(zwu _ _ _ _ (by first|exact HS.out.b|exact HS.out.drew.b) (by first|exact HS.out.hs|exact HS.out.drew.hs)).mono ?_;rintro e w9 ⟨rfl,hb9⟩;have HB:=znd (BS.bel (by first|exact HS.out|exact HS.out.drew) hb9);clear hb9;go_wp2_with fail;go_ret;exact⟨congrArg (fun s=>Ending.returned (Value.string (bA s))) (by rw[Ea1.out,Eb1.out,Ed3.out,Ed2.out,Ed1.out,Ef4.out,Ef3.out,Ef2.out,Ef1.out];simp),HB.out⟩
theorem zxE (w:World) (n:Nat) (hn:n<=1048576) (h1n:1<=n) (l:LaV) (h:LaD n l w) (hs:ShL l) (hL:(layS l.q).length<=35184372088832) (hT:Tz w) (ht:Tab w) (nr nb nk ng:Nat) (HL:Hid (Lens l nr nb nk ng)):Calls Tryz.prog 47 #[lA l nr nb nk ng] w (TxR (layS l.q) w):=by
 rcases hs.k with hk|hk|hk|hk
 ·exact zxQ w n hn h1n l h hs hL hT ht nr nb nk ng HL hk
 ·exact zxo w n hn h1n l h hs hL hT ht nr nb nk ng HL hk
 ·exact zxj w n hn h1n l h hs hL hT ht nr nb nk ng HL hk
 ·exact zxp w n hn h1n l h hs hL hT ht nr nb nk ng HL hk

structure QuG (N:Type) where
 A0:Option Addr
 c0:Nat
 x0:List N
 label:Int
 A1:Option Addr
 c1:Nat
 lo:List N
 A2:Option Addr
 c2:Nat
 hi:List N
 norm:Int
abbrev QuV:=QuG (RV×Rat)
def QuG.q (q:QuV):QQ:=⟨q.x0.map Prod.snd,q.label,q.lo.map Prod.snd,q.hi.map Prod.snd,q.norm⟩
structure QuF (ok:RV×Rat->World->Prop) (q:QuV) (W:World):Prop where
 x0:LsR 4 rtcells ok q.A0 q.x0 W
 lo:LsR 4 rtcells ok q.A1 q.lo W
 hi:LsR 4 rtcells ok q.A2 q.hi W
@[reducible] def QuD (n:Nat):QuV->World->Prop:=QuF (roD n)
theorem QuF.old {ok:RV×Rat->World->Prop} (hR:∀p W,ok p W->Rests W (·<W.heap.size) (ok p)) {q:QuV} {w:World} (h:QuF ok q w):Rests w (·<w.heap.size) (QuF ok q):=
 ((h.x0.old hR).and ((h.lo.old hR).and (h.hi.old hR))).imp fun _ h=>⟨h.1,h.2.1,h.2.2⟩
structure LenQ {N:Type} (q:QuG N) (n0 n1 n2:Nat):Prop where
 x:n0=q.x0.length
 l:n1=q.lo.length
 h:n2=q.hi.length
theorem LenQ.of {N:Type} (q:QuG N):LenQ q q.x0.length q.lo.length q.hi.length:=⟨rfl,rfl,rfl⟩
structure QuS {N:Type} (q:QuG N):Prop where
 x:q.x0.length<=100000
 l:q.lo.length<=100000
 h:q.hi.length<=100000
def ret2 (p:List UInt8×Int):Ending:=.returned (.tuple #[.string (bA p.1),.int .i64 p.2])
def wiT (t:List UInt8):List UInt8×Int:=if 262144<t.length then([],3) else(t,0)
set_option maxRecDepth 100000 in
theorem zxJ (w:World) (n:Nat) (hn:n<=1048576) (h1n:1<=n) (f:NeV) (h:NeD n f w) (hs:∀l∈f.las,ShL l) (hn2:f.las.length<=100000) (hi:I64 f.inputs) (hL:(netS f.inputs (f.las.map LaG.q)).length<=35184372088832) (hT:Tz w) (ht:Tab w) (nl:Nat) (hnl:nl=f.las.length):Calls Tryz.prog 27 #[.agg #[.int .i64 f.inputs,.slice f.A nl f.c]] w (TxR (netS f.inputs (f.las.map LaG.q)) w):=by
 have sll:=h.sl;rw[<-hnl]at sll;have hsz1:=zpP;have hadd:=zaa;have hlb:nl<=100000:=by omega
 obtain⟨L,hLe⟩:∃L,L=f.las.map fun l=>layS l.q:=⟨_,rfl⟩;obtain⟨z,hz⟩:∃z,z=Lib.itoa f.inputs:=⟨_,rfl⟩;have hzl:z.length<=100:=by rw[hz];exact zwB hi.1 hi.2
 obtain⟨s1,Es1,hs1,cs1⟩:=catL [110,101,116,32] z 4 rfl (by omega);obtain⟨s2,Es2,hs2,cs2⟩:=catR s1 [32,123,10] 3 rfl (by omega);have hF:netS f.inputs (f.las.map LaG.q)=s2++L.flatten++[125,10]:=by rw[Es2.out,Es1.out,hLe,hz];unfold netS;simp only[List.append_assoc,List.map_map];rfl
 rw[hF]at hL⊢;have hLf:L.flatten.length<=35184372088832:=by simp only[List.length_append]at hL;omega
 have hLl:nl=L.length:=by rw[hLe,List.length_map];exact hnl
 have Hn:=znd hLl;have HLe:=znd hLe;have Hz:=znd hz;have Hl:=znd hnl;have Hs:=znd hs;have Hi:=znd hi;have HL:=znd hL;clear hF hLe hz hLl hL hs hi;obtain⟨W2,hW2,HS⟩:=BS.lay ((NeD.old h).and (hT.old.and ht.old)) 24 #[.int .i64 f.inputs,.slice f.A nl f.c];clear h hT ht hn2 hnl;go_enter Tryz.func27,Tryz.ntmps27;go_upto_region 2 with fail;clear hW2;have c:=Blk.cb HS.out.now.1;go_wp2_with fail;refine(zwl f.inputs Hi.out.1 Hi.out.2 _ (by first|exact HS.out.now.2.2.2|exact HS.out.drew.now.2.2.2)).mono ?_;rintro e w8 ⟨rfl,hb9⟩;rw[<-Hz.out];replace HS:=znd (BS.call (by first|exact HS.out|exact HS.out.drew) hb9);clear hb9;replace c:=Blk.cb HS.out.now.1;go_wp2_with fail;refine(zwc (by first|exact HS.out|exact HS.out.drew) s2 (by simp only[List.length_nil];omega)).mono ?_;rintro e w9 ⟨⟨v,rfl⟩,HS9⟩;replace HS:=znd (show BS (w.heap.size+1) (w.alloc (.cells #[.int .i64 f.inputs,.slice f.A nl f.c] 24)) (fun V=>Blk V w.heap.size 24 #[.int .i64 f.inputs,.slice f.A nl f.c]/\NeD n f V/\Tz V/\Tab V) s2 _ from HS9);clear HS9;replace c:=Blk.cb HS.out.now.1;go_upto_region 4 with fail;go_loopw [15] (fun iv wr=>∃i:Nat,iv=.int .i64 (i:Int)/\i<=nl/\Hid (BS (w.heap.size+1) (w.alloc (.cells #[.int .i64 f.inputs,.slice f.A nl f.c] 24)) (fun V=>Blk V w.heap.size 24 #[.int .i64 f.inputs,.slice f.A nl f.c]/\NeD n f V/\Tz V/\Tab V) (s2++(L.take i).flatten) wr)) (fun iv _=>nl-(intOf iv).toNat)
 case atStart=>exact⟨0,rfl,Nat.zero_le _,znd (by rw[List.take_zero,List.flatten_nil,List.append_nil];exact HS.out)⟩
 case round=>
  clear HS c;obtain⟨i,rfl,hi,HS⟩:=hrel;by_cases hlt:i<nl
  ·have hlL:i<L.length:=by rw[<-Hn.out];exact hlt
   have hlx:i<f.las.length:=by rw[<-Hl.out];exact hlt
   have c0:=HS.out.now.2.1.lac i hlx;have HN:=znd (zwA hlL);have hb1:=zxg L i;have hb2:=zxG hlL;have HQ:=znd (show L[i]=layS (f.las[i]).q from by simp only[HLe.out,List.getElem_map]);have Hm:=znd (List.getElem_mem hlx);have HSl:=znd (Hs.out _ (List.getElem_mem hlx));obtain⟨p,hp⟩:∃p,p=f.las[i]:=⟨_,rfl⟩;rw[<-hp]at c0 HQ Hm HSl;clear hp;obtain⟨x,hx⟩:∃x,x=L[i]:=⟨_,rfl⟩;rw[<-hx]at HN hb2 HQ;clear hx;go_upto_region 6 with fail;obtain⟨W3,gp,hW3,hg3,hB3,HS3⟩:=HS.out.al 49 #[.int .u8 p.kind,.slice p.Ar p.rows.length p.cr,.slice p.Ab p.bias.length p.cb,.int .i64 p.ch,.int .i64 p.high,.int .i64 p.wide,.int .i64 p.out,.int .i64 p.kh,.int .i64 p.kw,.int .i64 p.st,.int .i64 p.pad,.slice p.Ak p.kern.length p.ck,.slice p.Ag p.grs.length p.cg];rw[hW3,hg3];clear hW3 hg3 c0 HS;have HS:=HS3;clear HS3;have c5:=hB3.cb;go_wp2_with fail;refine(zxE _ n hn h1n p (HS.out.now.2.1.ok p Hm.out) HSl.out (by rw[<-HQ.out];omega) HS.out.now.2.2.1 HS.out.now.2.2.2 _ _ _ _ (znd (Lens.of p))).mono ?_;rintro e w8 ⟨rfl,hb9⟩;rw[<-HQ.out];replace HS:=znd (HS.out.call hb9);clear hb9 c5 hB3;go_wp2_with fail;refine(zwc (by first|exact HS.out|exact HS.out.drew) x (by simp only[List.length_append];omega)).mono ?_;rintro e w9 ⟨⟨v,rfl⟩,HS9⟩;replace HS:=znd HS9;clear HS9;go_wp2_with fail;go_roundw
   case rel=>exact⟨i+1,by go_num,by omega,znd (by have h9:=HS.out;rw[List.append_assoc,<-HN.out]at h9;exact h9)⟩
   case measure=>(simp[intOf]<;>omega)
  ·obtain rfl:i=nl:=by omega
   have HS2:=znd (show BS (w.heap.size+1) (w.alloc (.cells #[.int .i64 f.inputs,.slice f.A i f.c] 24)) (fun V=>Blk V w.heap.size 24 #[.int .i64 f.inputs,.slice f.A i f.c]/\NeD n f V/\Tz V/\Tab V) (s2++L.flatten) wr from by have h9:=HS.out;rw[show L.take i=L from List.take_of_length_le (by rw[<-Hn.out];exact Nat.le_refl _)]at h9;exact h9);clear HS hlt;have HS:=HS2;clear HS2;go_wp2_with fail;refine(zwc (by first|exact HS.out|exact HS.out.drew) [125,10] (by simp only[List.length_append,List.length_cons,List.length_nil];omega)).mono ?_;rintro e w9 ⟨⟨v,rfl⟩,HS9⟩;replace HS:=znd HS9;clear HS9;go_wp2_with fail;refine(zwu _ _ _ _ (by first|exact HS.out.b|exact HS.out.drew.b) (by first|exact HS.out.hs|exact HS.out.drew.hs)).mono ?_;rintro e w9 ⟨rfl,hb9⟩;have HB:=znd (BS.bel (by first|exact HS.out|exact HS.out.drew) hb9);clear hb9;go_wp2_with fail;go_ret;exact⟨congrArg (fun s=>Ending.returned (Value.string (bA s))) (by simp),HB.out⟩
set_option maxRecDepth 100000 in
theorem zxv (w:World) (n:Nat) (hn:n<=1048576) (h1n:1<=n) (q:QuV) (h:QuD n q w) (hs:QuS q) (hi:I64 q.label) (hL:(quS q.q).length<=35184372088832) (hT:Tz w) (ht:Tab w) (n0 n1 n2:Nat) (HQ:Hid (LenQ q n0 n1 n2)) (hm:q.norm=2):Calls Tryz.prog 31 #[.agg #[.slice q.A0 n0 q.c0,.int .i64 q.label,.slice q.A1 n1 q.c1,.slice q.A2 n2 q.c2,.int .u8 q.norm]] w (TxR (quS q.q) w):=by
 have hx:=HQ.out.x;have hl:=HQ.out.l;have hh:=HQ.out.h;have Hs:=znd hs;have Hi:=znd hi;obtain⟨k0,hk0⟩:∃s,s=nuS (q.x0.map Prod.snd):=⟨_,rfl⟩;obtain⟨k1,hk1⟩:∃s,s=nuS (q.lo.map Prod.snd):=⟨_,rfl⟩;obtain⟨k2,hk2⟩:∃s,s=nuS (q.hi.map Prod.snd):=⟨_,rfl⟩;obtain⟨z,hz⟩:∃z,z=Lib.itoa q.label:=⟨_,rfl⟩;have hzl:z.length<=100:=by rw[hz];exact zwB hi.1 hi.2
 have hF:quS q.q=([113,117,101,114,121,32,123,32,97,116,32]++(k0++([32,108,97,98,101,108,32]++(z++([32,108,111,32]++(k1++([32,104,105,32]++(k2++([32,110,111,114,109,32]++([109,97,120]++[32,125,10])))))))))):=by unfold quS;rw[if_pos (show q.q.norm=2 from hm),hk0,hk1,hk2,hz];rfl
 have hlens:k0.length<=35184372088832/\k1.length<=35184372088832/\k2.length<=35184372088832/\k0.length+k1.length+k2.length<=35184372088832:=by rw[hF]at hL;simp only[List.length_append]at hL;omega
 obtain⟨hlk0,hlk1,hlk2,hl9⟩:=hlens;obtain⟨s1,Es1,hs1,cs1⟩:=catL [113,117,101,114,121,32,123,32,97,116,32] k0 11 rfl (by omega);obtain⟨s2,Es2,hs2,cs2⟩:=catR s1 [32,108,97,98,101,108,32] 7 rfl (by omega);obtain⟨s3,Es3,hs3,cs3⟩:=catM s2 z (by omega);obtain⟨s4,Es4,hs4,cs4⟩:=catR s3 [32,108,111,32] 4 rfl (by omega);obtain⟨s5,Es5,hs5,cs5⟩:=catM s4 k1 (by omega);obtain⟨s6,Es6,hs6,cs6⟩:=catR s5 [32,104,105,32] 4 rfl (by omega);obtain⟨s7,Es7,hs7,cs7⟩:=catM s6 k2 (by omega);obtain⟨s8,Es8,hs8,cs8⟩:=catR s7 [32,110,111,114,109,32] 6 rfl (by omega);obtain⟨s9,Es9,hs9,cs9⟩:=catR s8 [109,97,120] 3 rfl (by omega);obtain⟨s10,Es10,hs10,cs10⟩:=catR s9 [32,125,10] 3 rfl (by omega);have HF:=znd (show s10=quS q.q from by rw[hF,Es10.out,Es9.out,Es8.out,Es7.out,Es6.out,Es5.out,Es4.out,Es3.out,Es2.out,Es1.out];simp);have H0:=znd hk0;have H1:=znd hk1;have H2:=znd hk2;have Hz:=znd hz;have Hn0:=znd hx;have Hn1:=znd hl;have Hn2:=znd hh;rw[<-HF.out];clear hF hk0 hk1 hk2 hz hL;obtain⟨W0,hW0⟩:∃W0,W0=(w.alloc (.cells #[.slice q.A0 n0 q.c0,.int .i64 q.label,.slice q.A1 n1 q.c1,.slice q.A2 n2 q.c2,.int .u8 q.norm] 28)):=⟨_,rfl⟩;have HE:=znd (Env.lay1 (Env.start (((QuF.old zbQ h)).and ((hT.old).and (ht.old)))) hW0);subst hW0;have c:=Env.c1 HE.out;clear h hs hi hx hl hh hT ht;have he:(q.norm==2)=true:=by rw[hm];rfl
 clear hm;go_enter Tryz.func31,Tryz.ntmps31;go_upto_region 4 with fail
 go_region_held3 (fun W=>CB (w.heap.size) #[.slice q.A0 n0 q.c0,.int .i64 q.label,.slice q.A1 n1 q.c1,.slice q.A2 n2 q.c2,.int .u8 q.norm] W) (first|with_reducible exact c|((repeat' apply And.intro)<;>go_keep)|exact c)
  (first
   |(go_at_call_of 55 (#[.slice q.A0 n0 q.c0]:Array Value);go_must (refine(zw9 _ n hn h1n q.A0 q.c0 q.x0 (HE.out.wd.o.1.x0) (Hs.out.x) (fun _ _=>trivial) (by rw[<-H0.out];exact hlk0) (HE.out.wd.o.2.1) (HE.out.wd.o.2.2) n0 Hn0.out).mono ?_;rintro e w0 ⟨rfl,hb⟩;rw[<-H0.out];replace HE:=znd (Env.cx HE.out hb);replace c:=Env.c1 HE.out;clear hb))
   |(go_at_call_of 55 (#[.slice q.A1 n1 q.c1]:Array Value);go_must (refine(zw9 _ n hn h1n q.A1 q.c1 q.lo (HE.out.wd.o.1.lo) (Hs.out.l) (fun _ _=>trivial) (by rw[<-H1.out];exact hlk1) (HE.out.wd.o.2.1) (HE.out.wd.o.2.2) n1 Hn1.out).mono ?_;rintro e w1 ⟨rfl,hb⟩;rw[<-H1.out];replace HE:=znd (Env.cx HE.out hb);replace c:=Env.c1 HE.out;clear hb))
   |(go_at_call_of 55 (#[.slice q.A2 n2 q.c2]:Array Value);go_must (refine(zw9 _ n hn h1n q.A2 q.c2 q.hi (HE.out.wd.o.1.hi) (Hs.out.h) (fun _ _=>trivial) (by rw[<-H2.out];exact hlk2) (HE.out.wd.o.2.1) (HE.out.wd.o.2.2) n2 Hn2.out).mono ?_;rintro e w2 ⟨rfl,hb⟩;rw[<-H2.out];replace HE:=znd (Env.cx HE.out hb);replace c:=Env.c1 HE.out;clear hb))
   |(go_at_call 46;go_must (refine(zwl q.label Hi.out.1 Hi.out.2 _ (HE.out.wd.o.2.2)).mono ?_;rintro e w4 ⟨rfl,hb⟩;rw[<-Hz.out];replace HE:=znd (Env.cx HE.out hb);replace c:=Env.c1 HE.out;clear hb)))
 go_wp2_with fail;go_ret;exact⟨rfl,by exact HE.out.wd.bel⟩
set_option maxRecDepth 100000 in
theorem zxI (w:World) (n:Nat) (hn:n<=1048576) (h1n:1<=n) (q:QuV) (h:QuD n q w) (hs:QuS q) (hi:I64 q.label) (hL:(quS q.q).length<=35184372088832) (hT:Tz w) (ht:Tab w) (n0 n1 n2:Nat) (HQ:Hid (LenQ q n0 n1 n2)) (hm:¬q.norm=2):Calls Tryz.prog 31 #[.agg #[.slice q.A0 n0 q.c0,.int .i64 q.label,.slice q.A1 n1 q.c1,.slice q.A2 n2 q.c2,.int .u8 q.norm]] w (TxR (quS q.q) w):=by
 have hx:=HQ.out.x;have hl:=HQ.out.l;have hh:=HQ.out.h;have Hs:=znd hs;have Hi:=znd hi;obtain⟨k0,hk0⟩:∃s,s=nuS (q.x0.map Prod.snd):=⟨_,rfl⟩;obtain⟨k1,hk1⟩:∃s,s=nuS (q.lo.map Prod.snd):=⟨_,rfl⟩;obtain⟨k2,hk2⟩:∃s,s=nuS (q.hi.map Prod.snd):=⟨_,rfl⟩;obtain⟨z,hz⟩:∃z,z=Lib.itoa q.label:=⟨_,rfl⟩;have hzl:z.length<=100:=by rw[hz];exact zwB hi.1 hi.2
 have hF:quS q.q=([113,117,101,114,121,32,123,32,97,116,32]++(k0++([32,108,97,98,101,108,32]++(z++([32,108,111,32]++(k1++([32,104,105,32]++(k2++([32,110,111,114,109,32]++([115,117,109]++[32,125,10])))))))))):=by unfold quS;rw[if_neg (show¬q.q.norm=2 from hm),hk0,hk1,hk2,hz];rfl
 have hlens:k0.length<=35184372088832/\k1.length<=35184372088832/\k2.length<=35184372088832/\k0.length+k1.length+k2.length<=35184372088832:=by rw[hF]at hL;simp only[List.length_append]at hL;omega
 obtain⟨hlk0,hlk1,hlk2,hl9⟩:=hlens;obtain⟨s1,Es1,hs1,cs1⟩:=catL [113,117,101,114,121,32,123,32,97,116,32] k0 11 rfl (by omega);obtain⟨s2,Es2,hs2,cs2⟩:=catR s1 [32,108,97,98,101,108,32] 7 rfl (by omega);obtain⟨s3,Es3,hs3,cs3⟩:=catM s2 z (by omega);obtain⟨s4,Es4,hs4,cs4⟩:=catR s3 [32,108,111,32] 4 rfl (by omega);obtain⟨s5,Es5,hs5,cs5⟩:=catM s4 k1 (by omega);obtain⟨s6,Es6,hs6,cs6⟩:=catR s5 [32,104,105,32] 4 rfl (by omega);obtain⟨s7,Es7,hs7,cs7⟩:=catM s6 k2 (by omega);obtain⟨s8,Es8,hs8,cs8⟩:=catR s7 [32,110,111,114,109,32] 6 rfl (by omega);obtain⟨s9,Es9,hs9,cs9⟩:=catR s8 [115,117,109] 3 rfl (by omega);obtain⟨s10,Es10,hs10,cs10⟩:=catR s9 [32,125,10] 3 rfl (by omega);have HF:=znd (show s10=quS q.q from by rw[hF,Es10.out,Es9.out,Es8.out,Es7.out,Es6.out,Es5.out,Es4.out,Es3.out,Es2.out,Es1.out];simp);have H0:=znd hk0;have H1:=znd hk1;have H2:=znd hk2;have Hz:=znd hz;have Hn0:=znd hx;have Hn1:=znd hl;have Hn2:=znd hh;rw[<-HF.out];clear hF hk0 hk1 hk2 hz hL;obtain⟨W0,hW0⟩:∃W0,W0=(w.alloc (.cells #[.slice q.A0 n0 q.c0,.int .i64 q.label,.slice q.A1 n1 q.c1,.slice q.A2 n2 q.c2,.int .u8 q.norm] 28)):=⟨_,rfl⟩;have HE:=znd (Env.lay1 (Env.start (((QuF.old zbQ h)).and ((hT.old).and (ht.old)))) hW0);subst hW0;have c:=Env.c1 HE.out;clear h hs hi hx hl hh hT ht;have he:(q.norm==2)=false:=by simpa using hm
 clear hm;go_enter Tryz.func31,Tryz.ntmps31;go_upto_region 4 with fail
 go_region_held3 (fun W=>CB (w.heap.size) #[.slice q.A0 n0 q.c0,.int .i64 q.label,.slice q.A1 n1 q.c1,.slice q.A2 n2 q.c2,.int .u8 q.norm] W) (first|with_reducible exact c|((repeat' apply And.intro)<;>go_keep)|exact c)
  (first
   |(go_at_call_of 55 (#[.slice q.A0 n0 q.c0]:Array Value);go_must (refine(zw9 _ n hn h1n q.A0 q.c0 q.x0 (HE.out.wd.o.1.x0) (Hs.out.x) (fun _ _=>trivial) (by rw[<-H0.out];exact hlk0) (HE.out.wd.o.2.1) (HE.out.wd.o.2.2) n0 Hn0.out).mono ?_;rintro e w0 ⟨rfl,hb⟩;rw[<-H0.out];replace HE:=znd (Env.cx HE.out hb);replace c:=Env.c1 HE.out;clear hb))
   |(go_at_call_of 55 (#[.slice q.A1 n1 q.c1]:Array Value);go_must (refine(zw9 _ n hn h1n q.A1 q.c1 q.lo (HE.out.wd.o.1.lo) (Hs.out.l) (fun _ _=>trivial) (by rw[<-H1.out];exact hlk1) (HE.out.wd.o.2.1) (HE.out.wd.o.2.2) n1 Hn1.out).mono ?_;rintro e w1 ⟨rfl,hb⟩;rw[<-H1.out];replace HE:=znd (Env.cx HE.out hb);replace c:=Env.c1 HE.out;clear hb))
   |(go_at_call_of 55 (#[.slice q.A2 n2 q.c2]:Array Value);go_must (refine(zw9 _ n hn h1n q.A2 q.c2 q.hi (HE.out.wd.o.1.hi) (Hs.out.h) (fun _ _=>trivial) (by rw[<-H2.out];exact hlk2) (HE.out.wd.o.2.1) (HE.out.wd.o.2.2) n2 Hn2.out).mono ?_;rintro e w2 ⟨rfl,hb⟩;rw[<-H2.out];replace HE:=znd (Env.cx HE.out hb);replace c:=Env.c1 HE.out;clear hb))
   |(go_at_call 46;go_must (refine(zwl q.label Hi.out.1 Hi.out.2 _ (HE.out.wd.o.2.2)).mono ?_;rintro e w4 ⟨rfl,hb⟩;rw[<-Hz.out];replace HE:=znd (Env.cx HE.out hb);replace c:=Env.c1 HE.out;clear hb)))
 go_wp2_with fail;go_ret;exact⟨rfl,by exact HE.out.wd.bel⟩
theorem zwW (w:World) (n:Nat) (hn:n<=1048576) (h1n:1<=n) (q:QuV) (h:QuD n q w) (hs:QuS q) (hi:I64 q.label) (hL:(quS q.q).length<=35184372088832) (hT:Tz w) (ht:Tab w) (n0 n1 n2:Nat) (HQ:Hid (LenQ q n0 n1 n2)):Calls Tryz.prog 31 #[.agg #[.slice q.A0 n0 q.c0,.int .i64 q.label,.slice q.A1 n1 q.c1,.slice q.A2 n2 q.c2,.int .u8 q.norm]] w (TxR (quS q.q) w):=by
 by_cases hm:q.norm=2
 ·exact zxv w n hn h1n q h hs hi hL hT ht n0 n1 n2 HQ hm
 ·exact zxI w n hn h1n q h hs hi hL hT ht n0 n1 n2 HQ hm
set_option maxRecDepth 100000 in
theorem zwx (w:World) (t:List UInt8) (hl:t.length<=9223372036854775807):Calls Tryz.prog 26 #[.string (bA t)] w fun e w'=>e=ret2 (wiT t)/\w'=w:=by
 have hz:=zwE t;by_cases h:262144<t.length
 ·have HW:=znd (show wiT t=([],3)from if_pos h);go_enter Tryz.func26,Tryz.ntmps26;go_wp2_with fail;go_ret2;exact⟨by rw[HW.out];rfl,rfl⟩
 ·have HW:=znd (show wiT t=(t,0)from if_neg h);go_enter Tryz.func26,Tryz.ntmps26;go_wp2_with fail;go_ret2;exact⟨by rw[HW.out];rfl,rfl⟩

set_option maxRecDepth 100000 in
theorem zxq (w:World) (i j:IV) (z y:Int) (n:Nat) (_hn:n<=17592186044416) (_h:IntD i y n w) (_h':IntN j z w) (hne:i.neg≠j.neg):
 Calls Tryz.prog 52 #[iA i,iA j] w fun e w'=>e=.returned (.bool false)/\Below w.heap.size w w':=by
 have HE:=znd (lyII i j (Rests.pure trivial w _));have c:=Env.c2 HE.out;have dd:=Env.d2 HE.out;have he:(i.neg==j.neg)=false:=by simpa using hne
 clear _h _h' hne;unfold iA;go_enter Tryz.func52,Tryz.ntmps52;go_wp2_with fail;go_ret;exact⟨rfl,HE.out.bel⟩
set_option maxRecDepth 100000 in
theorem zxk (w:World) (i j:IV) (z y:Int) (n:Nat) (hn:n<=17592186044416) (h:IntD i y n w) (h':IntN j z w) (hne:i.neg=j.neg) (B:Bool) (hB:∀l,i.k=l.length->Rd w .u64 i.A l->decide (l=digs B64 z.natAbs)=B):
 Calls Tryz.prog 52 #[iA i,iA j] w fun e w'=>e=.returned (.bool B)/\Below w.heap.size w w':=by
 obtain⟨l,hk,hrd,-,-⟩:=h.ex;have hB2:=hB l hk hrd;have hln:l.length<=17592186044416:=by have:=h.le;omega
 have hjk:=h'.k;have HE:=znd (lyII i j (((zam hrd (fun k hk=>hrd.lt k hk))).and ((zam h'.rd (fun k hk=>h'.rd.lt k hk)))));have c:=Env.c2 HE.out;have dd:=Env.d2 HE.out;have KE:=znd (fun(V:World) (h1:Rd V .u64 i.A l) (h2:Rd V .u64 j.A (digs B64 z.natAbs))=>(show Calls Tryz.prog 53 #[.slice i.A i.k i.c,.slice j.A j.k j.c] V fun e w'=>e=.returned (.bool B)/\Below V.heap.size V w' from by rw[hk,hjk,<-hB2];exact ziU V _ _ _ _ _ _ hln h1 h2));have he:(i.neg==j.neg)=true:=by rw[hne];simp
 clear h h' hB hrd hk hjk hB2 hne;unfold iA;go_enter Tryz.func52,Tryz.ntmps52;go_wp2_with fail;refine(KE.out _ HE.out.o.1 HE.out.o.2).mono ?_;rintro e w1 ⟨rfl,hb⟩;replace HE:=znd (Env.call HE.out hb);clear hb;go_wp2_with fail;go_ret;exact⟨rfl,HE.out.bel⟩
theorem zwH (w:World) (i j:IV) (z y:Int) (n:Nat) (hn:n<=17592186044416) (h:IntD i y n w) (h':IntN j z w):Calls Tryz.prog 52 #[iA i,iA j] w fun e w'=>(∃B,e=.returned (.bool B)/\(B=true↔IntN i z w))/\Below w.heap.size w w':=by
 by_cases hne:i.neg=j.neg
 ·obtain⟨l,hk,hrd,hx,hz⟩:=h.ex;have key:(l=digs B64 z.natAbs)↔IntN i z w:=by
   constructor
   ·intro e;refine⟨by rw[hk,e],h.cap,by rw[hne];exact h'.neg,by rw[<-e];exact hrd⟩
   ·intro hi;have h1:l.length=(digs B64 z.natAbs).length:=by rw[<-hk];exact hi.k
    exact zdT _ _ h1 fun t ht=>by
     have c1:=hrd.cell t ht;have c2:=hi.rd.cell t (by omega);rw[c1]at c2;have c3:((nth l t:Nat):Int)=((nth (digs B64 z.natAbs) t:Nat):Int):=by simpa using c2
     omega
  refine(zxk w i j z y n hn h h' hne (decide (l=digs B64 z.natAbs)) (fun l' hk' hrd'=>?_)).mono ?_
  ·have:l'=l:=zdT _ _ (by omega) fun t ht=>by
    have c1:=hrd'.cell t ht;have c2:=hrd.cell t (by omega);rw[c1]at c2;have c3:((nth l' t:Nat):Int)=((nth l t:Nat):Int):=by simpa using c2
    omega
   rw[this]
  ·rintro e w' ⟨rfl,hb⟩;exact⟨⟨_,rfl,by rw[decide_eq_true_eq];exact key⟩,hb⟩
 ·refine(zxq w i j z y n hn h h' hne).mono ?_;rintro e w' ⟨rfl,hb⟩;refine⟨⟨false,rfl,fun h0=>absurd h0 (by decide),fun hi=>?_⟩,hb⟩;exact absurd (hi.neg.trans h'.neg.symm) hne
set_option maxRecDepth 100000 in
theorem zwy (w:World) (n:Nat) (hn:n<=400000000000) (h1n:1<=n) (A:Option Addr) (c:Nat) (l:List (RV×Rat)) (h:LsR 4 rtcells (roD n) A l w) (hl:l.length<=1000000) (hT:Tz w) (k:Nat) (hk:k=l.length):
 Calls Tryz.prog 30 #[.slice A k c] w fun e w'=>zaR (∀p∈l,exP w p) e/\Below w.heap.size w w':=by
 subst hk;have sl1:=h.sl;have hsz2:=zal;have hadd:=zaa;have Ho:=znd ((h.old zbQ).and hT.old);have HD:=znd (show∀p∈l,RatD p.1 p.2 n w from h.ok);have Hb:=znd (Below.refl w.heap.size w);clear h hT;go_enter Tryz.func30,Tryz.ntmps30;go_wp2_with fail;go_loopw [9] (fun iv wr=>∃i:Nat,iv=.int .i64 (i:Int)/\i<=l.length/\Hid (∀v∈l.take i,exP w v)/\Hid (Below w.heap.size w wr)) (fun iv _=>l.length-(intOf iv).toNat)
 case atStart=>exact⟨0,rfl,Nat.zero_le _,znd (by simp),Hb⟩
 case round=>
  clear Hb;obtain⟨i,rfl,hi,HP,Hb⟩:=hrel;by_cases hlt:i<l.length
  ·have H0:=(Ho.out.below Hb.out).now;obtain⟨v,hv⟩:∃v,v=l[i]:=⟨_,rfl⟩;have hm:v∈l:=by rw[hv];exact List.getElem_mem hlt
   obtain⟨x,d,hx,hd,-⟩:=(show RatD v.1 v.2 n wr from H0.1.ok v hm).ex;have HE:=znd (Env.start ((LsR.old zbQ H0.1).and (H0.2.old.and (hx.old.and hd.old))));have c0:=HE.out.o.1.rc i hlt;rw[<-hv]at c0;have Hm:=znd hm;have Hv:=znd hv;have HX:=znd hx;have HY:=znd hd;have HV:=znd (RatD.same (q':=v.2) (HD.out v hm) Hb.out);clear hv hm H0 hx hd;go_upto_region 5 with fail;obtain⟨W2,gt,hW2,hgt,HE⟩:=Env.al HE.out 55 (cR v.1);rw[hW2,hgt];clear hW2 hgt c0;have cb:=Env.c1 HE.out;go_wp2_with fail;refine(zaG _ v.1 v.2 n (by omega) h1n (HE.out.o.1.ok v Hm.out) HE.out.o.2.1).mono ?_;rintro e w3 ⟨r,rfl,hk9,hb9⟩;replace HE:=znd (Env.ret HE.out hk9 hb9);clear hk9 hb9 cb;go_upto_region 6 with fail;obtain⟨W4,g4,hW4,hg4,HE⟩:=Env.al HE.out 55 (cR r);rw[hW4,hg4];clear hW4 hg4;have cc:=Env.c2 HE.out;go_wp2_with fail;refine(zwH _ v.1.num r.num v.2.num x n (by omega) HE.out.o.2.2.1 HE.out.n.1.num).mono ?_;rintro e w5 ⟨⟨B1,rfl,hB1⟩,hb9⟩;have H1:=znd (hB1.trans (HX.out.same HE.out.bel));replace HE:=znd (Env.call HE.out hb9);replace cc:=Env.c2 HE.out;clear hB1 hb9
   cases B1
   ·go_wp2_with fail;go_ret;exact⟨za7 false ⟨fun h0=>absurd h0 (by decide),fun hr=>absurd (H1.out.2 (HV.out.2 (hr v Hm.out)).num) (by simp)⟩,Below.after Hb.out HE.out.bel⟩
   ·go_wp2_with fail;refine(zwH _ v.1.den r.den (dn v.2) d n (by omega) HE.out.o.2.2.2 HE.out.n.1.den).mono ?_;rintro e w6 ⟨⟨B2,rfl,hB2⟩,hb9⟩;have H2:=znd (hB2.trans (HY.out.same HE.out.bel));replace HE:=znd (Env.call HE.out hb9);clear hB2 hb9 cc
    cases B2
    ·go_wp2_with fail;go_ret;exact⟨za7 false ⟨fun h0=>absurd h0 (by decide),fun hr=>absurd (H2.out.2 (HV.out.2 (hr v Hm.out)).den) (by simp)⟩,Below.after Hb.out HE.out.bel⟩
    ·go_wp2_with fail;go_roundw
     case rel=>exact⟨i+1,by go_num,by omega,znd (zoC HP.out hlt (by rw[<-Hv.out];exact HV.out.1 ⟨H1.out.1 (by simp),H2.out.1 (by simp)⟩)),znd (Below.after Hb.out HE.out.bel)⟩
     case measure=>(simp[intOf]<;>omega)
  ·obtain rfl:i=l.length:=by omega
   have HP2:=znd (show∀v∈l,exP w v by have:=HP.out;rwa [List.take_length]at this);go_wp2_with fail;go_ret;exact⟨za7 true ⟨fun _=>HP2.out,fun _=>rfl⟩,Hb.out⟩
theorem zxR {w:World} {l:LaV} {N:Int} (h:Fits w l N) (hs:LaS l) (hN:0<=N/\N<=256):ShL l:=by
 have pz:zoF l->∀z∈[l.ch,l.high,l.wide,l.out,l.kh,l.kw,l.st,l.pad],I64 z:=fun p z hz=>by
  obtain⟨-,h1,h2,h3,h4,h5,h6,h7,h8⟩:=p;rw[h1,h2,h3,h4,h5,h6,h7,h8]at hz;simp only[List.mem_cons,List.not_mem_nil,or_false,or_self]at hz;rw[hz];unfold I64;omega
 rcases h with⟨k,h⟩|⟨k,h⟩|⟨k,p,r,b,g⟩|⟨k,h⟩
 ·exact⟨hs,.inl k,fun _=>h.b,fun v hv t ht=>by have:=(h.er v hv).rng t ht;unfold I64;omega,pz h.p,by rw[h.g];simp⟩
 ·refine⟨hs,.inr (.inl k),fun e=>by omega,by rw[h.e.1];simp,fun z hz=>?_,by rw[h.e.2];simp⟩;have h1:=h.s;have h2:=h.pad;unfold side at h1;simp only[List.mem_cons,List.not_mem_nil,or_false]at hz;unfold I64;omega
 ·exact⟨hs,.inr (.inr (.inl k)),fun e=>by omega,by rw[r];simp,pz p,by rw[g];simp⟩
 ·exact⟨hs,.inr (.inr (.inr k)),fun e=>by omega,by rw[h.r.1];simp,pz h.p,fun g hg z hz=>by have:=(h.eg g hg).2.1 z hz;unfold I64;omega⟩
theorem zxP {w:World}:∀{ls:List LaV} {N s:Int},ChkP w ls N s 0->(∀l∈ls,LaS l)->0<=N/\N<=256->∀l∈ls,ShL l
 |[],_,_,_,_,_=>by simp
 |l::ls,N,s,h,hs,hN=>by
  have hl:=hs l (List.mem_cons_self ..);rcases h with⟨-,h2⟩|⟨h1,⟨-,h3⟩|⟨h2,h3⟩⟩
  ·omega
  ·omega
  ·have hb:=(zva h1 hl hN).1;intro x hx;rcases List.mem_cons.1 hx with rfl|hx
   ·exact zxR h1 hl hN
   ·exact zxP h3 (fun y hy=>hs y (List.mem_cons_of_mem _ hy)) ⟨hb.1,by omega⟩ x hx
theorem zxC {w:World} {f:NeV} (h:NetP w f 0) (hs:NeS f):(∀l∈f.las,ShL l)/\I64 f.inputs:=by
 rcases h with⟨-,h⟩|⟨hz,h⟩
 ·omega
 ·exact⟨zxP h hs.la ⟨by have:=hz.1;omega,by have:=hz.2.1;omega⟩,by have:=hz.1;have:=hz.2.1;unfold I64;omega⟩
def shT (e:Int) (t:List UInt8):List UInt8×Int:=if e=0 then wiT t else([],e)
def NTx (f:NeV) (w:World) (e:Ending):Prop:=∃err,NetP w f err/\e=ret2 (shT err (netS f.inputs (f.las.map LaG.q)))
theorem NTx.uniq {f:NeV} {w:World} {e e':Ending} (h:NTx f w e) (h':NTx f w e'):e=e':=by
 obtain⟨a,h1,rfl⟩:=h;obtain⟨b,h2,rfl⟩:=h';rw[h1.uniq h2]
set_option maxRecDepth 100000 in
theorem zwj (w:World) (n:Nat) (hn:n<=1048576) (h1n:1<=n) (f:NeV) (h:NeD n f w) (hs:NeS f) (hL:NetP w f 0->(netS f.inputs (f.las.map LaG.q)).length<=35184372088832) (hT:Tz w) (ht:Tab w) (nl:Nat) (hnl:nl=f.las.length):Calls Tryz.prog 10 #[.agg #[.int .i64 f.inputs,.slice f.A nl f.c]] w fun e w'=>NTx f w e/\Below w.heap.size w w':=by
 have Hs:=znd hs;have Hl:=znd hnl;have HL:=znd hL;obtain⟨W0,hW0⟩:∃W0,W0=(w.alloc (.cells #[.int .i64 f.inputs,.slice f.A nl f.c] 24)):=⟨_,rfl⟩;have HE:=znd (Env.lay1 (Env.start ((h.old).and ((hT.old).and ((ht.old).and ((NeD.iffR h)))))) hW0);subst hW0;have c:=Env.c1 HE.out;clear h hs hT ht hnl hL;go_enter Tryz.func10,Tryz.ntmps10;go_wp2_with fail;refine(zxF _ n (by omega) h1n f HE.out.o.1 Hs.out HE.out.o.2.1 nl Hl.out).mono ?_;rintro e w1 ⟨⟨err,rfl,hN⟩,hb9⟩;have HN:=znd ((HE.out.o.2.2.2 err).1 hN);replace HE:=znd (Env.call HE.out hb9);replace c:=Env.c1 HE.out;clear hN hb9;by_cases h0:err=0
 ·subst h0;have HF:=znd (zxC HN.out Hs.out);go_wp2_with fail;refine(zxJ _ n hn h1n f (HE.out.wd.o.1) HF.out.1 Hs.out.n HF.out.2 (HL.out HN.out) (HE.out.wd.o.2.1) (HE.out.wd.o.2.2.1) nl Hl.out).mono ?_;rintro e w2 ⟨rfl,hb9⟩;replace HE:=znd (Env.cx HE.out hb9);clear hb9 c;go_wp2_with fail;refine(zwx _ _ (by have:=HL.out HN.out;omega)).mono ?_;rintro e w3 ⟨rfl,rfl⟩;obtain⟨p,hp⟩:∃p,p=wiT (netS f.inputs (f.las.map LaG.q)):=⟨_,rfl⟩;have HP:=znd hp;rw[<-hp];clear hp;unfold ret2;go_wp2_with fail;go_ret2;exact⟨⟨0,HN.out,by rw[shT,if_pos rfl,<-HP.out];rfl⟩,by exact HE.out.wd.bel⟩
 ·have H0:=znd h0;have h1:(err != 0)=true:=by simp[h0]
  clear h0;go_wp2_with fail;go_ret2;exact⟨⟨err,HN.out,by rw[shT,if_neg H0.out];rfl⟩,HE.out.bel⟩
def QOk (q:QuV) (w:World):Prop:=((∀p∈q.x0,exP w p)/\(∀p∈q.lo,exP w p)/\∀p∈q.hi,exP w p)/\(q.norm=1\/q.norm=2)/\0<=q.label/\q.label<=65535
def QTx (q:QuV) (w:World) (e:Ending):Prop:=(QOk q w/\e=ret2 (wiT (quS q.q)))\/(¬QOk q w/\e=ret2 ([],22))
theorem QTx.uniq {q:QuV} {w:World} {e e':Ending} (h:QTx q w e) (h':QTx q w e'):e=e':=by
 rcases h with⟨a,rfl⟩|⟨a,rfl⟩<;>rcases h' with⟨b,rfl⟩|⟨b,rfl⟩
 ·rfl
 ·exact absurd a b
 ·exact absurd b a
 ·rfl
theorem exL {n:Nat} {A:Option Addr} {ps:List (RV×Rat)} {w W:World} (h:LsR 4 rtcells (roD n) A ps w) (hb:Below w.heap.size w W):(∀p∈ps,exP W p)↔∀p∈ps,exP w p:=
 ⟨fun hh p hp=>(RatD.same (h.ok p hp) hb).1 (hh p hp),fun hh p hp=>(RatD.same (h.ok p hp) hb).2 (hh p hp)⟩
set_option maxRecDepth 100000 in
theorem zwd (w:World) (n:Nat) (hn:n<=1048576) (h1n:1<=n) (q:QuV) (h:QuD n q w) (hs:QuS q) (hL:QOk q w->(quS q.q).length<=35184372088832) (hT:Tz w) (ht:Tab w) (n0 n1 n2:Nat) (HQ:Hid (LenQ q n0 n1 n2)):Calls Tryz.prog 12 #[.agg #[.slice q.A0 n0 q.c0,.int .i64 q.label,.slice q.A1 n1 q.c1,.slice q.A2 n2 q.c2,.int .u8 q.norm]] w fun e w'=>QTx q w e/\Below w.heap.size w w':=by
 have HW:=znd h;have Hs:=znd hs;have HL:=znd hL;have Hn0:=znd HQ.out.x;have Hn1:=znd HQ.out.l;have Hn2:=znd HQ.out.h;have HQ2:=znd HQ.out;obtain⟨W0,hW0⟩:∃W0,W0=(w.alloc (.cells #[.slice q.A0 n0 q.c0,.int .i64 q.label,.slice q.A1 n1 q.c1,.slice q.A2 n2 q.c2,.int .u8 q.norm] 28)):=⟨_,rfl⟩;have HE:=znd (Env.lay1 (Env.start (((QuF.old zbQ h)).and ((hT.old).and (ht.old)))) hW0);subst hW0;have c:=Env.c1 HE.out;clear h hs hL hT ht HQ;go_enter Tryz.func12,Tryz.ntmps12;go_wp2_with fail;have HB9:=exL HW.out.x0 (HE.out.wd.bel);refine(zwy _ n (by omega) h1n q.A0 q.c0 q.x0 (HE.out.wd.o.1.x0) (by have:=Hs.out.x;omega) (HE.out.wd.o.2.1) n0 Hn0.out).mono ?_;rintro e w1 ⟨⟨B0,rfl,hB⟩,hb9⟩;replace HE:=znd (Env.cx HE.out hb9);have H0:=znd (hB.trans HB9);replace c:=Env.c1 HE.out;clear hB hb9 HB9
 cases B0
 ·go_wp2_with fail;go_ret2;exact⟨.inr ⟨fun h=>absurd (H0.out.2 h.1.1) (by simp),rfl⟩,by exact HE.out.wd.bel⟩
 ·go_wp2_with fail;have HB9:=exL HW.out.lo (HE.out.wd.bel);refine(zwy _ n (by omega) h1n q.A1 q.c1 q.lo (HE.out.wd.o.1.lo) (by have:=Hs.out.l;omega) (HE.out.wd.o.2.1) n1 Hn1.out).mono ?_;rintro e w2 ⟨⟨B1,rfl,hB⟩,hb9⟩;replace HE:=znd (Env.cx HE.out hb9);have H1:=znd (hB.trans HB9);replace c:=Env.c1 HE.out;clear hB hb9 HB9
  cases B1
  ·go_wp2_with fail;go_ret2;exact⟨.inr ⟨fun h=>absurd (H1.out.2 h.1.2.1) (by simp),rfl⟩,by exact HE.out.wd.bel⟩
  ·go_wp2_with fail;have HB9:=exL HW.out.hi (HE.out.wd.bel);refine(zwy _ n (by omega) h1n q.A2 q.c2 q.hi (HE.out.wd.o.1.hi) (by have:=Hs.out.h;omega) (HE.out.wd.o.2.1) n2 Hn2.out).mono ?_;rintro e w3 ⟨⟨B2,rfl,hB⟩,hb9⟩;replace HE:=znd (Env.cx HE.out hb9);have H2:=znd (hB.trans HB9);replace c:=Env.c1 HE.out;clear hB hb9 HB9
   cases B2
   ·go_wp2_with fail;go_ret2;exact⟨.inr ⟨fun h=>absurd (H2.out.2 h.1.2.2) (by simp),rfl⟩,by exact HE.out.wd.bel⟩
   ·by_cases m1:q.norm=1\/q.norm=2
    ·by_cases m2:q.label<0
     ·have M2:=znd m2;have M1:=znd m1;have e1:((q.norm != 1)=true/\(q.norm != 2)=false)\/(q.norm != 1)=false:=by rcases m1 with h|h<;>rw[h]<;>simp
      clear m1;rcases e1 with⟨e1,e2⟩|e1
      ·go_wp2_with fail;go_ret2;exact⟨.inr ⟨fun h=>absurd h.2.2.1 (by have:=M2.out;omega),rfl⟩,by exact HE.out.wd.bel⟩
      ·go_wp2_with fail;go_ret2;exact⟨.inr ⟨fun h=>absurd h.2.2.1 (by have:=M2.out;omega),rfl⟩,by exact HE.out.wd.bel⟩
     ·by_cases m3:q.label>65535
      ·have M2:=znd m2;have M3:=znd m3;have M1:=znd m1;have e1:((q.norm != 1)=true/\(q.norm != 2)=false)\/(q.norm != 1)=false:=by rcases m1 with h|h<;>rw[h]<;>simp
       clear m1;rcases e1 with⟨e1,e2⟩|e1
       ·go_wp2_with fail;go_ret2;exact⟨.inr ⟨fun h=>absurd h.2.2.2 (by have:=M3.out;omega),rfl⟩,by exact HE.out.wd.bel⟩
       ·go_wp2_with fail;go_ret2;exact⟨.inr ⟨fun h=>absurd h.2.2.2 (by have:=M3.out;omega),rfl⟩,by exact HE.out.wd.bel⟩
      ·have M2:=znd m2;have M3:=znd m3;have M1:=znd m1;have e1:((q.norm != 1)=true/\(q.norm != 2)=false)\/(q.norm != 1)=false:=by rcases m1 with h|h<;>rw[h]<;>simp
       clear m1;rcases e1 with⟨e1,e2⟩|e1
       rotate_left
       rotate_left
       all_goals
        have HK:=znd (show QOk q w from⟨⟨H0.out.1 (by simp),H1.out.1 (by simp),H2.out.1 (by simp)⟩,M1.out,by have:=M2.out;omega,by have:=M3.out;omega⟩);go_wp2_with fail;refine(zwW _ n hn h1n q (HE.out.wd.o.1) Hs.out (by have:=HK.out.2.2;unfold I64;omega) (HL.out HK.out) (HE.out.wd.o.2.1) (HE.out.wd.o.2.2) n0 n1 n2 (znd HQ2.out)).mono ?_;rintro e w8 ⟨rfl,hb9⟩;replace HE:=znd (Env.cx HE.out hb9);clear hb9 c;go_wp2_with fail;refine(zwx _ _ (by have:=HL.out HK.out;omega)).mono ?_;rintro e w9 ⟨rfl,rfl⟩;obtain⟨p,hp⟩:∃p,p=wiT (quS q.q):=⟨_,rfl⟩;have HP:=znd hp;rw[<-hp];clear hp;unfold ret2;go_wp2_with fail;go_ret2;exact⟨.inl ⟨HK.out,by rw[<-HP.out];rfl⟩,by exact HE.out.wd.bel⟩
    ·have M1:=znd m1;have e1:(q.norm != 1)=true:=by simp;omega
     have e2:(q.norm != 2)=true:=by simp;omega
     clear m1;go_wp2_with fail;go_ret2;exact⟨.inr ⟨fun h=>absurd h.2.1 M1.out,rfl⟩,by exact HE.out.wd.bel⟩

def zx0 (f:NeV):Int:=((zqB f.las f.inputs).getLast?).getD 0
def zx9 (f:NeV) (q:QuV) (w:World):Prop:=
 (((q.x0.length:Int)=f.inputs/\∀p∈q.x0,exP w p)/\((q.lo.length:Int)=f.inputs/\∀p∈q.lo,exP w p)/\((q.hi.length:Int)=f.inputs/\∀p∈q.hi,exP w p))/\(q.norm=1\/q.norm=2)
def QBox (q:QuV):Prop:=∀i (h:i<q.lo.length) (h':i<q.hi.length),(q.lo[i]).2<=(q.hi[i]).2
def zyT (f:NeV) (q:QuV):Prop:=0<=q.label/\q.label<zx0 f
def QryP (w:World) (f:NeV) (q:QuV) (e:Int):Prop:=
 (NetP w f e/\e≠0)\/(NetP w f 0/\((¬zx9 f q w/\e=22)\/(zx9 f q w/\((¬QBox q/\e=23)\/(QBox q/\((¬zyT f q/\e=24)\/(zyT f q/\e=0)))))))
theorem QryP.uniq {w:World} {f:NeV} {q:QuV} {e e':Int} (h:QryP w f q e) (h':QryP w f q e'):e=e':=by
 have k:∀x:Int,NetP w f x->x≠0->NetP w f 0->False:=fun x a b c=>b (a.uniq c);rcases h with⟨a,b⟩|⟨a,h⟩<;>rcases h' with⟨c,d⟩|⟨c,h'⟩
 ·exact a.uniq c
 ·exact(k e a b c).elim
 ·exact(k e' c d a).elim
 ·rcases h with⟨h1,h2⟩|⟨h1,⟨h2,h3⟩|⟨h2,⟨h3,h4⟩|⟨h3,h4⟩⟩⟩<;>rcases h' with⟨k1,k2⟩|⟨k1,⟨k2,k3⟩|⟨k2,⟨k3,k4⟩|⟨k3,k4⟩⟩⟩<;>first|omega|exact absurd k1 h1|exact absurd h1 k1|exact absurd k2 h2|exact absurd h2 k2|exact absurd k3 h3|exact absurd h3 k3
def QErr (f:NeV) (q:QuV) (w:World) (e:Ending):Prop:=∃err,e=.returned (.int .i64 err)/\QryP w f q err
set_option maxRecDepth 100000 in
theorem zy7 (w:World) (n:Nat) (hn:n<=400000000000) (h1n:1<=n) (r:RV) (q:Rat) (h:RatD r q n w) (hT:Tz w):
 Calls Tryz.prog 61 #[rA r] w fun e w'=>zaR (RatN r q w) e/\Below w.heap.size w w':=by
 have HE:=znd (lyR r (((RatD.old h)).and (hT.old)));have c:=Env.c1 HE.out;have HR:=znd h;clear h hT;unfold rA;go_enter Tryz.func61,Tryz.ntmps61;go_wp2_with fail;refine(zqA _ r q n hn h1n HE.out.o.1 HE.out.o.2).mono ?_;rintro e w1 ⟨⟨B,rfl,hB⟩,hb⟩;have HB:=znd (hB.trans (RatD.same HR.out HE.out.bel));replace HE:=znd (Env.call HE.out hb);clear hb hB;go_wp2_with fail;exact bodyPost_ret (v:=.bool B) (by simp[results,Tryz.results61,go_sem]) rfl ⟨za7 B HB.out,HE.out.bel⟩
set_option maxRecDepth 100000 in
theorem zxZ (w:World) (n:Nat) (hn:n<=400000000000) (h1n:1<=n) (A:Option Addr) (c:Nat) (l:List (RV×Rat)) (h:LsR 4 rtcells (roD n) A l w) (hl:l.length<=1000000) (hT:Tz w) (k:Nat) (hk:k=l.length):
 Calls Tryz.prog 60 #[.slice A k c,.func (.func 61) #[] #[]] w fun e w'=>zaR (∀p∈l,exP w p) e/\Below w.heap.size w w':=by
 subst hk;have sl1:=h.sl;have hsz2:=zal;have hadd:=zaa;have Ho:=znd ((h.old zbQ).and hT.old);have HD:=znd (show∀p∈l,RatD p.1 p.2 n w from h.ok);have Hb:=znd (Below.refl w.heap.size w);clear h hT;go_enter Tryz.func60,Tryz.ntmps60;go_wp2_with fail;go_loopw [9] (fun iv wr=>∃i:Nat,iv=.int .i64 (i:Int)/\i<=l.length/\Hid (∀v∈l.take i,exP w v)/\Hid (Below w.heap.size w wr)) (fun iv _=>l.length-(intOf iv).toNat)
 case atStart=>exact⟨0,rfl,Nat.zero_le _,znd (by simp),Hb⟩
 case round=>
  clear Hb;obtain⟨i,rfl,hi,HP,Hb⟩:=hrel;by_cases hlt:i<l.length
  ·have HE:=znd (Env.start ((LsR.old zbQ (Ho.out.below Hb.out).now.1).and (Ho.out.below Hb.out).now.2.old));have c0:=HE.out.o.1.rc i hlt;obtain⟨v,hv⟩:∃v,v=l[i]:=⟨_,rfl⟩;rw[<-hv]at c0;have Hm:=znd (show v∈l by rw[hv];exact List.getElem_mem hlt);have Hv:=znd hv;clear hv;go_upto_region 4 with fail;obtain⟨W2,gt,hW2,hgt,HE⟩:=Env.al HE.out 55 (cR v.1);rw[hW2,hgt];clear hW2 hgt c0;have cb:=Env.c1 HE.out;go_wp2_with fail;refine(zy7 _ n hn h1n v.1 v.2 (HE.out.o.1.ok v Hm.out) HE.out.o.2).mono ?_;rintro e w3 ⟨⟨B,rfl,hB⟩,hb⟩;have HB:=znd (hB.trans (RatD.same (HD.out v Hm.out) (Below.after Hb.out HE.out.bel)));replace HE:=znd (Env.call HE.out hb);clear hb hB cb
   cases B
   ·go_wp2_with fail;go_ret;exact⟨za7 false ⟨fun h0=>absurd h0 (by decide),fun hr=>absurd (HB.out.2 (hr v Hm.out)) (by simp)⟩,Below.after Hb.out HE.out.bel⟩
   ·go_wp2_with fail;go_roundw
    case rel=>exact⟨i+1,by go_num,by omega,znd (zoC HP.out hlt (by rw[<-Hv.out];exact HB.out.1 (by simp))),znd (Below.after Hb.out HE.out.bel)⟩
    case measure=>(simp[intOf]<;>omega)
  ·obtain rfl:i=l.length:=by omega
   have HP2:=znd (show∀v∈l,exP w v by have:=HP.out;rwa [List.take_length]at this);go_wp2_with fail;go_ret;exact⟨za7 true ⟨fun _=>HP2.out,fun _=>rfl⟩,Hb.out⟩
set_option maxRecDepth 100000 in
theorem zyc (w:World) (n:Nat) (hn:n<=400000000000) (h1n:1<=n) (A:Option Addr) (c:Nat) (l:List (RV×Rat)) (h:LsR 4 rtcells (roD n) A l w) (hl:l.length<=1000000) (hT:Tz w) (g:Nat) (m:Int) (v:Value) (hb:Blk w g 24 #[.int .i64 m,v]) (k:Nat) (hk:k=l.length):
 Calls Tryz.prog 59 #[.slice A k c,.pointer (some ⟨g,0,none⟩)] w fun e w'=>zaR ((l.length:Int)=m/\∀p∈l,exP w p) e/\Below w.heap.size w w':=by
 have c0:=hb.cb;have Hk:=znd hk;clear hb hk;by_cases hm:(k:Int)=m
 ·have e1:((k:Int)==m)=true:=by simp[hm]
  have Hm:=znd hm;clear hm;go_enter Tryz.func59,Tryz.ntmps59;go_wp2_with fail;refine(zxZ _ n hn h1n A c l h hl hT k Hk.out).mono ?_;rintro e w1 ⟨⟨B,rfl,hB⟩,hb9⟩;have HB:=znd hB;clear hB;go_wp2_with fail;go_ret;exact⟨za7 B (by rw[HB.out];exact⟨fun x=>⟨by rw[<-Hk.out];exact Hm.out,x⟩,fun x=>x.2⟩),hb9⟩
 ·have e1:((k:Int)==m)=false:=by simp[hm]
  have Hm:=znd hm;clear hm;go_enter Tryz.func59,Tryz.ntmps59;go_wp2_with fail;go_ret;exact⟨za7 false ⟨fun x=>absurd x (by decide),fun x=>absurd x.1 (by rw[<-Hk.out];exact Hm.out)⟩,Below.refl _ _⟩
structure RlV where
 A:Option Addr
 c:Nat
 l:List (RV×Rat)
def zxM (v:RlV):Array Value:=#[.slice v.A v.l.length v.c]
theorem zyy (w:World):(sizeOf (Tryz.prog.elem 105)).run Tryz.prog w=.ok 1 w:=by kernel_rfl
set_option maxRecDepth 100000 in
theorem zy0 (w:World) (n:Nat) (hn:n<=400000000000) (h1n:1<=n) (A:Option Addr) (c:Nat) (rs:List RlV) (h:LsR 1 zxM (fun v W=>LsR 4 rtcells (roD n) v.A v.l W) A rs w) (hl:∀v∈rs,v.l.length<=1000000) (hr:rs.length<=1000000) (hT:Tz w) (g:Nat) (m:Int) (v:Value) (hb:Blk w g 24 #[.int .i64 m,v]) (k:Nat) (hk:k=rs.length):
 Calls Tryz.prog 63 #[.slice A k c,.func (.func 59) #[] #[.pointer (some ⟨g,0,none⟩)]] w fun e w'=>zaR (∀x∈rs,(x.l.length:Int)=m/\∀p∈x.l,exP w p) e/\Below w.heap.size w w':=by
 subst hk;have sl1:=h.sl;have hsz2:=zyy;have hadd:=zaa;have Ho:=znd ((h.old fun v W h=>LsR.old zbQ h).and (hT.old.and (show Rests w (·<w.heap.size) (fun V=>Blk V g 24 #[.int .i64 m,v])from⟨hb,fun w' hw=>(hw g hb.lt hb.lt).trans hb⟩)));have HD:=znd (show∀x∈rs,LsR 4 rtcells (roD n) x.A x.l w from h.ok);have Hb:=znd (Below.refl w.heap.size w);have Hl:=znd hl;clear h hT hb hl;go_enter Tryz.func63,Tryz.ntmps63;go_wp2_with fail;go_loopw [9] (fun iv wr=>∃i:Nat,iv=.int .i64 (i:Int)/\i<=rs.length/\Hid (∀x∈rs.take i,(x.l.length:Int)=m/\∀p∈x.l,exP w p)/\Hid (Below w.heap.size w wr)) (fun iv _=>rs.length-(intOf iv).toNat)
 case atStart=>exact⟨0,rfl,Nat.zero_le _,znd (by simp),Hb⟩
 case round=>
  clear Hb;obtain⟨i,rfl,hi,HP,Hb⟩:=hrel;by_cases hlt:i<rs.length
  ·have H0:=(Ho.out.below Hb.out).now;have HO:=znd H0;have c0:=H0.1.cell i hlt 0 (by decide);obtain⟨x,hx⟩:∃x,x=rs[i]:=⟨_,rfl⟩;rw[<-hx,Nat.mul_one,Nat.add_zero]at c0;have Hm:=znd (show x∈rs by rw[hx];exact List.getElem_mem hlt);have Hv:=znd hx;have c1:wr.cell? (adr A i)=some (.slice x.A x.l.length x.c):=c0;clear hx H0 c0;go_wp2_with fail;refine(zyc _ n hn h1n x.A x.c x.l (HO.out.1.ok x Hm.out) (Hl.out x Hm.out) HO.out.2.1 g m v HO.out.2.2 _ rfl).mono ?_;rintro e w3 ⟨⟨B,rfl,hB⟩,hb⟩;have HB:=znd (hB.trans (and_congr_right fun _=>exL (HD.out x Hm.out) Hb.out));replace Hb:=znd (Below.after Hb.out hb);clear hb hB c1
   cases B
   ·go_wp2_with fail;go_ret;exact⟨za7 false ⟨fun h0=>absurd h0 (by decide),fun hr=>absurd (HB.out.2 (hr x Hm.out)) (by simp)⟩,Hb.out⟩
   ·go_wp2_with fail;go_roundw
    case rel=>exact⟨i+1,by go_num,by omega,znd (zoC HP.out hlt (by rw[<-Hv.out];exact HB.out.1 (by simp))),Hb⟩
    case measure=>(simp[intOf]<;>omega)
  ·obtain rfl:i=rs.length:=by omega
   have HP2:=znd (show∀x∈rs,(x.l.length:Int)=m/\∀p∈x.l,exP w p by have:=HP.out;rwa [List.take_length]at this);go_wp2_with fail;go_ret;exact⟨za7 true ⟨fun _=>HP2.out,fun _=>rfl⟩,Hb.out⟩
theorem zwi:∀(ls:List LaV) (n:Int),(zqB ls n).length=ls.length+1
 |[],_=>rfl
 |l::ls,n=>by rw[zqB,List.length_cons,zwi ls,List.length_cons]
theorem zwo (ls:List LaV) (n:Int):0<(zqB ls n).length:=by rw[zwi];omega
theorem zwK {a b:Rat}:cmpQ a b>0↔b<a:=by
 unfold cmpQ;by_cases h:a<b
 ·rw[if_pos h];exact⟨fun h0=>absurd h0 (by decide),fun h0=>absurd h (Rat.not_lt.2 (Rat.le_of_lt h0))⟩
 ·rw[if_neg h];by_cases h2:a=b
  ·rw[if_pos h2];exact⟨fun h0=>absurd h0 (by decide),fun h0=>absurd h2 (Rat.ne_of_gt h0)⟩
  ·rw[if_neg h2];exact⟨fun _=>Rat.lt_of_le_of_ne (Rat.not_lt.1 h) (Ne.symm h2),fun _=>by decide⟩
theorem rl3 {n:Nat} {w:World} {g:Nat} {q:QuV} (h:Blk w g 25 #[.slice q.A0 q.x0.length q.c0,.slice q.A1 q.lo.length q.c1,.slice q.A2 q.hi.length q.c2]) (hq:QuD n q w):LsR 1 zxM (fun v W=>LsR 4 rtcells (roD n) v.A v.l W) (some ⟨g,0,none⟩) [⟨q.A0,q.c0,q.x0⟩,⟨q.A1,q.c1,q.lo⟩,⟨q.A2,q.c2,q.hi⟩] w:=by
 refine⟨⟨Sl.some_ _ _ _,fun i hi=>?_,fun i hi j hj=>?_⟩,fun v hv=>?_⟩
 ·have:i<3:=hi;rcases(by omega:i=0\/i=1\/i=2)with rfl|rfl|rfl<;>rfl
 ·have:i<3:=hi;obtain rfl:j=0:=by omega
  rcases(by omega:i=0\/i=1\/i=2)with rfl|rfl|rfl<;>exact h.cell _
 ·simp only[List.mem_cons,List.not_mem_nil,or_false]at hv;rcases hv with rfl|rfl|rfl
  ·exact hq.x0
  ·exact hq.lo
  ·exact hq.hi
theorem zyq {P:RlV->Prop} {a b c:RlV}:(∀x∈[a,b,c],P x)↔P a/\P b/\P c:=by simp
set_option maxRecDepth 100000 in
theorem zyw (w:World) (n:Nat) (hn:n<=400000000000) (h1n:1<=n) (f:NeV) (h:NeD n f w) (hs:NeS f) (q:QuV) (hq:QuD n q w) (hqs:QuS q) (hT:Tz w) (nl:Nat) (hnl:nl=f.las.length) (n0 n1 n2:Nat) (HQ:Hid (LenQ q n0 n1 n2)):Calls Tryz.prog 34 #[.agg #[.int .i64 f.inputs,.slice f.A nl f.c],.agg #[.slice q.A0 n0 q.c0,.int .i64 q.label,.slice q.A1 n1 q.c1,.slice q.A2 n2 q.c2,.int .u8 q.norm]] w fun e w'=>QErr f q w e/\Below w.heap.size w w':=by
 have Hs:=znd hs;have Hl:=znd hnl;have HW:=znd hq;have Hqs:=znd hqs;have Hn0:=znd HQ.out.x;have Hn1:=znd HQ.out.l;have Hn2:=znd HQ.out.h;have hadd:=zaa;have hsz4:=zal;have hszi:=zcX;have s1:=hq.lo.sl;have s2:=hq.hi.sl;rw[<-Hn1.out]at s1;rw[<-Hn2.out]at s2;have hb0:n0<=100000:=by rw[Hn0.out];exact hqs.x
 have hb1:n1<=100000:=by rw[Hn1.out];exact hqs.l
 have hb2:n2<=100000:=by rw[Hn2.out];exact hqs.h
 obtain⟨W0,hW0⟩:∃W0,W0=((w.alloc (.cells #[.int .i64 f.inputs,.slice f.A nl f.c] 24)).alloc (.cells #[.slice q.A0 n0 q.c0,.int .i64 q.label,.slice q.A1 n1 q.c1,.slice q.A2 n2 q.c2,.int .u8 q.norm] 28)):=⟨_,rfl⟩;have HE:=znd (Env.lay2 (Env.start ((h.old).and (((QuF.old zbQ hq)).and ((hT.old).and ((NeD.iffR h)))))) hW0);subst hW0;have c:=Env.c2 HE.out;have dd:=Env.d2 HE.out;clear h hq hs hqs hT hnl HQ;go_enter Tryz.func34,Tryz.ntmps34;go_wp2_with fail;refine(zsJ _ n hn h1n f HE.out.o.1 Hs.out HE.out.o.2.2.1 nl Hl.out).mono ?_;rintro e w1 ⟨A,c1,us,err,rfl,hN,hu,-,-,hr9,hb9⟩;have HN:=znd ((HE.out.o.2.2.2 err).1 hN);have HU:=znd hu;replace HE:=znd (Env.ret HE.out hr9 hb9);replace c:=Env.c2 HE.out;clear hN hu hr9 hb9;by_cases h0:err=0
 ·subst h0;have hul:=HU.out rfl;have HUL:=znd hul;have Hub:=znd (show us.length<=100001 from by rw[hul,zwi];have:=Hs.out.n;omega);clear hul;go_upto_region 5 with fail;go_wp2_with fail;obtain⟨W3,gs,hW3,hgs,HE⟩:=Env.al HE.out 25 #[.slice q.A0 n0 q.c0,.slice q.A1 n1 q.c1,.slice q.A2 n2 q.c2];rw[hW3,hgs];clear hW3 hgs;replace c:=Env.c3 HE.out;have HB3:=HE.out.bx ⟨gs,25,#[.slice q.A0 n0 q.c0,.slice q.A1 n1 q.c1,.slice q.A2 n2 q.c2]⟩ (by simp);rw[Hn0.out,Hn1.out,Hn2.out]at HB3;have Hbn:=znd HB3;clear HB3;have Hbx:=znd (HE.out.bx ⟨w.heap.size,24,#[.int .i64 f.inputs,.slice f.A nl f.c]⟩ (by simp));have Hex:=znd (fun(V:World) (hV:Below w.heap.size w V)=>And.intro (exL (W:=V) HW.out.x0 hV) (And.intro (exL (W:=V) HW.out.lo hV) (exL (W:=V) HW.out.hi hV)));have HX9:=znd (Hex.out _ HE.out.bel);refine(zy0 _ n hn h1n (some ⟨gs,0,none⟩) 3 [⟨q.A0,q.c0,q.x0⟩,⟨q.A1,q.c1,q.lo⟩,⟨q.A2,q.c2,q.hi⟩] (rl3 Hbn.out HE.out.o.2.1) (by have:=Hqs.out.x;have:=Hqs.out.l;have:=Hqs.out.h;simp;omega) (show 3<=1000000 by decide) HE.out.o.2.2.1 w.heap.size f.inputs _ Hbx.out 3 rfl).mono ?_;rintro e w4 ⟨⟨B,rfl,hB⟩,hb9⟩;rw[zyq,HX9.out.1,HX9.out.2.1,HX9.out.2.2]at hB;have HB:=znd hB;replace HE:=znd (Env.call HE.out hb9);replace c:=Env.c3 HE.out;clear hB hb9 Hbn Hbx HX9
  cases B
  ·go_wp2_with fail;go_ret;exact⟨⟨22,rfl,.inr ⟨HN.out,.inl ⟨fun h=>absurd (HB.out.2 h.1) (by simp),rfl⟩⟩⟩,(by first|exact HE.out.wd.bel|exact Below.drewN HE.out.bel _)⟩
  ·by_cases m1:q.norm=1\/q.norm=2
   ·have HF:=znd (show zx9 f q w from⟨HB.out.1 (by simp),m1⟩);have e1:((q.norm != 1)=true/\(q.norm != 2)=false)\/(q.norm != 1)=false:=by rcases m1 with h|h<;>rw[h]<;>simp
    have hi0:f.inputs=(n1:Int)/\n2=n1:=by have:=HF.out.1;have:=Hn1.out;have:=Hn2.out;omega
    obtain⟨hi0,rfl⟩:=hi0;clear m1 HB;have HI:=znd hi0;clear hi0;rcases e1 with⟨e1,e2⟩|e1
    all_goals
     go_upto_region 8 with fail;have HE0:=znd HE.out;clear HE c;go_loopw [40] (fun iv wr=>∃i:Nat,iv=.int .i64 (i:Int)/\i<=n2/\Hid (∀j (h:j<q.lo.length) (h':j<q.hi.length),j<i->(q.lo[j]).2<=(q.hi[j]).2)/\Hid (Below w4.heap.size w4 wr)) (fun iv _=>n2-(intOf iv).toNat)
     case atStart=>exact⟨0,rfl,Nat.zero_le _,znd (fun j _ _ h=>absurd h (by omega)),znd (Below.refl _ _)⟩
     case round=>
      obtain⟨i,rfl,hi,HP,Hb⟩:=hrel;have HE:=znd (HE0.out.call Hb.out);have c:=Env.c3 HE.out;by_cases hlt:i<n2
      ·have hlt3:(i:Int)<f.inputs:=by rw[HI.out];omega
       have hl1:i<q.lo.length:=by rw[<-Hn1.out];exact hlt
       have hl2:i<q.hi.length:=by rw[<-Hn2.out];exact hlt
       obtain⟨v1,hv1⟩:∃v,v=q.lo[i]:=⟨_,rfl⟩;obtain⟨v2,hv2⟩:∃v,v=q.hi[i]:=⟨_,rfl⟩;have HC:=znd (fun(V:World) (c1:CB (w.heap.size+1) #[.slice q.A0 n0 q.c0,.int .i64 q.label,.slice q.A1 n2 q.c1,.slice q.A2 n2 q.c2,.int .u8 q.norm] V) (h:QuD n q V)=>(show CB (w.heap.size+1) #[.slice q.A0 n0 q.c0,.int .i64 q.label,.slice q.A1 n2 q.c1,.slice q.A2 n2 q.c2,.int .u8 q.norm] V/\(V.cell? (adr q.A1 (i*4))=some (.bool v1.1.num.neg)/\V.cell? (adr q.A1 (i*4+1))=some (.slice v1.1.num.A v1.1.num.k v1.1.num.c)/\V.cell? (adr q.A1 (i*4+2))=some (.bool v1.1.den.neg)/\V.cell? (adr q.A1 (i*4+3))=some (.slice v1.1.den.A v1.1.den.k v1.1.den.c))/\(V.cell? (adr q.A2 (i*4))=some (.bool v2.1.num.neg)/\V.cell? (adr q.A2 (i*4+1))=some (.slice v2.1.num.A v2.1.num.k v2.1.num.c)/\V.cell? (adr q.A2 (i*4+2))=some (.bool v2.1.den.neg)/\V.cell? (adr q.A2 (i*4+3))=some (.slice v2.1.den.A v2.1.den.k v2.1.den.c))from⟨c1,by have h9:=h.lo.rc i hl1;rw[<-hv1]at h9;exact h9,by have h9:=h.hi.rc i hl2;rw[<-hv2]at h9;exact h9⟩));have Hm1:=znd (show v1∈q.lo by rw[hv1];exact List.getElem_mem hl1);have Hm2:=znd (show v2∈q.hi by rw[hv2];exact List.getElem_mem hl2);have V1:=znd hv1;have V2:=znd hv2;have cS:=HC.out _ c.2.1 HE.out.o.2.1;clear hv1 hv2 c;obtain⟨z,hz⟩:∃z,z=cmpQ v1.2 v2.2:=⟨_,rfl⟩;have Hz:=znd hz;clear hz;go_upto_region 10 with fail
       go_region_held3 (fun W=>CB (w.heap.size+1) #[.slice q.A0 n0 q.c0,.int .i64 q.label,.slice q.A1 n2 q.c1,.slice q.A2 n2 q.c2,.int .u8 q.norm] W/\(W.cell? (adr q.A1 (i*4))=some (.bool v1.1.num.neg)/\W.cell? (adr q.A1 (i*4+1))=some (.slice v1.1.num.A v1.1.num.k v1.1.num.c)/\W.cell? (adr q.A1 (i*4+2))=some (.bool v1.1.den.neg)/\W.cell? (adr q.A1 (i*4+3))=some (.slice v1.1.den.A v1.1.den.k v1.1.den.c))/\(W.cell? (adr q.A2 (i*4))=some (.bool v2.1.num.neg)/\W.cell? (adr q.A2 (i*4+1))=some (.slice v2.1.num.A v2.1.num.k v2.1.num.c)/\W.cell? (adr q.A2 (i*4+2))=some (.bool v2.1.den.neg)/\W.cell? (adr q.A2 (i*4+3))=some (.slice v2.1.den.A v2.1.den.k v2.1.den.c))) (first|with_reducible exact cS|exact HC.out _ (Env.c3 HE.out.drew).2.1 HE.out.drew.o.2.1|go_keep)
        (first
         |(go_at_call 64;go_must (refine(zbb _ v1.1 v2.1 v1.2 v2.2 n hn h1n (HE.out.wd.o.2.1.lo.ok v1 Hm1.out) (HE.out.wd.o.2.1.hi.ok v2 Hm2.out)).mono ?_;rintro e w6 ⟨rfl,hb⟩;rw[<-Hz.out];replace HE:=znd (Env.cx HE.out hb);replace Hb:=znd (Below.after (by first|exact Hb.out|exact Hb.out.drew) hb);replace cS:=HC.out _ (Env.c3 HE.out).2.1 HE.out.o.2.1;clear hb)))
       by_cases hz:z>0
       ·have hg:=znd hz;go_wp2_with fail;go_ret;refine⟨⟨23,rfl,.inr ⟨HN.out,.inr ⟨HF.out,.inl ⟨fun hq=>?_,rfl⟩⟩⟩⟩,(by first|exact HE.out.wd.bel|exact Below.drewN HE.out.bel _)⟩;have h1:=hq i hl1 hl2;have h2:=Hz.out;rw[V1.out,V2.out]at h2;have h3:=hg.out;rw[h2,zwK]at h3;exact absurd h1 (Rat.not_le.2 h3)
       ·have hg:=znd hz;go_wp2_with fail;go_roundw
        case rel=>exact⟨i+1,by go_num,by omega,znd (fun j h h' hj=>by
         by_cases e:j=i
         ·subst e;have h2:=Hz.out;rw[V1.out,V2.out]at h2;have h3:=hg.out;rw[h2,zwK]at h3;exact Rat.not_lt.1 h3
         ·exact HP.out j h h' (by omega)),Hb⟩
        case measure=>(simp[intOf]<;>omega)
      ·obtain rfl:i=n2:=by omega
       have hlt3:¬(i:Int)<f.inputs:=by rw[HI.out];omega
       have HBx:=znd (show QBox q from fun j h h'=>HP.out j h h' (by rw[Hn1.out];exact h));obtain⟨m,hm⟩:∃m,us.length=m+1:=⟨us.length-1,by have:=zwo f.las f.inputs;rw[HUL.out];omega⟩;have hml:m<us.length:=by omega
       have hu0:=HE.out.n.1.sl;have cu:=HE.out.n.1.ic m hml;have Hlu:=znd (show zx0 f=us[m]from by unfold zx0;rw[<-HUL.out,List.getLast?_eq_getElem?,List.getElem?_eq_getElem (by omega)];simp[hm]);obtain⟨y,hy⟩:∃y,y=us[m]:=⟨_,rfl⟩;rw[<-hy]at cu Hlu;have Hm:=znd hm;obtain⟨nu,hnu⟩:∃nu,nu=us.length:=⟨_,rfl⟩;have hw1:IntKind.i64.wrap ((us.length:Int)-1)=(m:Int):=by have:=Hub.out;rw[IntKind.wrap_i64];omega
       clear hy hm;by_cases l0:q.label<0
       ·have L0:=znd l0;have d0:decide (q.label<0)=true:=by simp[l0]
        clear l0;go_wp2_with fail;go_quiet (fail);go_wp2_with fail;go_ret;exact⟨⟨24,rfl,.inr ⟨HN.out,.inr ⟨HF.out,.inr ⟨HBx.out,.inl ⟨fun h=>by have:=h.1;have:=L0.out;omega,rfl⟩⟩⟩⟩⟩,(by first|exact HE.out.wd.bel|exact Below.drewN HE.out.bel _)⟩
       ·by_cases l1:q.label≥y
        ·have L0:=znd l0;have L1:=znd l1;have d0:decide (q.label<0)=false:=by simp;omega
         have d1:decide (q.label≥y)=true:=by simp;omega
         clear l0 l1;go_wp2_with fail;go_quiet (fail);go_wp2_with fail;go_ret;exact⟨⟨24,rfl,.inr ⟨HN.out,.inr ⟨HF.out,.inr ⟨HBx.out,.inl ⟨fun h=>by have h1:=h.2;rw[Hlu.out]at h1;have:=L1.out;omega,rfl⟩⟩⟩⟩⟩,(by first|exact HE.out.wd.bel|exact Below.drewN HE.out.bel _)⟩
        ·have L0:=znd l0;have L1:=znd l1;have d0:decide (q.label<0)=false:=by simp;omega
         have d1:decide (q.label≥y)=false:=by simp;omega
         clear l0 l1;go_wp2_with fail;go_quiet (fail);go_wp2_with fail;go_ret;exact⟨⟨0,rfl,.inr ⟨HN.out,.inr ⟨HF.out,.inr ⟨HBx.out,.inr ⟨⟨by have:=L0.out;omega,by rw[Hlu.out];have:=L1.out;omega⟩,rfl⟩⟩⟩⟩⟩,(by first|exact HE.out.wd.bel|exact Below.drewN HE.out.bel _)⟩
   ·have e1:(q.norm != 1)=true:=by simp;omega
    have e2:(q.norm != 2)=true:=by simp;omega
    have M1:=znd m1;clear m1;go_wp2_with fail;go_ret;exact⟨⟨22,rfl,.inr ⟨HN.out,.inl ⟨fun h=>absurd h.2 M1.out,rfl⟩⟩⟩,(by first|exact HE.out.wd.bel|exact Below.drewN HE.out.bel _)⟩
 ·have H0:=znd h0;have h1:(err != 0)=true:=by simp[h0]
  clear h0;go_wp2_with fail;go_ret;exact⟨⟨err,rfl,.inl ⟨HN.out,H0.out⟩⟩,HE.out.bel⟩

def STx (f:NeV) (q:QuV) (w:World) (e:Ending):Prop:=∃err,QryP w f q err/\e=ret2 (shT err (netS f.inputs (f.las.map LaG.q)++quS q.q))
theorem STx.uniq {f:NeV} {q:QuV} {w:World} {e e':Ending} (h:STx f q w e) (h':STx f q w e'):e=e':=by
 obtain⟨a,h1,rfl⟩:=h;obtain⟨b,h2,rfl⟩:=h';rw[h1.uniq h2]
theorem QryP.net {w:World} {f:NeV} {q:QuV} (h:QryP w f q 0):NetP w f 0:=by
 rcases h with⟨-,h⟩|⟨h,-⟩
 ·exact absurd rfl h
 ·exact h
theorem zwQ {w:World}:∀{ls:List LaV} {N s:Int},ChkP w ls N s 0->N<=256->(((zqB ls N).getLast?).getD 0)<=256
 |[],_,_,_,h=>by simpa[zqB] using h
 |l::ls,N,s,h,_=>by
  rcases h with⟨-,h2⟩|⟨h1,⟨-,h3⟩|⟨h2,h3⟩⟩
  ·omega
  ·omega
  ·have h4:=zwQ h3 (by omega);have h5:=zwo ls (zoP l N);rw[zqB]
   match h6:zqB ls (zoP l N),h5 with
   |a::r,_=>rw[h6]at h4;rw[List.getLast?_cons_cons];exact h4
theorem zxU {w:World} {f:NeV} (h:NetP w f 0) (_hs:NeS f):zx0 f<=256:=by
 rcases h with⟨-,h⟩|⟨hz,h⟩
 ·omega
 ·exact zwQ h (by have:=hz.2.1;omega)
theorem QryP.lab {w:World} {f:NeV} {q:QuV} (h:QryP w f q 0) (hs:NeS f):I64 q.label/\(q.norm=1\/q.norm=2):=by
 rcases h with⟨-,h⟩|⟨h,⟨-,h2⟩|⟨h1,⟨-,h2⟩|⟨-,⟨-,h2⟩|⟨h3,-⟩⟩⟩⟩
 ·exact absurd rfl h
 ·omega
 ·omega
 ·omega
 ·refine⟨?_,h1.2⟩;have h4:=zxU h hs;unfold I64;have:=h3.1;have:=h3.2;omega
def QuI (w:World) (q:QuV) (V:World):Prop:=((∀p∈q.x0,exP V p)↔∀p∈q.x0,exP w p)/\((∀p∈q.lo,exP V p)↔∀p∈q.lo,exP w p)/\((∀p∈q.hi,exP V p)↔∀p∈q.hi,exP w p)
theorem QuD.same {n:Nat} {q:QuV} {w W:World} (h:QuD n q w) (hb:Below w.heap.size w W):QuI w q W:=⟨exL h.x0 hb,exL h.lo hb,exL h.hi hb⟩
theorem QryP.same {w V:World} {f:NeV} {q:QuV} (hn:∀e,NetP V f e↔NetP w f e) (hq:QuI w q V) (e:Int):QryP V f q e↔QryP w f q e:=by
 have h:zx9 f q V↔zx9 f q w:=by unfold zx9;rw[hq.1,hq.2.1,hq.2.2]
 unfold QryP;rw[hn,hn,h]
set_option maxRecDepth 100000 in
theorem zxc (w:World) (n:Nat) (hn:n<=1048576) (h1n:1<=n) (f:NeV) (h:NeD n f w) (hs:NeS f) (q:QuV) (hq:QuD n q w) (hqs:QuS q) (hL:QryP w f q 0->((netS f.inputs (f.las.map LaG.q))++(quS q.q)).length<=35184372088832) (hT:Tz w) (ht:Tab w) (nl:Nat) (hnl:nl=f.las.length) (n0 n1 n2:Nat) (HQ:Hid (LenQ q n0 n1 n2)):Calls Tryz.prog 14 #[.agg #[.int .i64 f.inputs,.slice f.A nl f.c,.slice q.A0 n0 q.c0,.int .i64 q.label,.slice q.A1 n1 q.c1,.slice q.A2 n2 q.c2,.int .u8 q.norm]] w fun e w'=>STx f q w e/\Below w.heap.size w w':=by
 have Hs:=znd hs;have Hqs:=znd hqs;have Hl:=znd hnl;have HL:=znd hL;have HW:=znd hq;obtain⟨W0,hW0⟩:∃W0,W0=(w.alloc (.cells #[.int .i64 f.inputs,.slice f.A nl f.c,.slice q.A0 n0 q.c0,.int .i64 q.label,.slice q.A1 n1 q.c1,.slice q.A2 n2 q.c2,.int .u8 q.norm] 40)):=⟨_,rfl⟩;have HE:=znd (Env.lay1 (Env.start ((h.old).and (((QuF.old zbQ hq)).and ((hT.old).and ((ht.old).and ((NeD.iffR h))))))) hW0);subst hW0;have c:=Env.c1 HE.out;clear h hs hq hqs hT ht hnl hL;go_enter Tryz.func14,Tryz.ntmps14;go_wp2_with fail;have HI:=znd (QryP.same HE.out.o.2.2.2.2 (HW.out.same HE.out.bel));refine(zyw _ n (by omega) h1n f HE.out.o.1 Hs.out q HE.out.o.2.1 Hqs.out HE.out.o.2.2.1 nl Hl.out n0 n1 n2 HQ).mono ?_;rintro e w1 ⟨⟨err,rfl,hN⟩,hb9⟩;have HN:=znd ((HI.out err).1 hN);replace HE:=znd (Env.call HE.out hb9);replace c:=Env.c1 HE.out;clear hN hb9 HI;by_cases h0:err=0
 ·subst h0;have HF:=znd (zxC HN.out.net Hs.out);have HLb:=znd (HN.out.lab Hs.out);obtain⟨tn,htn⟩:∃s,s=(netS f.inputs (f.las.map LaG.q)):=⟨_,rfl⟩;obtain⟨tq,htq⟩:∃s,s=(quS q.q):=⟨_,rfl⟩;have hl9:tn.length+tq.length<=35184372088832:=by have h9:=HL.out HN.out;rwa [<-htn,<-htq,List.length_append]at h9
  obtain⟨s,Es,hs9,cs⟩:=catM tn tq (by omega);have Htn:=znd htn;have Htq:=znd htq;clear htn htq;go_upto_region 4 with fail
  go_region_held3 (fun W=>CB w.heap.size #[.int .i64 f.inputs,.slice f.A nl f.c,.slice q.A0 n0 q.c0,.int .i64 q.label,.slice q.A1 n1 q.c1,.slice q.A2 n2 q.c2,.int .u8 q.norm] W) (first|with_reducible exact c|exact Env.c1 HE.out.drew|go_keep)
   (first
    |(go_at_call 27;go_must (refine(zxJ _ n hn h1n f (HE.out.wd.o.1) HF.out.1 Hs.out.n HF.out.2 (by rw[<-Htn.out];omega) (HE.out.wd.o.2.2.1) (HE.out.wd.o.2.2.2.1) nl Hl.out).mono ?_;rintro e w2 ⟨rfl,hb⟩;rw[<-Htn.out];replace HE:=znd (Env.cx HE.out hb);replace c:=Env.c1 HE.out;clear hb))
    |(go_at_call 31;go_must (refine(zwW _ n hn h1n q (HE.out.wd.o.2.1) Hqs.out HLb.out.1 (by rw[<-Htq.out];omega) (HE.out.wd.o.2.2.1) (HE.out.wd.o.2.2.2.1) n0 n1 n2 HQ).mono ?_;rintro e w3 ⟨rfl,hb⟩;rw[<-Htq.out];replace HE:=znd (Env.cx HE.out hb);replace c:=Env.c1 HE.out;clear hb))
    |(go_at_call 26;go_must (refine(zwx _ s (by omega)).mono ?_;rintro e w4 ⟨rfl,rfl⟩;obtain⟨p,hp⟩:∃p,p=wiT s:=⟨_,rfl⟩;have HP:=znd hp;rw[<-hp];clear hp;unfold ret2)))
  go_wp2_with fail;go_ret2;exact⟨⟨0,HN.out,by rw[shT,if_pos rfl,<-Htn.out,<-Htq.out,<-Es.out,<-HP.out];rfl⟩,(HE.out.wd.bel)⟩
 ·have H0:=znd h0;have h1:(err != 0)=true:=by simp[h0]
  clear h0;go_wp2_with fail;go_ret2;exact⟨⟨err,HN.out,by rw[shT,if_neg H0.out];rfl⟩,HE.out.bel⟩
end Go.Proofs.YtegfiemlnnpidaaGreatDoor
