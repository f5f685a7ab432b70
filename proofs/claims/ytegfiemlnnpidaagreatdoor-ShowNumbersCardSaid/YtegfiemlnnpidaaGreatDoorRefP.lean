/-
 tripwireref03.Text. tripwireref03.Parse.
-/
import Derived.Test.YtegfiemlnnpidaaGreatDoorRefE
import Derived.Test.YtegfiemlnnpidaaGreatDoorBackM
import Derived.Deep.DeepMust
import Derived.Deep.DeepCutAuto
namespace Go.Proofs.YtegfiemlnnpidaaGreatDoor
set_option maxHeartbeats 4000000
open Go.RowKit

theorem zu2 (s:ByteArray):(s.extract 1 s.size).data.toList=s.data.toList.drop 1:=by
 rw[ByteArray.data_extract];simp[List.extract];exact List.take_of_length_le (by simp)
theorem zqm (s:ByteArray) (h:0<s.size):s.data.toList=s[0]::s.data.toList.drop 1:=by
 have h':0<s.data.toList.length:=by simpa using h
 have:=List.getElem_cons_drop h';rw[List.drop_zero]at this;exact this.symm
structure CutP (s body:ByteArray) (neg:Bool):Prop where
 pn:parseN s.data.toList=if numB body.data.toList neg=false then(11,false,0) else if 600<body.size then(3,false,0) else(0,neg,decVal body.data.toList)
 le:body.size<=s.size
theorem zuA {s:ByteArray} (h:0<s.size) (h0:s[0].toNat=45):CutP s (s.extract 1 s.size) true:=by
 have e:s.data.toList=45::s.data.toList.drop 1:=by
  rw[zqm s h];rw[show s[0]=45 from UInt8.toNat_inj.1 h0];rfl
 have e2:=zu2 s;have hsz:(s.extract 1 s.size).size=(s.data.toList.drop 1).length:=by rw[<-e2];simp
 refine⟨?_,by rw[hsz];simp⟩;unfold parseN;rw[e,(ztF _).1,(ztF _).2,<-e2,hsz,<-e2]
theorem zuk {s:ByteArray} (h:s.size=0\/∃h:0<s.size,s[0].toNat≠45):CutP s s false:=by
 have e:Lib.hasPrefix s.data.toList [45]=false:=by
  rcases h with h|⟨h,h0⟩
  ·rw[List.eq_nil_of_length_eq_zero (show s.data.toList.length=0 by simpa using h)];rfl
  ·rw[zqm s h];have:s[0]≠45:=fun e=>h0 (by rw[e];rfl);have h2:((45:UInt8)==s[0])=false:=by simpa using fun e=>this e.symm
   simp only[Lib.hasPrefix,List.isPrefixOf,h2,Bool.false_and]
 refine⟨?_,Nat.le_refl _⟩;unfold parseN Lib.trimPrefix;rw[e];simp
def badL (l:List UInt8) (neg:Bool):Bool:=l.isEmpty||(l.headD 0==48&&decide (1<l.length))||(l==[48]&&neg)
theorem zuC {l:List UInt8} {neg:Bool} (h:badL l neg=true):numB l neg=false:=by
 unfold badL at h;unfold numB
 cases l with
 |nil=>rfl
 |cons a t=>
  simp at h⊢;intro hd h1;rcases h with⟨h4,h5⟩|⟨⟨h4,h5⟩,h6⟩
  ·exact⟨h4,fun h2=>by rw[h2]at h5;simp at h5⟩
  ·exact⟨h4,fun _=>h6⟩
theorem zvf {l:List UInt8} {neg:Bool} (h:badL l neg=false) (hd:∀c∈l,zph c=true):numB l neg=true:=by
 unfold badL at h;unfold numB
 cases l with
 |nil=>simp at h
 |cons a t=>
  have hall:(a::t).all zph=true:=List.all_eq_true.2 hd;rw[hall];simp at h⊢;by_cases ha:a=48
  ·right;subst ha;have ht:t=[]:=by simpa using h.1
   subst ht;simpa using h
  ·exact .inl ha
theorem zvu {b:ByteArray} {neg:Bool} {i:Nat} (h:i<b.size) (hd:zph b[i]≠true):numB b.data.toList neg=false:=by
 unfold numB;have:b.data.toList.all zph=false:=by
  rw[List.all_eq_false];exact⟨b[i],List.mem_iff_getElem.2 ⟨i,by simpa using h,rfl⟩,hd⟩
 rw[this];simp
theorem zv2 {b:ByteArray} (h:∀i,(h:i<b.size)->zph b[i]=true):∀c∈b.data.toList,zph c=true:=fun c hc=>by
 obtain⟨i,hi,rfl⟩:=List.mem_iff_getElem.1 hc;exact h i (by simpa using hi)

theorem zul {l:List UInt8} {neg:Bool} (h:numB l neg=true) (h0:decVal l=0):neg=false:=by
 have h1:=h;unfold numB at h1;simp only[Bool.and_eq_true,List.all_eq_true,Bool.or_eq_true,Bool.not_eq_true',List.isEmpty_eq_false_iff,bne_iff_ne,beq_iff_eq]at h1;obtain⟨⟨h2,h3⟩,h4⟩:=h1;have h5:=zvL l h3 h2 (h4.imp id (fun h=>h.1));rw[h0]at h5;have h6:l=[48]:=by rw[<-h5,Lib.decDigits_one (by decide)];rfl
 rw[h6]at h4;rcases h4 with h4|h4
 ·exact absurd rfl h4
 ·exact h4.2
theorem zu0 {neg:Bool} {v:Nat} (h:v=0->neg=false):sgn neg v=neg:=by
 unfold sgn
 split
 ·rw[h (by assumption)]
 ·rfl
structure RpInv (w wr:World) (v:Nat) (av:Value):Prop where
 own:∃A c,av=.slice A (digs B64 v).length c/\Rd wr .u64 A (digs B64 v)
 box:Blk wr w.heap.size 53 #[.bool false,.slice none 0 0]
 below:Below w.heap.size w wr

def zvE (s:ByteArray):Bool:=Lib.hasPrefix s.data.toList [45]

set_option maxRecDepth 100000 in
theorem zs7 (s:ByteArray) (w:World) (hs:s.size<=1048576):
 Calls Tryz.prog 154 #[.string s] w (zuK (parseN s.data.toList) w):=by
 go_enter Tryz.func154,Tryz.ntmps154;go_upto_region 2 with fail;go_cut [15] (fun cv wx=>∃b:Bool,cv=.bool b/\Hid (if b=true then∃h:0<s.size,s[0].toNat=45 else s.size=0\/∃h:0<s.size,s[0].toNat≠45)/\wx=w.alloc (.cells #[.bool false,.slice none 0 0] 53))
 case first=>
  by_cases h0:s.size=0
  ·go_wp2_with fail
   go_meet
   exact⟨false,rfl,znd (.inl h0),rfl⟩
  ·have hp:0<s.size:=by omega
   by_cases h45:s[0].toNat=45
   ·have H45:=znd h45;have ht:((s[0].toNat:Int)==45)=true:=by rw[h45];rfl
    clear h45 h0;go_wp2_with fail
    go_meet
    exact⟨true,rfl,znd ⟨hp,H45.out⟩,rfl⟩
   ·have H45:=znd h45;have ht:((s[0].toNat:Int)==45)=false:=by simp;omega
    clear h45 h0;go_wp2_with fail
    go_meet
    exact⟨false,rfl,znd (.inr ⟨hp,H45.out⟩),rfl⟩
 case rest=>
  obtain⟨b,rfl,hb,rfl⟩:=hcut;go_upto_if 15 with fail;go_cut [0,4] (fun sv nv wx=>∃(body:ByteArray) (neg:Bool),sv=.string body/\nv=.bool neg/\CutP s body neg/\wx=w.alloc (.cells #[.bool false,.slice none 0 0] 53))
  case first=>
   cases b
   ·have HC:=znd (zuk (s:=s) hb.out);clear hb;go_wp2_with fail
    go_meet
    exact⟨s,false,rfl,rfl,HC.out,rfl⟩
   ·obtain⟨hp,h45⟩:=hb.out;have HC:=znd (zuA hp h45);clear hb h45;go_wp2_with fail
    go_meet
    exact⟨_,true,rfl,rfl,HC.out,rfl⟩
  case rest=>
   clear hb;obtain⟨body,neg,rfl,rfl,hC,rfl⟩:=hcut;have HC:=znd hC;have hbs:body.size<=1048576:=by have:=hC.le;omega
   clear hC;go_upto_region 5 with fail;go_cut [37] (fun cv wx=>∃b:Bool,cv=.bool b/\Hid (badL body.data.toList neg=b)/\wx=w.alloc (.cells #[.bool false,.slice none 0 0] 53))
   case first=>
    have Hlen:=znd (show body.data.toList.length=body.size by simp);by_cases h0:body.size=0
    ·have HB:=znd (show badL body.data.toList neg=true from by
      have e:body.data.toList=[]:=List.eq_nil_of_length_eq_zero (by rw[Hlen.out];exact h0);rw[e];rfl)
     go_wp2_with fail
     go_meet
     exact⟨true,rfl,HB,rfl⟩
    ·have hp:0<body.size:=by omega
     have hz:((body.size:Int)==0)=false:=by simpa using h0
     have HT:=znd (zqm body hp);clear h0;by_cases h48:body[0].toNat=48
     ·have h48':body[0]=48:=UInt8.toNat_inj.1 h48;have ht:((body[0].toNat:Int)==48)=true:=by rw[h48];rfl
      by_cases h1:1<body.size
      ·have hd:decide ((1:Int)<(body.size:Int))=true:=by simp;omega
       have HB:=znd (show badL body.data.toList neg=true from by
        unfold badL;rw[Hlen.out,HT.out,h48'];simp[h1])
       clear h48 h48';go_wp2_with fail
       go_meet
       exact⟨true,rfl,HB,rfl⟩
      ·have hd:decide ((1:Int)<(body.size:Int))=false:=by simp;omega
       have he:body.data.toList=[48]:=by
        rw[HT.out,h48',List.eq_nil_of_length_eq_zero (show(body.data.toList.drop 1).length=0 by rw[List.length_drop,Hlen.out];omega)]
       obtain rfl:body=⟨#[48]⟩:=by
        cases body with|mk d=>exact congrArg ByteArray.mk (Array.toList_inj.1 he)
       clear h48 h48' h1;have HB:=znd (show badL [48] neg=neg from by cases neg<;>rfl);go_wp2_with fail
       go_meet
       exact⟨neg,rfl,HB,rfl⟩
     ·have ht:((body[0].toNat:Int)==48)=false:=by simp;omega
      have hn:body.toList≠[48]:=by
       rw[ByteArray.toList_eq,HT.out];intro e;injection e with e1 e2;exact h48 (by rw[e1];rfl)
      have hn2:(body.toList==[48])=false:=by simpa using hn
      have HB:=znd (show badL body.data.toList neg=false from by
       have h48':body[0]≠48:=fun e=>h48 (by rw[e];rfl);unfold badL;rw[<-ByteArray.toList_eq,hn2,ByteArray.toList_eq,HT.out];simp[h48'])
      clear h48;go_wp2_with fail
      go_meet
      exact⟨false,rfl,HB,rfl⟩
   case rest=>
    obtain⟨b,rfl,hb,rfl⟩:=hcut;have HBx:=znd (Blk.new w 53 #[.bool false,.slice none 0 0]);have hc0:(w.alloc (.cells #[.bool false,.slice none 0 0] 53)).cell? ⟨w.heap.size,0,none⟩=some (.bool false):=HBx.out.cell 0;have hc1:(w.alloc (.cells #[.bool false,.slice none 0 0] 53)).cell? ⟨w.heap.size,1,none⟩=some (.slice none 0 0):=HBx.out.cell 1;have hf0:(w.alloc (.cells #[.bool false,.slice none 0 0] 53)).frozen? ⟨w.heap.size,0,none⟩=false:=HBx.out.frozen 0;have hf1:(w.alloc (.cells #[.bool false,.slice none 0 0] 53)).frozen? ⟨w.heap.size,1,none⟩=false:=HBx.out.frozen 1;have Hbw:=znd (Below.of_alloc w (.cells #[.bool false,.slice none 0 0] 53));have hlw:w.heap.size<(w.alloc (.cells #[.bool false,.slice none 0 0] 53)).heap.size:=HBx.out.lt;generalize w.alloc (.cells #[.bool false,.slice none 0 0] 53)=w1 at*;have Hbad:=znd (fun(k:Nat) (hp:parseN s.data.toList=(k,false,0))=>(⟨none,0,by rw[hp];rfl,by rw[hp];exact Nat.le_refl _,by rw[hp];exact Rd.nil_ _ _,(Hbw.out.setCell (p:=⟨w.heap.size,0,none⟩) (Nat.le_refl _) (.bool false)).setCell (p:=⟨w.heap.size,1,none⟩) (Nat.le_refl _) (.slice none 0 0)⟩:zuK (parseN s.data.toList) w (.returned (.tuple #[.agg #[.bool false,.slice none 0 0],.int .i64 (k:Int)])) ((w1.setCell ⟨w.heap.size,0,none⟩ (.bool false)).setCell ⟨w.heap.size,1,none⟩ (.slice none 0 0))));have hB2:=(HBx.out.set_ 0 (.bool false)).set_ 1 (.slice none 0 0);have Hq0:=znd (hB2.cell 0);have Hq1:=znd (hB2.cell 1);clear hB2;have Hpn:=znd HC.out.pn;clear HC
    cases b
    ·go_wp2_with fail
     go_loop [5] (fun iv=>∃k:Nat,k<=body.size/\iv=.int .i64 k/\Hid (∀i,(h:i<body.size)->i<k->zph body[i]=true)) (fun iv=>body.size-(intOf iv).toNat)
     case atStart=>exact⟨0,Nat.zero_le _,rfl,znd (fun i _ h=>absurd h (Nat.not_lt_zero i))⟩
     case round=>
      obtain⟨k,hk,rfl,hall⟩:=hrel;by_cases hlt:k<body.size
      ·by_cases hd:zph body[k]=true
       ·have hd2:48<=body[k].toNat/\body[k].toNat<=57:=by simpa[zph] using hd
        have Hall:=znd (show∀i,(h:i<body.size)->i<k+1->zph body[i]=true from fun i h1 h2=>by
         by_cases e:i=k
         ·subst e;exact hd
         ·exact hall.out i h1 (by omega))
        obtain⟨hd3,hd4⟩:=hd2;have t1:¬(body[k].toNat:Int)<48:=by omega
        have t2:¬(57:Int)<(body[k].toNat:Int):=by omega
        clear hd hall;go_wp2_with fail
        go_round
        case rel=>exact⟨k+1,by omega,by go_num,Hall⟩
        case measure=>simp[intOf];omega
       ·have HP:=znd (show parseN s.data.toList=(11,false,0)from by rw[Hpn.out,if_pos (zvu hlt hd)]);have hd2:body[k].toNat<48\/57<body[k].toNat:=by
         have:¬(48<=body[k].toNat/\body[k].toNat<=57):=by simpa[zph] using hd
         omega
        clear hd hall Hpn hb;by_cases hl:body[k].toNat<48
        focus
         have t1:(body[k].toNat:Int)<48:=by omega
        rotate_left
        focus
         have t1:¬(body[k].toNat:Int)<48:=by omega
         have t2:(57:Int)<(body[k].toNat:Int):=by omega
        rotate_left
        all_goals
         clear hd2 hl;go_wp2_with fail;have HR:=Hbad.out 11 HP.out;have q0:=Hq0.out;have q1:=Hq1.out;clear hc0 hc1 hf0 hf1 Hq0 Hq1 Hbad;generalize ((w1.setCell ⟨w.heap.size,0,none⟩ (.bool false)).setCell ⟨w.heap.size,1,none⟩ (.slice none 0 0))=W at*;exact bodyPost_ret (v:=.tuple #[.agg #[.bool false,.slice none 0 0],.int .i64 11]) (by simp[results,Tryz.results154,go_sem,q0,q1]) rfl HR
      ·have Hdig:=znd (zv2 (b:=body) (fun i h=>hall.out i h (by omega)));have hnb:=zvf hb.out Hdig.out;rw[if_neg (by rw[hnb];simp)]at Hpn;have Hnb:=znd hnb;clear hall hb hnb;by_cases hlong:600<body.size
       ·have HP:=znd (show parseN s.data.toList=(3,false,0)from by rw[Hpn.out,if_pos hlong]);clear Hpn;have hl2:decide ((600:Int)<(body.size:Int))=true:=by simp;omega
        go_wp2_with fail;have HR:=Hbad.out 3 HP.out;have q0:=Hq0.out;have q1:=Hq1.out;clear hc0 hc1 hf0 hf1 Hq0 Hq1 Hbad;generalize ((w1.setCell ⟨w.heap.size,0,none⟩ (.bool false)).setCell ⟨w.heap.size,1,none⟩ (.slice none 0 0))=W at*;exact bodyPost_ret (v:=.tuple #[.agg #[.bool false,.slice none 0 0],.int .i64 3]) (by simp[results,Tryz.results154,go_sem,q0,q1]) rfl HR
       ·rw[if_neg hlong]at Hpn;have hl2:decide ((600:Int)<(body.size:Int))=false:=by simp;omega
        have hb600:body.size<=600:=by omega
        have HI0:=znd (show RpInv w w1 (decVal (body.data.toList.take 0)) (.slice none 0 0)from⟨⟨none,0,rfl,Rd.nil_ _ _⟩,HBx.out,Hbw.out⟩);clear hlong Hbad Hq0 Hq1 hc0 hc1 hf0 hf1;go_wp2_with fail;go_loopw [6,7] (fun av iv wr=>∃k:Nat,k<=body.size/\iv=.int .i64 k/\RpInv w wr (decVal (body.data.toList.take k)) av) (fun _ iv _=>body.size-(intOf iv).toNat)
        case atStart=>exact⟨0,Nat.zero_le _,rfl,HI0.out⟩
        case round=>
         clear HI0;obtain⟨k,hk,rfl,hI⟩:=hrel;obtain⟨A1,c1,rfl,hr1⟩:=hI.own;have Hbox:=znd hI.box;have Hbl:=znd hI.below;obtain⟨wo,rfl⟩:∃wo:World,wo=wr:=⟨_,rfl⟩;have Hlen:=znd (show body.data.toList.length=body.size by simp);have hv:∀j,j<=600->(digs B64 (decVal (body.data.toList.take j))).length<=100:=fun j hj=>by
          have h1:=zqU (body.data.toList.take j) (fun c hc=>Hdig.out c (List.mem_of_mem_take hc));have h2:(body.data.toList.take j).length<=6*100:=by rw[List.length_take];omega
          exact zp9 (Nat.lt_trans h1 (zte 100 (by decide) h2))
         by_cases hlt:k<body.size
         ·have hdv:decVal (body.data.toList.take (k+1))=decVal (body.data.toList.take k)*10+(body[k].toNat-48):=by
           rw[List.take_succ_eq_append_getElem (by rw[Hlen.out];exact hlt),zps,Nat.mul_comm];rfl
          have hd2:48<=body[k].toNat/\body[k].toNat<=57:=by
           have:=Hdig.out body[k] (List.mem_iff_getElem.2 ⟨k,by simpa using hlt,rfl⟩);simpa[zph] using this
          have hl1:=hv k (by omega);have hl2':(digs B64 (decVal (body.data.toList.take k)*10)).length<=101:=by
           apply zp9;have h1:=zdo (zbi (b:=B64) (by decide) (decVal (body.data.toList.take k)));rw[zar (by decide)]at h1;have h2:B64^(digs B64 (decVal (body.data.toList.take k))).length<=B64^100:=Nat.pow_le_pow_right za4 hl1;rw[Nat.pow_succ];exact Nat.mul_lt_mul'' (Nat.lt_of_lt_of_le h1 h2) (by decide)
          have Hdv:=znd hdv;clear hdv hv hI;generalize decVal (body.data.toList.take k)=v at*
          have HMul:=znd (fun(W:World) (B:Nat) (h1:Below wo.heap.size wo W) (h2:W.cell? ⟨B,0,none⟩=some (.int .u64 10))=>by
           have h:=ztj W A1 (some ⟨B,0,none⟩) c1 1 (digs B64 v) [10] (by omega) (by simp) (hr1.below h1 (Nat.le_refl _)) (zuI (x:=10) h2) (zbi (by decide) _) (zuJ (by decide));rw[zar (by decide),ztA]at h;exact h.mono (R':=fun e w1=>∃A1 c1,e=.returned (.slice A1 (digs B64 (v*10)).length c1)/\Hid (Rd w1 .u64 A1 (digs B64 (v*10))/\Below wo.heap.size wo w1/\Below W.heap.size W w1)) (fun e w1 ⟨A1,c1,he,_,hr,hb,_⟩=>⟨A1,c1,he,hr,h1.trans (hb.mono h1.size),hb⟩))
          have HAdd:=znd (fun(W:World) (A1:Option Addr) (c1 B:Nat) (h0:Below wo.heap.size wo W) (h1:Rd W .u64 A1 (digs B64 (v*10))) (h2:W.cell? ⟨B,0,none⟩=some (.int .u64 ((body[k].toNat-48:Nat):Int)))=>by
           have h:=zqS W A1 (some ⟨B,0,none⟩) c1 1 (digs B64 (v*10)) [body[k].toNat-48] (by omega) (by simp) h1 (zuI h2) (zbi (by decide) _) (zuJ (by simp only[B64];omega));rw[zar (by decide),ztA]at h;exact h.mono (R':=fun e w2=>∃A2 c2,e=.returned (.slice A2 (digs B64 (v*10+(body[k].toNat-48))).length c2)/\Hid (Rd w2 .u64 A2 (digs B64 (v*10+(body[k].toNat-48)))/\Below wo.heap.size wo w2)) (fun e w2 ⟨A2,c2,he,hc,hr,hb,hf⟩=>⟨A2,c2,he,hr,h0.trans (hb.mono h0.size)⟩))
          obtain⟨hd3,hd4⟩:=hd2;have e1:IntKind.u8.wrap ((body[k].toNat:Int)-48)=((body[k].toNat-48:Nat):Int):=by rw[IntKind.wrap_u8];omega
          have e2:IntKind.u64.wrap ((body[k].toNat-48:Nat):Int)=((body[k].toNat-48:Nat):Int):=by rw[IntKind.wrap_u64];omega
          have e3:(body[k].toNat:Int)-48=((body[k].toNat-48:Nat):Int):=by omega
          have e4:IntKind.u8.wrap ((body[k].toNat-48:Nat):Int)=((body[k].toNat-48:Nat):Int):=by rw[IntKind.wrap_u8];omega
          clear hr1 hl1 hl2';go_wp2_with fail
          go_region_held3 (fun _=>True) (exact trivial)
           (first
            |(go_at_call 152;go_must (refine(HMul.out _ _ (by repeat(first|exact Below.refl _ _|apply Below.drew|refine Below.alloc ?_ (by simp) _)) (by simp[World.cell?_alloc_new])).mono ?_;rintro e w1 ⟨A1,c1,rfl,H1⟩))
            |(go_at_call 193;go_must (refine(HAdd.out _ _ _ _ (by repeat(first|exact H1.out.2.1|apply Below.drew|refine Below.alloc ?_ (by have:=H1.out.2.1.size;simp<;>omega) _)) (by repeat(first|exact H1.out.1|apply Rd.alloc|apply Rd.drew)) (by first|(simp[World.cell?_alloc_new];done)|(rw[H1.out.2.2.cell (by simp<;>omega)];simp;done))).mono ?_;rintro e w2 ⟨A2,c2,rfl,H2⟩)))
          all_goals
           go_wp2_with fail;go_roundw
           case rel=>exact⟨k+1,by omega,by go_num,⟨by rw[Hdv.out];exact⟨_,_,rfl,H2.out.1⟩,Hbox.out.below H2.out.2 Hbox.out.lt,Hbl.out.trans (H2.out.2.mono Hbl.out.size)⟩⟩
           case measure=>simp[intOf];omega
         ·have hkk:k=body.size:=by omega
          have hl1:=hv k (by omega);have hdk:decVal (body.data.toList.take k)=decVal body.data.toList:=by rw[hkk,<-Hlen.out,List.take_length]
          rw[hdk]at hr1 hl1⊢;have HSg:=zul Hnb.out;clear hI hv hdk hkk;generalize decVal body.data.toList=D at*;have Hmk:=znd (zrc wo neg A1 c1 (digs B64 D) (by omega) hr1 (zbi (by decide) _));rw[zar (by decide),zu0 HSg]at Hmk;clear hr1 hl1 HSg;go_wp2_with fail;refine Hmk.out.mono ?_;rintro e w3 ⟨A3,c3,rfl,k2,k3,hb3,k4⟩;have hB3:=Hbox.out.below hb3 Hbox.out.lt;have hlo:w.heap.size<wo.heap.size:=Hbox.out.lt;have Hb3:=znd (Hbl.out.trans (hb3.mono Hbl.out.size));have p0:w3.cell? ⟨w.heap.size,0,none⟩=some (.bool false):=hB3.cell 0;have p1:w3.cell? ⟨w.heap.size,1,none⟩=some (.slice none 0 0):=hB3.cell 1;have p2:w3.frozen? ⟨w.heap.size,0,none⟩=false:=hB3.frozen 0;have p3:w3.frozen? ⟨w.heap.size,1,none⟩=false:=hB3.frozen 1;have HB3:=znd hB3;have K2:=znd k2;have K3:=znd k3;have K4:=znd k4;clear hB3 k2 k3 k4 hb3 Hmk;go_wp2_with fail;have hB4:=(HB3.out.set_ 0 (.bool neg)).set_ 1 (.slice A3 (digs B64 D).length c3);have hb4:=(Hb3.out.setCell (p:=⟨w.heap.size,0,none⟩) (Nat.le_refl _) (.bool neg)).setCell (p:=⟨w.heap.size,1,none⟩) (Nat.le_refl _) (.slice A3 (digs B64 D).length c3);have hr4:Rd ((w3.setCell ⟨w.heap.size,0,none⟩ (.bool neg)).setCell ⟨w.heap.size,1,none⟩ (.slice A3 (digs B64 D).length c3)) .u64 A3 (digs B64 D):=by
           refine⟨K3.out.sl,fun i hi=>?_⟩;have hh:=K4.out i hi;rw[World.cell?_setCell_other _ _ _ _ (fun e=>by rw[<-e]at hh;simp at hh;omega),World.cell?_setCell_other _ _ _ _ (fun e=>by rw[<-e]at hh;simp at hh;omega)];exact K3.out.cell i hi
          clear p0 p1 p2 p3;generalize ((w3.setCell ⟨w.heap.size,0,none⟩ (.bool neg)).setCell ⟨w.heap.size,1,none⟩ (.slice A3 (digs B64 D).length c3))=W at*;have q0:W.cell? ⟨w.heap.size,0,none⟩=some (.bool neg):=hB4.cell 0;have q1:W.cell? ⟨w.heap.size,1,none⟩=some (.slice A3 (digs B64 D).length c3):=hB4.cell 1;refine bodyPost_ret (v:=.tuple #[.agg #[.bool neg,.slice A3 (digs B64 D).length c3],.int .i64 0]) (by simp[results,Tryz.results154,go_sem,q0,q1]) rfl ?_;rw[Hpn.out];exact⟨A3,c3,rfl,K2.out,hr4,hb4⟩
    ·have HP:=znd (show parseN s.data.toList=(11,false,0)from by rw[Hpn.out,if_pos (zuC hb.out)]);clear Hpn hb;go_wp2_with fail;have HR:=Hbad.out 11 HP.out;have q0:=Hq0.out;have q1:=Hq1.out;clear hc0 hc1 hf0 hf1 Hq0 Hq1 Hbad;generalize ((w1.setCell ⟨w.heap.size,0,none⟩ (.bool false)).setCell ⟨w.heap.size,1,none⟩ (.slice none 0 0))=W at*;exact bodyPost_ret (v:=.tuple #[.agg #[.bool false,.slice none 0 0],.int .i64 11]) (by simp[results,Tryz.results154,go_sem,q0,q1]) rfl HR
end Go.Proofs.YtegfiemlnnpidaaGreatDoor
