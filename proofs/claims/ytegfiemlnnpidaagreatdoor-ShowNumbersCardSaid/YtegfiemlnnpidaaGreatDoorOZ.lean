/-
 tripwirelaw12.ShowNumbers. What ShowNumbers' row over the three tables asks: the table of powers of ten out of the row's list, the world of the witness, the last step of a row whose law tells true and leaves its arguments. ShowNumbers returns true, whatever the input; no conditions: the row and its card.
-/
import Derived.Test.YtegfiemlnnpidaaGreatDoorOU
import Derived.Test.YtegfiemlnnpidaaGreatDoorCards
import Derived.Test.YtegfiemlnnpidaaGreatDoorTie
import Derived.Deep.Slices
import Derived.Lib.SmallJoins
import Derived.WalkKit
import Derived.ProofKit
import Derived.OpenShut
import Derived.Deep.DeepHandedRow
import Derived.Lib.LaidTab
import Derived.Stop.LaidErr
import Derived.Carry
import Derived.ChangeMaps5
namespace Go.Proofs.YtegfiemlnnpidaaGreatDoor
set_option maxHeartbeats 8000000
open Go.RowKit

def onS:List UInt8:=[110,101,116,32,52,32,123,32,99,111,110,118,32,91,49,32,50,32,50,93,32,91,49,32,50,32,50,93,32,115,116,114,105,100,101,32,49,32,112,97,100,32,49,32,107,101,114,110,101,108,32,91,49,32,48,32,48,32,45,49,47,50,93,32,98,105,97,115,32,91,51,93,32,112,111,111,108,32,123,32,91,48,32,49,93,32,91,56,93,32,125,32,97,102,102,105,110,101,32,123,32,114,111,119,32,49,32,91,48,58,32,49,44,32,49,58,32,45,50,47,51,93,32,125,32,125,32,113,117,101,114,121,32,123,32,97,116,32,91,48,32,48,32,48,32,49,47,55,93,32,108,97,98,101,108,32,48,32,108,111,32,91,48,32,48,32,48,32,48,93,32,104,105,32,91,49,32,49,32,49,32,49,93,32,110,111,114,109,32,115,117,109,32,125]
def onW:List UInt8:=[110,101,116,32,52,32,123,10,32,32,99,111,110,118,32,91,49,32,50,32,50,93,32,91,49,32,50,32,50,93,32,115,116,114,105,100,101,32,49,32,112,97,100,32,49,32,107,101,114,110,101,108,32,91,49,32,48,32,48,32,45,49,47,50,93,32,98,105,97,115,32,91,51,93,10,32,32,112,111,111,108,32,123,10,32,32,32,32,91,48,32,49,93,10,32,32,32,32,91,56,93,10,32,32,125,10,32,32,97,102,102,105,110,101,32,123,10,32,32,32,32,114,111,119,32,49,32,91,48,58,32,49,44,32,49,58,32,45,50,47,51,93,10,32,32,125,10,125,10,113,117,101,114,121,32,123,32,97,116,32,91,48,32,48,32,48,32,49,47,55,93,32,108,97,98,101,108,32,48,32,108,111,32,91,48,32,48,32,48,32,48,93,32,104,105,32,91,49,32,49,32,49,32,49,93,32,110,111,114,109,32,115,117,109,32,125,10]
set_option maxRecDepth 100000 in
theorem zyg:(zdR parseR onS).1=0/\txB (txT onS) (txN onS) (txQ onS)=true/\netS (txN onS).1 (txN onS).2++quS (txQ onS)=onW/\onW.length<=262144:=by decide+kernel
theorem zyk {V:World} {g:Nat} {e:TypeId} {c:Array Value} (h:Blk V g e c):El V c.size (some ⟨g,0,none⟩) [c]:=by
 refine⟨Sl.some_ _ _ _,fun i hi=>?_,fun i hi j hj=>?_⟩
 ·have:i=0:=by simpa using hi
  subst this;rfl
 ·have:i=0:=by simpa using hi
  subst this;rw[za6,Nat.zero_mul,Nat.zero_add,Nat.zero_add];exact h.cell j
def quN (A:Option Addr) (c:Nat) (l:List (RV×Rat)) (lb nm:Int):QuV:=⟨none,0,[],lb,A,c,l,none,0,[],nm⟩
theorem zxi {n:Nat} {A:Option Addr} {c:Nat} {l:List (RV×Rat)} {lb nm:Int} {V:World} (h:LsR 4 rtcells (roD n) A l V):QuD n (quN A c l lb nm) V:=⟨LsR.nil_ _,h,LsR.nil_ _⟩
def la9:LaV:=⟨9,none,0,[],none,0,[],0,0,0,0,0,0,0,0,none,0,[],none,0,[]⟩
theorem zyW (n:Nat) (V:World):LaD n la9 V:=⟨LsR.nil_ _,LsR.nil_ _,LsR.nil_ _,LsR.nil_ _⟩
theorem zyK (V:World) (A:Option Addr):NetP V ⟨1,A,1,[la9]⟩ 22:=.inr ⟨⟨(by decide:(1:Int)<=1),(by decide:(1:Int)<=64),(by decide:1<=16)⟩,.inl ⟨by
 rintro(⟨h,-⟩|⟨h,-⟩|⟨h,-⟩|⟨h,-⟩)<;>exact absurd h (by decide),rfl⟩⟩
def rt1 (g:Nat):RV×Rat:=(⟨⟨false,none,0,0⟩,⟨false,some ⟨g,0,none⟩,1,1⟩⟩,0)
theorem zyX {g:Nat} {V:World} (h:Blk V g 50 #[.int .u64 1]):roD 1 (rt1 g) V:=by
 refine⟨⟨0,1,⟨⟨[],rfl,Rd.nil_ _ _,by simp,(by decide:iv false (val B64 [])=0)⟩,(by decide:0<=0),(by decide:0<=1)⟩,⟨⟨[1],rfl,⟨Sl.some_ _ _ _,fun i hi=>?_⟩,by decide,(by decide:iv false (val B64 [1])=1)⟩,(by decide:1<=1),(by decide:1<=1)⟩,(by decide:(0:Rat)=if 1=0 then Rat.divInt 0 1 else Rat.divInt 0 1)⟩⟩;have:i=0:=by simpa using hi
 subst this;exact h.cell 0
theorem zyl {g:Nat} {V:World}:¬exP V (rt1 g):=fun h=>by
 have h1:=(dn_k h).2 rfl;exact absurd h1 (by decide:¬1=0)
set_option maxRecDepth 100000 in
theorem zwC (w:World) (hT:Tz w) (ht:Tab w):Calls Tryz.prog 4 #[] w fun e w'=>e=.returned (.bool true)/\Below w.heap.size w w':=by
 have HE:=znd (Env.start (hT.old.and ht.old));clear hT ht;go_enter Tryz.func4,Tryz.ntmps4;go_wp2_with fail;refine(zwX (bA onS) (bA onW) (txT onS) (txN onS) (txQ onS) (by rw[show(bA onS).data.toList=onS by simp[bA]];exact zxN zyg.1 zyg.2.1) (by rw[show(bA onW).data.toList=onW by simp[bA]];exact zyg.2.2.1) (by rw[show(bA onW).data.toList=onW by simp[bA]];exact zyg.2.2.2) _ HE.out.o.1 HE.out.o.2).mono ?_;rintro e w1 ⟨rfl,hb⟩;replace HE:=znd (Env.call HE.out hb);clear hb;go_wp2_with fail;refine(zwj _ 1 (by decide) (by decide) (⟨0,none,0,[]⟩:NeV) (LsR.nil_ _) ⟨by decide,by simp⟩ (fun _=>by decide+kernel) HE.out.o.1 HE.out.o.2 0 rfl).mono ?_;rintro e w2 ⟨⟨err,hN,rfl⟩,hb⟩;obtain rfl:err=25:=hN.uniq (.inl ⟨fun h=>absurd h.1 (by decide),rfl⟩);replace HE:=znd (Env.call HE.out hb);clear hN hb;rw[show∀t,ret2 (shT 25 t)=.returned (.tuple #[.string (bA []),.int .i64 25])from fun _=>rfl];have hsz9:=zpP;obtain⟨W3,g,hW,hg,HE⟩:=Env.al HE.out 49 #[.int .u8 9,.slice none 0 0,.slice none 0 0,.int .i64 0,.int .i64 0,.int .i64 0,.int .i64 0,.int .i64 0,.int .i64 0,.int .i64 0,.int .i64 0,.slice none 0 0,.slice none 0 0];go_wp2_with fail;clear hW hg;have HE9:=znd (show LsR 13 zw8 (LaD 1) (some ⟨g,0,none⟩) [la9] _ from⟨zyk (HE.out.bx _ (List.mem_singleton_self _)),fun l hl=>by rw[List.mem_singleton.1 hl];exact zyW _ _⟩);refine(zwj _ 1 (by decide) (by decide) (⟨1,some ⟨g,0,none⟩,1,[la9]⟩:NeV) HE9.out ⟨(by decide:1<=100000),fun l hl=>by rw[List.mem_singleton.1 hl];exact⟨by decide,by simp[la9],by decide,by decide,by decide,by simp[la9]⟩⟩ (fun h=>absurd (h.uniq (zyK _ _)) (by decide)) HE.out.o.1 HE.out.o.2 1 rfl).mono ?_;rintro e w4 ⟨⟨err,hN,rfl⟩,hb⟩;obtain rfl:err=22:=hN.uniq (zyK _ _);replace HE:=znd (Env.call HE.out hb);clear hN hb HE9;rw[show∀t,ret2 (shT 22 t)=.returned (.tuple #[.string (bA []),.int .i64 22])from fun _=>rfl];go_wp2_with fail;refine(zwd _ 1 (by decide) (by decide) (quN none 0 [] (0) 1) (zxi (LsR.nil_ _)) ⟨by decide,by decide,by decide⟩ (fun h=>by decide+kernel) HE.out.o.1 HE.out.o.2 0 0 0 (znd ⟨rfl,rfl,rfl⟩)).mono ?_;rintro e w14 ⟨hq,hb⟩;obtain rfl:=hq.uniq (.inl ⟨⟨⟨by simp[quN],by simp[quN],by simp[quN]⟩,.inl rfl,by decide,by decide⟩,rfl⟩);replace HE:=znd (Env.call HE.out hb);clear hq hb;rw[show ret2 (wiT (quS ((quN none 0 [] (0) 1):QuV).q))=.returned (.tuple #[.string ⟨#[113,117,101,114,121,32,123,32,97,116,32,91,93,32,108,97,98,101,108,32,48,32,108,111,32,91,93,32,104,105,32,91,93,32,110,111,114,109,32,115,117,109,32,125,10]⟩,.int .i64 0]) by unfold ret2;rw[show wiT (quS ((quN none 0 [] (0) 1):QuV).q)=([113,117,101,114,121,32,123,32,97,116,32,91,93,32,108,97,98,101,108,32,48,32,108,111,32,91,93,32,104,105,32,91,93,32,110,111,114,109,32,115,117,109,32,125,10],0) by decide+kernel];rfl];go_wp2_with fail;refine(zwd _ 1 (by decide) (by decide) (quN none 0 [] (0) 0) (zxi (LsR.nil_ _)) ⟨by decide,by decide,by decide⟩ (fun h=>absurd h.2.1 (by decide)) HE.out.o.1 HE.out.o.2 0 0 0 (znd ⟨rfl,rfl,rfl⟩)).mono ?_;rintro e w15 ⟨hq,hb⟩;obtain rfl:=hq.uniq (.inr ⟨fun h=>absurd h.2.1 (by decide),rfl⟩);replace HE:=znd (Env.call HE.out hb);clear hq hb;rw[show ret2 (([]:List UInt8),(22:Int))=.returned (.tuple #[.string (bA []),.int .i64 22])from rfl];go_wp2_with fail;refine(zwd _ 1 (by decide) (by decide) (quN none 0 [] (65536) 2) (zxi (LsR.nil_ _)) ⟨by decide,by decide,by decide⟩ (fun h=>absurd h.2.2.2 (by decide)) HE.out.o.1 HE.out.o.2 0 0 0 (znd ⟨rfl,rfl,rfl⟩)).mono ?_;rintro e w16 ⟨hq,hb⟩;obtain rfl:=hq.uniq (.inr ⟨fun h=>absurd h.2.2.2 (by decide),rfl⟩);replace HE:=znd (Env.call HE.out hb);clear hq hb;rw[show ret2 (([]:List UInt8),(22:Int))=.returned (.tuple #[.string (bA []),.int .i64 22])from rfl];go_wp2_with fail;refine(zwd _ 1 (by decide) (by decide) (quN none 0 [] (-1) 2) (zxi (LsR.nil_ _)) ⟨by decide,by decide,by decide⟩ (fun h=>absurd h.2.2.1 (by decide)) HE.out.o.1 HE.out.o.2 0 0 0 (znd ⟨rfl,rfl,rfl⟩)).mono ?_;rintro e w17 ⟨hq,hb⟩;obtain rfl:=hq.uniq (.inr ⟨fun h=>absurd h.2.2.1 (by decide),rfl⟩);replace HE:=znd (Env.call HE.out hb);clear hq hb;rw[show ret2 (([]:List UInt8),(22:Int))=.returned (.tuple #[.string (bA []),.int .i64 22])from rfl];have hszr:=zal;have hszu:=zaA;obtain⟨W5,gu,hW5,hgu,HE⟩:=Env.al HE.out 50 #[.int .u64 1];obtain⟨W6,gr,hW6,hgr,HE⟩:=Env.al HE.out 55 #[.bool false,.slice none 0 0,.bool false,.slice (some ⟨gu,0,none⟩) 1 1];go_wp2_with fail;clear hW5 hgu hW6 hgr;have HR:=znd (show LsR 4 rtcells (roD 1) (some ⟨gr,0,none⟩) [rt1 gu] _ from⟨zyk (HE.out.bx _ (List.mem_cons_self ..)),fun l hl=>by rw[List.mem_singleton.1 hl];exact zyX (HE.out.bx _ (List.mem_cons_of_mem _ (List.mem_cons_self ..)))⟩);refine(zwd _ 1 (by decide) (by decide) (quN (some ⟨gr,0,none⟩) 1 [rt1 gu] 0 2) (zxi HR.out) ⟨(by decide:0<=100000),(by decide:1<=100000),(by decide:0<=100000)⟩ (fun h=>absurd (h.1.2.1 _ (List.mem_singleton_self _)) zyl) HE.out.o.1 HE.out.o.2 0 1 0 (znd ⟨rfl,rfl,rfl⟩)).mono ?_;rintro e w20 ⟨hq,hb⟩;obtain rfl:=hq.uniq (.inr ⟨fun h=>absurd (h.1.2.1 _ (List.mem_singleton_self _)) zyl,rfl⟩);replace HE:=znd (Env.call HE.out hb);clear hq hb HR;rw[show ret2 (([]:List UInt8),(22:Int))=.returned (.tuple #[.string (bA []),.int .i64 22])from rfl];go_wp2_with fail;have hqp:∀V,QryP V (⟨1,none,0,[]⟩:NeV) (quN none 0 [] 0 0) 22:=fun V=>.inr ⟨.inr ⟨⟨by decide,by decide,by decide⟩,rfl⟩,.inl ⟨fun h=>absurd h.1.1.1 (by decide),rfl⟩⟩;refine(zxc _ 1 (by decide) (by decide) (⟨1,none,0,[]⟩:NeV) (LsR.nil_ _) ⟨by decide,by simp⟩ (quN none 0 [] 0 0) (zxi (LsR.nil_ _)) ⟨by decide,by decide,by decide⟩ (fun _=>by decide+kernel) HE.out.o.1 HE.out.o.2 0 rfl 0 0 0 (znd ⟨rfl,rfl,rfl⟩)).mono ?_;rintro e w21 ⟨⟨err,hN,rfl⟩,hb⟩;obtain rfl:err=22:=hN.uniq (hqp _);replace HE:=znd (Env.call HE.out hb);clear hN hb hqp;rw[show∀t,ret2 (shT 22 t)=.returned (.tuple #[.string (bA []),.int .i64 22])from fun _=>rfl];go_wp2_with fail;refine(zxl _ HE.out.o.1 HE.out.o.2).mono ?_;rintro e w22 ⟨rfl,hb⟩;replace HE:=znd (Env.call HE.out hb);clear hb;go_wp2_with fail;refine(zx8 _ HE.out.o.1 HE.out.o.2).mono ?_;rintro e w23 ⟨rfl,hb⟩;replace HE:=znd (Env.call HE.out hb);clear hb;go_wp2_with fail;go_ret;exact⟨rfl,HE.out.bel⟩
open Go.ChangeShapes Go.WideShapes Go.ChangeAt Go.RowKit Go.Deep

theorem own:ownKnob Tryz.prog.godebug=none:=by kernel_rfl
theorem zy8:(Tryz.prog.globals[(0:Nat)]?).map (·.type)=some 201:=by kernel_rfl
theorem zy1:Tryz.prog.cellsOf 201=20:=by kernel_rfl
theorem zgt:Tryz.prog.cellsOf 50=1:=by kernel_rfl
def zif:List (String×DataW Unit):=[("math/bits.deBruijn32tab",Rows.laid_math_bits_deBruijn32tab),("math/bits.deBruijn64tab",Rows.laid_math_bits_deBruijn64tab),("internal/strconv.uint64pow10",Rows.laid_internal_strconv_uint64pow10)]
theorem zyU {W:World} (h:laidMetH Tryz.prog zif W):Tab W:=
 Lib.tabIs_of_head (rest:=[]) (zs:=Lib.pow10Tab) gPow zy8 Tryz.underlying201 Tryz.underlying50 zgt zy1 (laidMet.tail (laidMet.tail (show laidMet Tryz.prog zif W from h)))

def zmQ (cs:Array Value):Obj->Obj
 |.cells _ t frozen=>.cells cs t frozen
 |o=>o
noncomputable def zdC (os:Os):World:=
 {World.holding Tryz.prog os ⟨#[],#[],[]⟩with heap:=(((World.holding Tryz.prog os ⟨#[],#[],[]⟩).heap.modify 1 (zmQ #[.int .u8 0,.int .u8 1,.int .u8 28,.int .u8 2,.int .u8 29,.int .u8 14,.int .u8 24,.int .u8 3,.int .u8 30,.int .u8 22,.int .u8 20,.int .u8 15,.int .u8 25,.int .u8 17,.int .u8 4,.int .u8 8,.int .u8 31,.int .u8 27,.int .u8 13,.int .u8 23,.int .u8 21,.int .u8 19,.int .u8 16,.int .u8 7,.int .u8 26,.int .u8 12,.int .u8 18,.int .u8 6,.int .u8 11,.int .u8 5,.int .u8 10,.int .u8 9])).modify 2 (zmQ #[.int .u8 0,.int .u8 1,.int .u8 56,.int .u8 2,.int .u8 57,.int .u8 49,.int .u8 28,.int .u8 3,.int .u8 61,.int .u8 58,.int .u8 42,.int .u8 50,.int .u8 38,.int .u8 29,.int .u8 17,.int .u8 4,.int .u8 62,.int .u8 47,.int .u8 59,.int .u8 36,.int .u8 45,.int .u8 43,.int .u8 51,.int .u8 22,.int .u8 53,.int .u8 39,.int .u8 33,.int .u8 30,.int .u8 24,.int .u8 18,.int .u8 12,.int .u8 5,.int .u8 63,.int .u8 55,.int .u8 48,.int .u8 27,.int .u8 60,.int .u8 41,.int .u8 37,.int .u8 16,.int .u8 46,.int .u8 35,.int .u8 44,.int .u8 21,.int .u8 52,.int .u8 32,.int .u8 23,.int .u8 11,.int .u8 54,.int .u8 26,.int .u8 40,.int .u8 15,.int .u8 34,.int .u8 20,.int .u8 31,.int .u8 10,.int .u8 25,.int .u8 14,.int .u8 19,.int .u8 9,.int .u8 13,.int .u8 8,.int .u8 7,.int .u8 6])).modify 0 (zmQ #[.int .u64 1,.int .u64 10,.int .u64 100,.int .u64 1000,.int .u64 10000,.int .u64 100000,.int .u64 1000000,.int .u64 10000000,.int .u64 100000000,.int .u64 1000000000,.int .u64 10000000000,.int .u64 100000000000,.int .u64 1000000000000,.int .u64 10000000000000,.int .u64 100000000000000,.int .u64 1000000000000000,.int .u64 10000000000000000,.int .u64 100000000000000000,.int .u64 1000000000000000000,.int .u64 10000000000000000000])}

theorem zix {H:Type} {enc:TypeId×Value->H} {f:Func} {s:ChangeSpec} {W W':World} {args:Array Value} {ds:List (DataW H)} {before:List MemPlace}
 (hW:DataW.Whole enc Tryz.prog f.params.toList s.vars false W args.toList ds [] before) (hv:s.vars=[]) (hr:f.resultTypes=#[4])
 (hfn:s.fn H (ds++[])={results:=[.lit (.bool true)],args:=ds}) (hb:Below W.heap.size W W')
 (hargs:DataW.TrodAll enc Tryz.prog W' 0 (fun b=>decide (b<W.heap.size)) true f.params.toList args.toList ds before):
 s.post enc Tryz.prog f false true false false W args (.bool true) W':=by
 refine⟨ds,[],before,[],before,[],hW,?_,?_,?_,?_,fun h=>by cases h⟩
 ·rw[hfn,hr];exact trodAll_cons_mk (shut_bool Tryz.underlying4 _) trodAll_mk0
 ·rw[hfn];exact hargs
 ·rw[hfn,hv];exact rfl
 ·exact World.keptBut_mono (fun p hp=>⟨hp,.inr (.inl hp)⟩) (hb.frame (·∈before))

theorem gTz:Tryz.prog.globalNamed "math/bits.deBruijn64tab" =some 2:=by kernel_rfl
theorem zlD:(Tryz.prog.globals[(2:Nat)]?).map (·.type)=some 227:=by kernel_rfl
theorem zm6:Tryz.prog.cellsOf 227=64:=by kernel_rfl
theorem zlb:Tryz.prog.cellsOf 5=1:=by kernel_rfl
theorem zn9 {W:World} (h:laidMetH Tryz.prog zif W):Tz W:=by
 have h1:=Lib.tabIs_of_head (rest:=[("internal/strconv.uint64pow10",Rows.laid_internal_strconv_uint64pow10)]) (zs:=Lib.deBruijn64tab.map fun n:Nat=>(n:Int)) gTz zlD Tryz.underlying227 Tryz.underlying5 zlb zm6 (laidMet.tail (show laidMet Tryz.prog zif W from h));unfold Lib.TabIs World.var? at h1;simp only[gTz,Option.bind_some]at h1;intro j hj
 cases hh:W.heap[(2:Nat)]?with
 |none=>rw[hh]at h1;simp at h1
 |some o=>
  rw[hh]at h1
  cases o with
  |cells cs t fr=>
   have e:cs=((Lib.deBruijn64tab.map fun n:Nat=>(n:Int)).map fun z=>Value.int .u8 z).toArray:=by simpa using h1
   rw[Joins.cell_of_block hh,e];simp[List.getD,hj]
  |_=>simp at h1
theorem laidOut:laidOutB Tryz.prog=true:=by kernel_rfl
end Go.Proofs.YtegfiemlnnpidaaGreatDoor
namespace Go.Proofs.YtegfiemlnnpidaaGreatDoor.showNumbers
set_option maxHeartbeats 8000000
open Go.ChangeShapes Go.WideShapes Go.ChangeAt Go.RowKit Go.ChangeMaps

set_option maxRecDepth 100000 in
theorem zkh (H:Type) (enc:TypeId×Value->H) (W:World) (base:Nat) (args:Array Value) (ds gs:List (DataW H)) (before:List MemPlace)
 (_hval:∀(j:Nat) t v,Tryz.f4.params[j]?=some t->args[j]?=some v->Value.okWide Tryz.prog W .any base t v)
 (hW:DataW.Whole enc Tryz.prog Tryz.f4.params.toList Rows.showNumbersSpec.vars false W args.toList ds gs before) (hL:laidMetH Tryz.prog Rows.showNumbersRow.laid W):
 Calls Tryz.prog 4 args W fun e W'=>∃v,e=.returned v/\Rows.showNumbersSpec.post enc Tryz.prog Tryz.f4 false true false false W args v W':=by
 have hW':=hW;obtain⟨p,q,hA,hV,rfl,hfz,hnd⟩:=hW;obtain⟨rfl,rfl⟩:=trodVars_none hV;rw[Tryz.params4]at hA;obtain⟨hargs,rfl,rfl⟩:=trodAll_nil hA;obtain rfl:args=#[]:=by cases args;simp_all
 refine(zwC W (zn9 hL) (zyU hL)).mono fun e W' ⟨he,hb⟩=>?_;subst he;exact⟨_,rfl,zix hW' rfl rfl rfl hb (by rw[Tryz.params4];exact trodAll_mk0)⟩

theorem zjt (os:Os):laidMet Tryz.prog Rows.showNumbersRow.laid ((zdC os).forCall (fun _ _=>0) ⟨#[],#[],[]⟩).memory:=
 laidMet_of_run' 8 (by kernel_rfl) (by kernel_rfl)
theorem reads (os:Os) {H:Type} (enc:TypeId×Value->H):∃places,DataW.whole enc Tryz.prog ((zdC os).forCall (fun _ _=>0) ⟨#[],#[],[]⟩).memory Tryz.f4.params.toList Rows.showNumbersSpec.vars false (#[]:Array Value).toList 8=some ([],[],places):=
 ⟨[],by kernel_rfl⟩

set_option maxRecDepth 100000 in
theorem zmz (os:Os) (started:os.Started) (H:Type) (enc:TypeId×Value->H) (F:Stop.Interp):
 ReturnsInHanded {} Tryz.checked os 4 .any ((OpenSpec.ofChange Rows.showNumbersSpec).preRow enc Tryz.prog Tryz.f4 Rows.showNumbersRow.domain false Rows.showNumbersRow.laid) (((OpenSpec.ofChange Rows.showNumbersSpec).at F).post enc Tryz.prog Tryz.f4 false true false false):=by
 obtain⟨places,hx⟩:=reads os enc
 refine returnsInHanded_of_row (C:=Tryz.checked) (s:=OpenSpec.ofChange Rows.showNumbersSpec) own started (by kernel_rfl) Tryz.func4
  (witness_row_at (enc:=enc) (C:=Tryz.checked) false (zdC os) #[] rfl (by kernel_rfl) (by kernel_rfl) (by kernel_rfl)
   (OpenSpec.preRow_of_cond 8 hx (by kernel_rfl) (fun k hk=>by cases hk) (by kernel_rfl) (zjt os))) ?_
 intro W base args ds gs before hval hW _ _ _ hL _ _;exact zkh H enc W base args ds gs before hval hW hL

theorem zmr {a b:Bool} (h:a=true) (h':b=true):(a&&b)=true:=by rw[h,h'];rfl
theorem zkU:joinedFacts Tryz.pinned.checked.prog 4 Tryz.f4 (OpenSpec.ofChange Rows.showNumbersSpec).bare Rows.showNumbersRow=true:=by
 unfold joinedFacts
 repeat' (with_reducible refine zmr ?_ ?_)
 all_goals(as_aux_lemma=>kernel_rfl)
theorem said:Rows.ShowNumbersSaid:=
 OpenClaim.holds_of_cond 4 Tryz.f4 rfl rfl rfl rfl rfl rfl rfl ⟨rfl,rfl,rfl,rfl,rfl⟩ rfl rfl rfl rfl rfl (by kernel_rfl) Tryz.func4 zkU
  (of_decide_eq_true (by kernel_rfl)) (by unfold Func.isWrapper;first|(rw[if_pos (by decide+kernel)];kernel_rfl)|(rw[if_neg (by decide+kernel)];exact⟨rfl,rfl⟩))
  (fun os started H enc _ F=>by rw[OpenClaim.pre_eq_preRow];exact zmz os started H enc F)

theorem plain (f:FuncId) (fn:Func) (hf:Tryz.pinned.checked.prog.funcNamed "tripwire/tripwirelaw12.ShowNumbers" =some f) (hfn:Tryz.pinned.checked.prog.funcs[f]?=some fn):
 false=Tryz.pinned.checked.prog.looks []/\∀(j:Nat) t,fn.params[j]?=some t->Tryz.pinned.checked.prog.wantsStandIn t=false:=by
 obtain rfl:f=4:=Option.some.inj ((show Tryz.prog.funcNamed "tripwire/tripwirelaw12.ShowNumbers" =some 4 by kernel_rfl).symm.trans hf) |>.symm;obtain rfl:fn=Tryz.f4:=(Option.some.inj (Tryz.func4.symm.trans hfn)).symm;refine⟨by kernel_rfl,fun j t ht=>?_⟩;rw[Tryz.params4]at ht;simp at ht

theorem card:Rows.ShowNumbersCardSaid:=
 Claim7.holds_tied_plain_at .later [] _ _ _ _ said (fun _ h=>by cases h) (by kernel_rfl) (fun _ h=>by cases h) showNumbers_row_tie rfl ⟨rfl,rfl⟩ (by kernel_rfl) rfl plain (by kernel_rfl)
end Go.Proofs.YtegfiemlnnpidaaGreatDoor.showNumbers
#print axioms Go.Proofs.YtegfiemlnnpidaaGreatDoor.showNumbers.card
