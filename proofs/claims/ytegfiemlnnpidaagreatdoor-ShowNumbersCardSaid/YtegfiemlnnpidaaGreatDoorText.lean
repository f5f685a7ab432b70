/-
 Plain facts on decimal texts. strconv.FormatUint at base 10. strings.Builder's WriteString and WriteByte at this program (the kit's contracts, laid by hand: the one command lays neither where the bodies name no type string). digits.Text.
-/
import Derived.Test.YtegfiemlnnpidaaGreatDoorMath
import Derived.Test.YtegfiemlnnpidaaGreatDoorLimF
import Derived.Test.YtegfiemlnnpidaaGreatDoorProg
import Derived.Lib.ItoaNum
import Derived.Lib.ItoaMem
import Derived.Lib.LaidTab
import Derived.Shelf.Strings.Builder1
import Derived.Deep.LoopGhost
namespace Go.Proofs.YtegfiemlnnpidaaGreatDoor
set_option maxHeartbeats 2000000

def fw:Nat->Nat->List UInt8
 |0,_=>[]
 |k+1,r=>fw k (r/10)++[UInt8.ofNat (48+r%10)]
theorem zqI {u:Nat} (h:¬u<10):Lib.decDigits u=Lib.decDigits (u/10)++[UInt8.ofNat (48+u%10)]:=by
 rw[Lib.decDigits,dif_neg h]
theorem zvM:∀(k q r:Nat),0<q->r<10^k->Lib.decDigits (q*10^k+r)=Lib.decDigits q++fw k r:=by
 intro k
 induction k with
 |zero=>intro q r _ h;simp at h;subst h;simp[fw]
 |succ k ih=>
  intro q r hq hr;have hp:1<=10^k:=Nat.one_le_pow _ _ (by decide);rw[Nat.pow_succ]at hr⊢;have h1:1*(10^k*10)<=q*(10^k*10):=Nat.mul_le_mul_right _ hq;rw[zqI (by omega)];have e:(q*(10^k*10)+r)/10=q*10^k+r/10:=by rw[<-Nat.mul_assoc];omega
  have e2:(q*(10^k*10)+r)%10=r%10:=by rw[<-Nat.mul_assoc];omega
  rw[e,e2,ih q (r/10) hq (by omega),fw,List.append_assoc]
theorem zvo:∀k,fw k 0=List.replicate k 48:=by
 intro k
 induction k with
 |zero=>rfl
 |succ k ih=>rw[fw,Nat.zero_div,ih,List.replicate_succ'];rfl
theorem zvx:∀(k r:Nat),0<k->r<10^k->fw k r=List.replicate (k-(Lib.decDigits r).length) 48++Lib.decDigits r:=by
 intro k
 induction k with
 |zero=>intro r h;omega
 |succ k ih=>
  intro r _ hr;by_cases h:r<10
  ·rw[fw,Nat.div_eq_of_lt h,zvo,Lib.decDigits_one h,Nat.mod_eq_of_lt h];simp
  ·rw[Nat.pow_succ]at hr;have hk:0<k:=by
    rcases Nat.eq_zero_or_pos k with e|e
    ·subst e;simp at hr;omega
    ·exact e
   rw[fw,ih (r/10) hk (by omega),zqI h,List.append_assoc];simp

def C19:Nat:=10000000000000000000
theorem zuE:C19=10^19:=by decide

theorem zsZ {q r:Nat} (hq:0<q) (hr:r<C19):Lib.decDigits (r+C19*q)=Lib.decDigits q++(List.replicate (19-(Lib.decDigits r).length) 48++Lib.decDigits r):=by
 rw[zuE]at*;rw[<-zvx 19 r (by omega) hr,<-zvM 19 q r hq hr,Nat.add_comm,Nat.mul_comm]
theorem zp1 {u:Nat} (h:u<C19):(Lib.decDigits u).length<=19:=by
 rcases Nat.lt_or_ge 19 (Lib.decDigits u).length with h1|h1
 ·exfalso;rw[Lib.decDigits_length]at h1;have key:∀k v,k<Lib.nDigits v->10^k<=v\/k=0:=by
   intro k
   induction k with
   |zero=>intro v _;exact .inr rfl
   |succ k ih=>
    intro v hv;by_cases hs:v<10
    ·rw[Lib.nDigits_small hs]at hv;omega
    ·rw[Lib.nDigits_big hs]at hv;left;rw[Nat.pow_succ];rcases ih (v/10) (by omega)with h2|h2
     ·omega
     ·subst h2;simp;omega
  rcases key 19 u h1 with h2|h2
  ·rw[<-zuE]at h2;omega
  ·omega
 ·exact h1

def intText (neg:Bool) (v:Nat):List UInt8:=if v=0 then[48] else(if neg then[45] else[])++Lib.decDigits v

structure CutInv (V v:Nat) (ps:List Nat):Prop where
 eq:val C19 ps+C19^ps.length*v=V
 lt:∀x∈ps,x<C19
 tidy:v=0->Tidy ps
theorem CutInv.next {V v:Nat} {ps:List Nat} (h:CutInv V v ps) (hv:0<v):CutInv V (v/C19) (ps++[v%C19]):=by
 refine⟨?_,?_,?_⟩
 ·rw[zbA,<-h.eq];have e:=Nat.div_add_mod v C19;simp only[val,List.length_append,List.length_singleton,Nat.pow_succ,Nat.mul_zero,Nat.add_zero];generalize v/C19=q at*;generalize v%C19=r at*;generalize C19^ps.length=p at*;generalize val C19 ps=t at*;clear h hv;generalize C19=b at*;grind
 ·intro x hx;rcases List.mem_append.1 hx with hx|hx
  ·exact h.lt x hx
  ·simp at hx;rw[hx];exact Nat.mod_lt _ (by decide)
 ·intro h0;right;refine⟨v%C19,by simp,?_⟩;have e:=Nat.div_add_mod v C19;rw[h0]at e;omega

open Go.RowKit Go.Sort

def Tab (w:World):Prop:=Lib.TabIs Tryz.prog w "internal/strconv.uint64pow10" .u64 Lib.pow10Tab
theorem gPow:Tryz.prog.globalNamed "internal/strconv.uint64pow10" =some 0:=by kernel_rfl
theorem Tab.lt {w:World} (h:Tab w):0<w.heap.size:=by
 unfold Tab Lib.TabIs World.var? at h;simp only[gPow,Option.bind_some]at h;rcases Nat.lt_or_ge 0 w.heap.size with h'|h'
 ·exact h'
 ·rw[Array.getElem?_eq_none h']at h;simp at h
theorem Tab.block {w w':World} (h:Tab w) (hb:w'.heap[(0:Nat)]?=w.heap[(0:Nat)]?):Tab w':=by
 unfold Tab Lib.TabIs World.var? at*;simp only[gPow,Option.bind_some]at*;rw[hb];exact h
theorem Tab.below {w w':World} {B:Nat} (h:Tab w) (hb:Below B w w') (hB:w.heap.size<=B):Tab w':=h.block (hb.block _ (by have:=h.lt;omega))
theorem Tab.alloc {w:World} (h:Tab w) (o:Obj):Tab (w.alloc o):=Lib.tabIs_alloc h o
theorem Tab.drewN {w:World} (h:Tab w) (n:Nat):Tab (w.drewN n):=h

theorem zrA (w:World) (T:TypeId) (nd:Nat) (hs:nd<=24):Holds (fun(b:UInt8)=>Value.int .u8 (b.toNat:Int)) (w.alloc (.cells Lib.zeros24 T)) w.heap.size 0 (Array.replicate nd (0:UInt8)):=fun j hj=>by
 have hj':j<nd:=by simpa using hj
 refine⟨?_,World.frozen?_alloc_new _ _ _ _⟩;rw[World.cell?_alloc_new,Lib.zeros24_at _ (by omega),getElem!_pos _ j hj];simp
theorem zv6 (w:World) (o:Obj) (dk:Array UInt8) (k:Nat):Below w.heap.size w ((putRow (fun(b:UInt8)=>Value.int .u8 (b.toNat:Int)) (w.alloc o) w.heap.size 0 dk).drewN k):=by
 rw[alloc_eq_grow];obtain⟨os',_,e⟩:=putRow_grow_new (fun(b:UInt8)=>Value.int .u8 (b.toNat:Int)) w #[o] w.heap.size 0 dk (Nat.le_refl _);rw[e];have h:Below w.heap.size w (grow w os'):=⟨rfl,rfl,rfl,by simp[grow],fun i hi=>by simp[grow,Array.getElem?_append,hi]⟩;exact Below.drewN h k

set_option maxRecDepth 100000 in
theorem zsT (u:Nat) (hu64:u<B64) (w:World) (htab:Tab w):
 Calls Tryz.prog 203 #[.int .u64 u,.int .i64 10] w fun e w'=>e=.returned (.string ⟨(Lib.decDigits u).toArray⟩)/\Below w.heap.size w w':=by
 by_cases hs:u<100
 ·have hw:IntKind.i64.wrap (u:Int)=(u:Int):=by rw[IntKind.wrap_i64];omega
  go_enter Tryz.func203,Tryz.ntmps203;go_wp2_with fail;refine(Tryz.internal_strconv_small u hs _).mono ?_;rintro e w' ⟨rfl,hw'⟩;have hw2:=hw'.symm;subst hw2;go_wp2_with fail;go_ret;exact⟨rfl,Below.refl _ _⟩
 ·have hu1:1<=u:=by omega
  have hnd20:Lib.nDigits u<=20:=by have:=Lib.numDigits_eq u hu1 hu64;split at this<;>omega
  have hal:Tryz.prog.arrayLen 180=24:=by kernel_rfl
  have hsl1:∀W,(Instr.sliceAt 180 (.pointer (some ⟨w.heap.size,0,none⟩)) none (some (.int .i64 (Lib.nDigits u:Int))) none).run Tryz.prog W=.ok (.slice (some ⟨w.heap.size,0,none⟩) (Lib.nDigits u) 24) W:=fun W=>by
   rw[run_sliceAt_array_h W 180 ⟨w.heap.size,0,none⟩ (by kernel_rfl) .i64 (Lib.nDigits u:Int) (by omega) (by rw[hal];omega)];go_simp
  have hH0:=zrA w 180 (Lib.nDigits u) (by omega);have hfmt:=Tryz.internal_strconv_formatBase10 w.heap.size 0 24 u (Array.replicate (Lib.nDigits u) 0) (w.alloc (.cells Lib.zeros24 180)) hH0 (by rw[Array.size_replicate];exact Lib.lt_pow_nDigits u) hu64 (by rw[Array.size_replicate];omega);rw[Array.size_replicate]at hfmt;have HH0:=znd hH0;have Hfmt:=znd hfmt;have Htab:=znd htab;clear hH0 hal hfmt htab;go_enter Tryz.func203,Tryz.ntmps203;go_wp2_with fail;refine(Tryz.internal_strconv_numDigits u hu1 hu64 _ (Lib.tabIs_alloc Htab.out _)).mono ?_;rintro e w' ⟨rfl,hw'⟩;subst hw';go_wp2_with fail;refine Hfmt.out.mono ?_;rintro e w' ⟨rfl,k,v',dk,rfl,hF⟩;have hcv:(convert 87 9 (.slice (some ⟨w.heap.size,0,none⟩) (Lib.nDigits u) 24)).run Tryz.prog ((putRow (fun(b:UInt8)=>Value.int .u8 (b.toNat:Int)) (w.alloc (.cells Lib.zeros24 180)) w.heap.size 0 dk).drewN k)=.ok (.string ⟨(Lib.decDigits u).toArray⟩) ((putRow (fun(b:UInt8)=>Value.int .u8 (b.toNat:Int)) (w.alloc (.cells Lib.zeros24 180)) w.heap.size 0 dk).drewN k):=by
   have h:=run_convert_bytes_back (P:=Tryz.prog) ((putRow (fun(b:UInt8)=>Value.int .u8 (b.toNat:Int)) (w.alloc (.cells Lib.zeros24 180)) w.heap.size 0 dk).drewN k) 87 9 5 ⟨w.heap.size,0,none⟩ 24 (Lib.decDigits u) Tryz.underlying87 Tryz.underlying5 Tryz.underlying9 (fun j hj=>by
    rw[Lib.row_is_numeral hF j hj,Lib.add_plain,World.cell?_drewN];exact cell?_putRow (fun(b:UInt8)=>Value.int .u8 (b.toNat:Int)) _ w.heap.size 0 _ dk HH0.out (by rw[hF.size,Array.size_replicate]) j (by rw[hF.size];rw[Lib.decDigits_length]at hj;exact hj))
   rw[Lib.decDigits_length]at h;exact h
  go_wp2_with fail;go_ret;exact⟨rfl,zv6 w _ dk k⟩
theorem zuL (u:Nat) (hu64:u<B64) (w:World) (htab:Tab w):
 Calls Tryz.prog 172 #[.int .u64 u,.int .i64 10] w fun e w'=>e=.returned (.string ⟨(Lib.decDigits u).toArray⟩)/\Below w.heap.size w w':=by
 go_enter Tryz.func172,Tryz.ntmps172;go_wp2_with fail;refine(zsT u hu64 w htab).mono ?_;rintro e w' ⟨rfl,hb⟩;have HB:=znd hb;clear hb;go_wp2_with fail;go_ret;exact⟨rfl,HB.out⟩
end Go.Proofs.YtegfiemlnnpidaaGreatDoor
namespace Go.Proofs
open Go.Shelf
def YtegfiemlnnpidaaGreatDoor.bRen:Go.Shelf.Ren:=⟨fun|166=>45|167=>173|240=>81|276=>122|n=>n,fun|0=>0|3=>3|4=>4|5=>5|9=>9|20=>20|37=>87|70=>86|72=>89|75=>91|80=>96|164=>153|n=>n,fun|n=>n⟩
theorem YtegfiemlnnpidaaGreatDoor.b166:Go.Proofs.Lays.n166 Tryz.prog YtegfiemlnnpidaaGreatDoor.bRen:={
 mixed:=by kernel_rfl
 f166:=Tryz.func45.trans (congrArg some (by kernel_rfl))
 f240:=Tryz.func81.trans (congrArg some (by kernel_rfl))
 f276:=Tryz.func122.trans (congrArg some (by kernel_rfl))
 t3:=Tryz.underlying3
 a3:=Tryz.isAgg3
 z3:=Tryz.sizeOf3
 v3:=Tryz.zeroValue3
 t0:=Tryz.underlying0
 a0:=Tryz.isAgg0
 z0:=Tryz.sizeOf0
 v0:=Tryz.zeroValue0
 t4:=Tryz.underlying4
 a4:=Tryz.isAgg4
 z4:=Tryz.sizeOf4
 v4:=Tryz.zeroValue4
 t9:=Tryz.underlying9
 a9:=Tryz.isAgg9
 z9:=Tryz.sizeOf9
 v9:=Tryz.zeroValue9
 t20:=Tryz.underlying20
 a20:=Tryz.isAgg20
 z20:=Tryz.sizeOf20
 v20:=Tryz.zeroValue20
 t37:=Tryz.underlying87
 a37:=Tryz.isAgg87
 z37:=Tryz.sizeOf87
 v37:=Tryz.zeroValue87
 t70:=Tryz.underlying86
 a70:=Tryz.isAgg86
 z70:=Tryz.sizeOf86
 v70:=Tryz.zeroValue86
 t72:=Tryz.underlying89
 a72:=Tryz.isAgg89
 z72:=Tryz.sizeOf89
 v72:=Tryz.zeroValue89
 t75:=Tryz.underlying91
 a75:=Tryz.isAgg91
 z75:=Tryz.sizeOf91
 v75:=Tryz.zeroValue91
 t164:=Tryz.underlying153
 a164:=Tryz.isAgg153
 z164:=Tryz.sizeOf153
 v164:=Tryz.zeroValue153}
theorem YtegfiemlnnpidaaGreatDoor.b167:Go.Proofs.Lays.n167 Tryz.prog YtegfiemlnnpidaaGreatDoor.bRen:={
 mixed:=by kernel_rfl
 f167:=Tryz.func173.trans (congrArg some (by kernel_rfl))
 f240:=Tryz.func81.trans (congrArg some (by kernel_rfl))
 f276:=Tryz.func122.trans (congrArg some (by kernel_rfl))
 t5:=Tryz.underlying5
 a5:=Tryz.isAgg5
 z5:=Tryz.sizeOf5
 v5:=Tryz.zeroValue5
 t0:=Tryz.underlying0
 a0:=Tryz.isAgg0
 z0:=Tryz.sizeOf0
 v0:=Tryz.zeroValue0
 t4:=Tryz.underlying4
 a4:=Tryz.isAgg4
 z4:=Tryz.sizeOf4
 v4:=Tryz.zeroValue4
 t9:=Tryz.underlying9
 a9:=Tryz.isAgg9
 z9:=Tryz.sizeOf9
 v9:=Tryz.zeroValue9
 t20:=Tryz.underlying20
 a20:=Tryz.isAgg20
 z20:=Tryz.sizeOf20
 v20:=Tryz.zeroValue20
 t37:=Tryz.underlying87
 a37:=Tryz.isAgg87
 z37:=Tryz.sizeOf87
 v37:=Tryz.zeroValue87
 t70:=Tryz.underlying86
 a70:=Tryz.isAgg86
 z70:=Tryz.sizeOf86
 v70:=Tryz.zeroValue86
 t72:=Tryz.underlying89
 a72:=Tryz.isAgg89
 z72:=Tryz.sizeOf89
 v72:=Tryz.zeroValue89
 t75:=Tryz.underlying91
 a75:=Tryz.isAgg91
 z75:=Tryz.sizeOf91
 v75:=Tryz.zeroValue91
 t164:=Tryz.underlying153
 a164:=Tryz.isAgg153
 z164:=Tryz.sizeOf153
 v164:=Tryz.zeroValue153}
theorem YtegfiemlnnpidaaGreatDoor.bExtra:Builder.Extra Tryz.prog YtegfiemlnnpidaaGreatDoor.bRen:={
 sizeBuilder:=by kernel_rfl
 liesBuilder:=by kernel_rfl
 t5:=Tryz.underlying5
 a5:=Tryz.isAgg5
 z5:=Tryz.sizeOf5
 v5:=Tryz.zeroValue5
 infoByte:=by kernel_rfl
 cellsByte:=by kernel_rfl
 sizeByte:=by kernel_rfl
 neB5:=by decide}
open Go.RowKit in
theorem YtegfiemlnnpidaaGreatDoor.writeByte_any (B b:Nat) (bs:List Value) (c:Int) (w:World) (h:Lib.IsBuilder 89 5 B b bs w) (hlen:bs.length+1<=140737488355328) (hBw:B<=w.heap.size):
 Calls Tryz.prog 173 #[.pointer (some ⟨b,0,none⟩),.int .u8 c] w fun e w'=>e=.returned .nilIface/\(Lib.IsBuilder 89 5 B b (bs++[.int .u8 c]) w'/\Below B w w'):=
 (Any.Builder_WriteByte YtegfiemlnnpidaaGreatDoor.b167 YtegfiemlnnpidaaGreatDoor.bExtra B b bs c w h hlen hBw).mono fun _ _ h=>⟨h.1,.inr h.2.1,h.2.2⟩
open Go.RowKit in
theorem YtegfiemlnnpidaaGreatDoor.writeString_any (B b:Nat) (bs:List Value) (s:ByteArray) (w:World) (h:Lib.IsBuilder 89 5 B b bs w) (hlen:bs.length+s.size<=140737488355328) (hBw:B<=w.heap.size):
 Calls Tryz.prog 45 #[.pointer (some ⟨b,0,none⟩),.string s] w fun e w'=>e=.returned (.tuple #[.int .i64 s.size,.nilIface])/\(Lib.IsBuilder 89 5 B b (bs++Lib.strCells s) w'/\Below B w w'):=
 (Any.Builder_WriteString YtegfiemlnnpidaaGreatDoor.b166 YtegfiemlnnpidaaGreatDoor.bExtra B b bs s w h hlen hBw).mono fun _ _ h=>⟨h.1,.inr h.2.1,h.2.2⟩
open Go.RowKit in
theorem YtegfiemlnnpidaaGreatDoor.isBuilder_below {T e:TypeId} {B b:Nat} {bs:List Value} {w w':World} (h:Lib.IsBuilder T e B b bs w) (hb:Below w.heap.size w w'):Lib.IsBuilder T e B b bs w':=by
 have key:∀p,Lib.BuilderAt T e B b p bs w->Lib.BuilderAt T e B b p bs w':=by
  rintro p ⟨hB,v,hh,ho,hn⟩;refine⟨hB,v,by rw[hb.block b (Array.getElem?_eq_some_iff.1 hh).1];exact hh,⟨ho.1,?_⟩,hn⟩;rcases ho.2 with h2|⟨g,cap,cur,hv,hg,h3,r⟩
  ·exact .inl h2
  ·exact .inr ⟨g,cap,cur,hv,hg,by rw[hb.block g (Array.getElem?_eq_some_iff.1 h3).1];exact h3,r⟩
 rcases h with h|h
 ·exact .inl (key _ h)
 ·exact .inr (key _ h)
theorem YtegfiemlnnpidaaGreatDoor.isBuilder_new (w:World) (T e:TypeId):Lib.IsBuilder T e w.heap.size w.heap.size [] (w.alloc (.cells #[.pointer none,.slice none 0 0] T)):=
 .inl ⟨Nat.le_refl _,.slice none 0 0,heap_alloc_new w _,World.ownsRow_nil _ _ _ _,by simp[Value.ownBlock]⟩
end Go.Proofs
namespace Go.Proofs.YtegfiemlnnpidaaGreatDoor
set_option maxHeartbeats 2000000
open Go.RowKit

theorem zup:(Tryz.prog.info? 9).map (fun i=>(i.zero,i.size,i.bytes))=some (some (.string ⟨#[]⟩),1,16):=by kernel_rfl

theorem zp9 {V n:Nat} (h:V<B64^n):(digs B64 V).length<=n:=by
 rcases Nat.lt_or_ge n (digs B64 V).length with h1|h1
 ·exfalso;have hne:digs B64 V≠[]:=by intro e;rw[e]at h1;simp at h1
  have h2:=zcB (b:=B64) (by decide) (digs_tidy (by decide) V) hne;rw[zar (by decide)]at h2;have h3:B64^n<=B64^((digs B64 V).length-1):=Nat.pow_le_pow_right za4 (by omega);omega
 ·exact h1
theorem zuW {V v n:Nat} {ps:List Nat} (h:CutInv V v ps) (hv:0<v) (hV:V<B64^n):ps.length<2*n:=by
 have h1:=h.eq;have h2:C19^ps.length*1<=C19^ps.length*v:=Nat.mul_le_mul_left _ hv;have h3:B64^n<=(C19^2)^n:=Nat.pow_le_pow_left (by decide) n;rw[<-Nat.pow_mul]at h3;have h4:C19^ps.length<C19^(2*n):=by omega
 exact(Nat.pow_lt_pow_iff_right (by decide)).1 h4

theorem zuw {b r:Nat} (hb:1<b) (h0:0<r) (h:r<b):digs b r=[r]:=by
 have:=zfp hb (l:=[r]) (by intro x hx;simp at hx;omega) (.inr ⟨r,by simp,by omega⟩);rw[this];simp[val]
theorem ztb {w w':World} {base:Nat} {e:TypeId} {size:Nat} {v:Value} {n:Nat} {xs:List Value} (h:w.ownsRow base e size v n xs) (hb:Below w.heap.size w w'):w'.ownsRow base e size v n xs:=by
 refine⟨h.1,?_⟩;rcases h.2 with h2|⟨g,cap,cur,hv,hg,hh,r⟩
 ·exact .inl h2
 ·exact .inr ⟨g,cap,cur,hv,hg,by rw[hb.block g (Array.getElem?_eq_some_iff.1 hh).1];exact hh,r⟩

abbrev strV (l:List UInt8):Value:=.string ⟨l.toArray⟩
def zsI (ps:List Nat):List Value:=ps.map fun p=>strV (Lib.decDigits p)

structure TxA (w wr:World) (neg:Bool) (S pv:Value) (V v:Nat) (ps:List Nat):Prop where
 cut:CutInv V v ps
 own:wr.ownsRow (w.heap.size+1) 9 1 pv ps.length (zsI ps)
 box:wr.cell? ⟨w.heap.size,0,none⟩=some (.bool neg)
 below:Below w.heap.size w wr
 size:∃A c,S=.slice A (digs B64 v).length c/\(digs B64 v).length<=c/\Rd wr .u64 A (digs B64 v)

def zoB (ps:List Nat) (k:Nat):List UInt8:=if k=0 then[] else Lib.decDigits (val C19 (ps.drop (ps.length-k)))
theorem zpu {ps:List Nat} (h:0<ps.length):zoB ps 1=Lib.decDigits (nth ps (ps.length-1)):=by
 unfold zoB;rw[if_neg (by omega),zcO (by omega),List.drop_eq_nil_of_le (by omega)];simp[val]
theorem zpk {ps:List Nat} {k:Nat} (hk:0<k) (h:k<ps.length) (ht:Tidy ps) (hl:∀x∈ps,x<C19):
 zoB ps (k+1)=zoB ps k++(List.replicate (19-(Lib.decDigits (nth ps (ps.length-1-k))).length) 48++Lib.decDigits (nth ps (ps.length-1-k))):=by
 unfold zoB;rw[if_neg (by omega),if_neg (by omega),show ps.length-(k+1)=ps.length-1-k by omega,zcO (by omega),show ps.length-1-k+1=ps.length-k by omega];apply zsZ
 ·have htd:Tidy (ps.drop (ps.length-k)):=by
   rcases ht with h|⟨x,hx,h0⟩
   ·subst h;simp at h
   ·right;refine⟨x,?_,h0⟩;rw[List.getLast?_drop,if_neg (by omega)];exact hx
  exact htd.pos (by decide) (by intro e;have:=congrArg List.length e;simp at this;omega)
 ·exact zak (by decide) hl _
theorem zqp {ps:List Nat} {V:Nat} (h:0<ps.length) (hv:val C19 ps=V):zoB ps ps.length=Lib.decDigits V:=by
 unfold zoB;rw[if_neg (by omega),Nat.sub_self,List.drop_zero,hv]
theorem zqq {ps:List Nat} (ht:Tidy ps) (hl:∀x∈ps,x<C19):∀k,k<=ps.length->(zoB ps k).length<=19*k:=by
 intro k
 induction k with
 |zero=>intro _;simp[zoB]
 |succ k ih=>
  intro h;rcases Nat.eq_zero_or_pos k with e|e
  ·subst e;rw[zpu (by omega)];exact zp1 (zak (by decide) hl _)
  ·have h1:=ih (by omega);have h2:=zp1 (zak (b:=C19) (by decide) hl (ps.length-1-k));rw[zpk e (by omega) ht hl];simp;omega
theorem zoM (l:List UInt8):(ByteArray.mk l.toArray).size=l.length:=by simp[ByteArray.size]
theorem zqk (c:Nat):Lib.repeatL [48] c=List.replicate c 48:=by
 induction c with
 |zero=>rfl
 |succ c ih=>rw[Lib.repeatL,ih];rfl
theorem zoO (l:List UInt8):Lib.strCells ⟨l.toArray⟩=Lib.byteCells l:=by rw[Lib.strCells_eq]

set_option maxRecDepth 100000 in
theorem zuf (w:World) (neg:Bool) (A:Option Addr) (c:Nat) (l:List Nat) (hl:l.length<=1048576) (ha:Rd w .u64 A l) (hx:∀x∈l,x<B64) (htab:Tab w) (hV:0<val B64 l):
 Calls Tryz.prog 124 #[.agg #[.bool neg,.slice A l.length c]] w fun e w'=>e=.returned (strV (intText neg (val B64 l)))/\Below w.heap.size w w':=by
 have hVl:=zdo hx;have Ha:=znd ha;have Hx:=znd hx;have Htab:=znd htab;have HVl:=znd hVl;clear ha hx htab hVl;go_enter Tryz.func124,Tryz.ntmps124;go_wp2_with fail;refine(zgy _ A c l (by omega) (Ha.out.alloc _)).mono ?_;rintro e w1 ⟨A1,c1,rfl,hc1,hr1,hb1,-⟩;have hT:=zb5 (b:=B64) (by decide) Hx.out;rw[hT]at hc1 hr1⊢;have hb1':Below w.heap.size w w1:=((Below.refl _ _).alloc (Nat.le_refl _) _).trans (hb1.mono (by simp));have hbox:w1.cell? ⟨w.heap.size,0,none⟩=some (.bool neg):=by
  rw[hb1.cell (by simp)];exact(Blk.new w 53 #[.bool neg,.slice A l.length c]).cell 0
 have hne:(digs B64 (val B64 l)).length≠0:=by
  intro e;have:=List.eq_nil_of_length_eq_zero e;rw[zaT (by decide)]at this;omega
 have hq:(((digs B64 (val B64 l)).length:Int)==0)=false:=by simp;exact fun h=>hne (by rw[h];rfl)
 have HI:Hid (TxA w w1 neg (.slice A1 (digs B64 (val B64 l)).length c1) (.slice none 0 0) (val B64 l) (val B64 l) []):=
  ⟨⟨by simp[val],by simp,fun _=>.inl rfl⟩,World.ownsRow_nil _ _ _ _,hbox,hb1',A1,c1,rfl,hc1,hr1⟩
 clear hc1 hr1 hb1 hb1' hbox hT;generalize hgV:val B64 l=V at*;generalize hgn:(digs B64 V).length=dn at*;have HgV:=znd hgV;have Hgn:=znd hgn;clear hgV hgn;go_wp2_with fail
 go_loopg [3,4] V (fun v S pv wr=>∃(ps:List Nat),TxA w wr neg S pv V v ps)
 case atStart=>exact⟨[],HI.out⟩
 case round=>
  obtain⟨ps,hI⟩:=hrel;obtain⟨AS,cS,rfl,hcS,hrS⟩:=hI.size;rcases Nat.eq_zero_or_pos gk with hz|hp
  ·have hI2:TxA w wr neg (.slice AS (digs B64 gk).length cS) u4 V 0 ps:=by rw[hz]at hI⊢;exact hI
   have hlen:(digs B64 gk).length=0:=by rw[hz];rfl
   rw[hlen];have hcut:=hI2.cut;have hpv:val C19 ps=V:=by have:=hcut.eq;omega
   have htd:=hcut.tidy rfl;have hpl:0<ps.length:=by
    rcases Nat.eq_zero_or_pos ps.length with e|e
    ·have:=List.eq_nil_of_length_eq_zero e;rw[this]at hpv;simp[val]at hpv;omega
    ·exact e
   obtain⟨g,cap,cur,rfl,hgB,hgc,hncap,-,-,htake⟩:∃g cap cur,u4=.slice (some ⟨g,0,none⟩) ps.length cap/\w.heap.size+1<=g/\wr.heap[g]?=some (.cells cur 9 (0,0))/\ps.length<=cap/\cap<=maxLen/\cur.size=cap*1/\cur.toList.take (ps.length*1)=zsI ps:=by
    rcases hI2.own.2 with⟨_,h0⟩|h
    ·omega
    ·exact h
   have hgl:=(Array.getElem?_eq_some_iff.1 hgc).1;have hcell:∀j,j<ps.length->wr.cell? ⟨g,j,none⟩=some (strV (Lib.decDigits (nth ps j))):=by
    intro j hj;have hc:wr.cell? ⟨g,j,none⟩=cur[j]?:=by simp[World.cell?,hgc]
    have h2:(cur.toList.take (ps.length*1))[j]?=cur[j]?:=by
     rw[List.getElem?_take,if_pos (by omega)];simp
    rw[hc,<-h2,htake];simp[zsI,nth,List.getD,hj]
   have hbox:=hI2.box;have hbl:=World.block_lt_of_cell? wr _ hbox;have hps:ps.length<=4194304:=by
    have h1:=zcB (b:=C19) (by decide) htd (by intro e;rw[e]at hpl;simp at hpl);rw[hpv]at h1;have h3:B64^l.length<=(C19^2)^l.length:=Nat.pow_le_pow_left (by decide) _;rw[<-Nat.pow_mul]at h3;have h5:=HVl.out;have h4:C19^(ps.length-1)<C19^(2*l.length):=by omega
    have:=(Nat.pow_lt_pow_iff_right (by decide)).1 h4;omega
   have Hlt:=znd hcut.lt;have Htd:=znd htd;have Hpv:=znd hpv;have Hcell:=znd hcell;have Hbel:=znd hI2.below;have hbl':w.heap.size<wr.heap.size:=hbl;have hbox2:(wr.alloc (.cells #[.pointer none,.slice none 0 0] 89)).cell? ⟨w.heap.size,0,none⟩=some (.bool neg):=by rw[World.cell?_alloc_lt _ _ _ hbl];exact hbox
   have HB:=znd (isBuilder_new wr 89 5);clear hI hI2 hlen hcut hpv htd hcell hbox hbl hgc htake hrS hcS hz;obtain⟨wo,rfl⟩:∃wo:World,wo=wr:=⟨_,rfl⟩
   cases neg
   ·have HB1:Hid (Lib.IsBuilder 89 5 wo.heap.size wo.heap.size (Lib.byteCells (([]:List UInt8)++zoB ps 0)) (wo.alloc (.cells #[.pointer none,.slice none 0 0] 89))/\Below wo.heap.size wo (wo.alloc (.cells #[.pointer none,.slice none 0 0] 89))):=⟨HB.out,Below.of_alloc _ _⟩;go_wp2_with fail;go_loopw [41] (fun i wr=>∃k:Nat,k<=ps.length/\i=.int .i64 k/\Lib.IsBuilder 89 5 wo.heap.size wo.heap.size (Lib.byteCells (([]:List UInt8)++zoB ps k)) wr/\Below wo.heap.size wo wr) (fun i _=>ps.length-(intOf i).toNat)
    case atStart=>exact⟨0,Nat.zero_le _,rfl,HB1.out.1,HB1.out.2⟩
    case round=>
     obtain⟨k,hk,rfl,hQ,hbq⟩:=hrel;have hsz:=hbq.size;have htl:=zqq Htd.out Hlt.out k hk;by_cases hkn:k<ps.length
     ·obtain⟨j,hj⟩:∃j,j=ps.length-1-k:=⟨_,rfl⟩;have hcj:=(hbq.cell (p:=⟨g,j,none⟩) hgl).trans (Hcell.out j (by omega));have i1:(ps.length:Int)-1-k=(j:Int):=by omega
      have i2:j<ps.length:=by omega
      have hpl19:=zp1 (zak (b:=C19) (by decide) Hlt.out j);have Hwr:=znd hbq;have HQ:=znd hQ;have hlenb:(Lib.byteCells (([]:List UInt8)++zoB ps k)).length<=1+19*k:=by rw[Lib.byteCells_length];simp;omega
      rcases Nat.eq_zero_or_pos k with hk0|hk0
      ·have Hnx:=znd (show zoB ps (k+1)=zoB ps k++Lib.decDigits (nth ps j) by subst hk0;rw[zpu (by omega),hj];simp[zoB]);have hn0:¬0<(k:Int):=by omega
       have hk1:k<=0:=by omega
       clear hbq hQ hj hk0;generalize nth ps j=pj at*;go_wp2_with fail;refine(writeString_any _ _ _ ⟨(Lib.decDigits pj).toArray⟩ _ HQ.out (by rw[zoM];omega) hsz).mono ?_;rintro e w5 ⟨rfl,hB5,hb5⟩;rw[zoO,<-Lib.byteCells_append,List.append_assoc,<-Hnx.out]at hB5;have HB5:=znd hB5;have Hb5:=znd (Hwr.out.trans hb5);clear hB5 hb5;go_wp2_with fail;go_roundw
       case rel=>exact⟨k+1,by omega,by go_num,HB5.out,Hb5.out⟩
       case measure=>simp[intOf];omega
      ·have Hnx:=znd (zpk hk0 hkn Htd.out Hlt.out);rw[<-hj]at Hnx;have hp0:0<(k:Int):=by omega
       have i3:(19:Int)-((Lib.decDigits (nth ps j)).length:Int)=((19-(Lib.decDigits (nth ps j)).length:Nat):Int):=by omega
       clear hbq hQ hj;generalize nth ps j=pj at*;have hrep:=znd (Tryz.strings_Repeat ⟨#[48]⟩ (19-(Lib.decDigits pj).length) wr (by omega) (by simp[ByteArray.size];omega));go_wp2_with fail;refine hrep.out.mono ?_;rintro e w4 ⟨rfl,hb4⟩;have e48:Lib.repeatL [48] (19-(Lib.decDigits pj).length)=List.replicate (19-(Lib.decDigits pj).length) 48:=zqk _;have hQ4:=isBuilder_below HQ.out hb4;have hb4':Below wo.heap.size wo w4:=Hwr.out.trans (hb4.mono hsz);simp only[e48];clear hrep hb4;go_wp2_with fail;refine(writeString_any _ _ _ ⟨(List.replicate (19-(Lib.decDigits pj).length) 48).toArray⟩ _ hQ4 (by rw[zoM,List.length_replicate];omega) hb4'.size).mono ?_;rintro e w5 ⟨rfl,hB5,hb5⟩;rw[zoO,<-Lib.byteCells_append]at hB5;have HB5:=znd hB5;have hb5':=hb4'.trans hb5;clear hB5 hb5 hQ4 hb4';go_wp2_with fail;refine(writeString_any _ _ _ ⟨(Lib.decDigits pj).toArray⟩ _ HB5.out (by rw[Lib.byteCells_length]at hlenb⊢;rw[zoM,List.length_append,List.length_replicate];omega) hb5'.size).mono ?_;rintro e w6 ⟨rfl,hB6,hb6⟩;rw[zoO,<-Lib.byteCells_append,List.append_assoc,List.append_assoc,<-Hnx.out]at hB6;have HB6:=znd hB6;have Hb6:=znd (hb5'.trans hb6);clear hB6 hb6 hb5';go_wp2_with fail;go_roundw
       case rel=>exact⟨k+1,by omega,by go_num,HB6.out,Hb6.out⟩
       case measure=>simp[intOf];omega
     ·obtain rfl:k=ps.length:=by omega
      have Hfin:=znd (show intText false V=([]:List UInt8)++zoB ps ps.length by rw[zqp hpl Hpv.out];unfold intText;rw[if_neg (by omega)];simp);rw[<-Hfin.out]at hQ;have HQ:=znd hQ;have Hbq:=znd hbq;clear hQ hbq htl;go_wp2_with fail;refine(Tryz.Builder_String_any _ _ (intText false V) _ HQ.out hsz).mono ?_;rintro e w7 ⟨rfl,hb7⟩;have Hb7:=znd hb7;clear hb7;go_wp2_with fail;go_ret;rw[HgV.out];exact⟨rfl,Hbel.out.trans ((Hbq.out.trans Hb7.out).mono Hbel.out.size)⟩

   ·go_wp2_with fail;refine(writeByte_any _ _ _ _ _ HB.out (by simp) (by simp)).mono ?_;rintro e wx ⟨rfl,hB1,hb1⟩;have HB1:Hid (Lib.IsBuilder 89 5 wo.heap.size wo.heap.size (Lib.byteCells (([45]:List UInt8)++zoB ps 0)) wx/\Below wo.heap.size wo wx):=⟨hB1,(Below.of_alloc _ _).trans hb1⟩;clear hB1 hb1;go_wp2_with fail;go_loopw [41] (fun i wr=>∃k:Nat,k<=ps.length/\i=.int .i64 k/\Lib.IsBuilder 89 5 wo.heap.size wo.heap.size (Lib.byteCells (([45]:List UInt8)++zoB ps k)) wr/\Below wo.heap.size wo wr) (fun i _=>ps.length-(intOf i).toNat)
    case atStart=>exact⟨0,Nat.zero_le _,rfl,HB1.out.1,HB1.out.2⟩
    case round=>
     obtain⟨k,hk,rfl,hQ,hbq⟩:=hrel;have hsz:=hbq.size;have htl:=zqq Htd.out Hlt.out k hk;by_cases hkn:k<ps.length
     ·obtain⟨j,hj⟩:∃j,j=ps.length-1-k:=⟨_,rfl⟩;have hcj:=(hbq.cell (p:=⟨g,j,none⟩) hgl).trans (Hcell.out j (by omega));have i1:(ps.length:Int)-1-k=(j:Int):=by omega
      have i2:j<ps.length:=by omega
      have hpl19:=zp1 (zak (b:=C19) (by decide) Hlt.out j);have Hwr:=znd hbq;have HQ:=znd hQ;have hlenb:(Lib.byteCells (([45]:List UInt8)++zoB ps k)).length<=1+19*k:=by rw[Lib.byteCells_length];simp;omega
      rcases Nat.eq_zero_or_pos k with hk0|hk0
      ·have Hnx:=znd (show zoB ps (k+1)=zoB ps k++Lib.decDigits (nth ps j) by subst hk0;rw[zpu (by omega),hj];simp[zoB]);have hn0:¬0<(k:Int):=by omega
       have hk1:k<=0:=by omega
       clear hbq hQ hj hk0;generalize nth ps j=pj at*;go_wp2_with fail;refine(writeString_any _ _ _ ⟨(Lib.decDigits pj).toArray⟩ _ HQ.out (by rw[zoM];omega) hsz).mono ?_;rintro e w5 ⟨rfl,hB5,hb5⟩;rw[zoO,<-Lib.byteCells_append,List.append_assoc,<-Hnx.out]at hB5;have HB5:=znd hB5;have Hb5:=znd (Hwr.out.trans hb5);clear hB5 hb5;go_wp2_with fail;go_roundw
       case rel=>exact⟨k+1,by omega,by go_num,HB5.out,Hb5.out⟩
       case measure=>simp[intOf];omega
      ·have Hnx:=znd (zpk hk0 hkn Htd.out Hlt.out);rw[<-hj]at Hnx;have hp0:0<(k:Int):=by omega
       have i3:(19:Int)-((Lib.decDigits (nth ps j)).length:Int)=((19-(Lib.decDigits (nth ps j)).length:Nat):Int):=by omega
       clear hbq hQ hj;generalize nth ps j=pj at*;have hrep:=znd (Tryz.strings_Repeat ⟨#[48]⟩ (19-(Lib.decDigits pj).length) wr (by omega) (by simp[ByteArray.size];omega));go_wp2_with fail;refine hrep.out.mono ?_;rintro e w4 ⟨rfl,hb4⟩;have e48:Lib.repeatL [48] (19-(Lib.decDigits pj).length)=List.replicate (19-(Lib.decDigits pj).length) 48:=zqk _;have hQ4:=isBuilder_below HQ.out hb4;have hb4':Below wo.heap.size wo w4:=Hwr.out.trans (hb4.mono hsz);simp only[e48];clear hrep hb4;go_wp2_with fail;refine(writeString_any _ _ _ ⟨(List.replicate (19-(Lib.decDigits pj).length) 48).toArray⟩ _ hQ4 (by rw[zoM,List.length_replicate];omega) hb4'.size).mono ?_;rintro e w5 ⟨rfl,hB5,hb5⟩;rw[zoO,<-Lib.byteCells_append]at hB5;have HB5:=znd hB5;have hb5':=hb4'.trans hb5;clear hB5 hb5 hQ4 hb4';go_wp2_with fail;refine(writeString_any _ _ _ ⟨(Lib.decDigits pj).toArray⟩ _ HB5.out (by rw[Lib.byteCells_length]at hlenb⊢;rw[zoM,List.length_append,List.length_replicate];omega) hb5'.size).mono ?_;rintro e w6 ⟨rfl,hB6,hb6⟩;rw[zoO,<-Lib.byteCells_append,List.append_assoc,List.append_assoc,<-Hnx.out]at hB6;have HB6:=znd hB6;have Hb6:=znd (hb5'.trans hb6);clear hB6 hb6 hb5';go_wp2_with fail;go_roundw
       case rel=>exact⟨k+1,by omega,by go_num,HB6.out,Hb6.out⟩
       case measure=>simp[intOf];omega
     ·obtain rfl:k=ps.length:=by omega
      have Hfin:=znd (show intText true V=([45]:List UInt8)++zoB ps ps.length by rw[zqp hpl Hpv.out];unfold intText;rw[if_neg (by omega)];simp);rw[<-Hfin.out]at hQ;have HQ:=znd hQ;have Hbq:=znd hbq;clear hQ hbq htl;go_wp2_with fail;refine(Tryz.Builder_String_any _ _ (intText true V) _ HQ.out hsz).mono ?_;rintro e w7 ⟨rfl,hb7⟩;have Hb7:=znd hb7;clear hb7;go_wp2_with fail;go_ret;rw[HgV.out];exact⟨rfl,Hbel.out.trans ((Hbq.out.trans Hb7.out).mono Hbel.out.size)⟩

  ·have hps:=zuW hI.cut hp HVl.out;have hgl:(digs B64 gk).length<=1048576:=by
    have h1:gk<=V:=by
     have e:=hI.cut.eq;have h2:1*gk<=C19^ps.length*gk:=Nat.mul_le_mul_right _ (Nat.pow_pos (by decide));omega
    exact Nat.le_trans (zp9 (Nat.lt_of_le_of_lt h1 HVl.out)) hl
   have hgp:0<(digs B64 gk).length:=by
    rcases Nat.eq_zero_or_pos (digs B64 gk).length with e|e
    ·have:=List.eq_nil_of_length_eq_zero e;rw[zaT (by decide)]at this;omega
    ·exact e
   have Hdm:=znd (zhm (wr.alloc (.cells #[.int .u64 10000000000000000000] 50)) AS (some ⟨wr.heap.size,0,none⟩) cS 1 (digs B64 gk) [C19] (by omega) (by simp) hcS (hrS.alloc _)
    (Rd.of_blk (show Blk (wr.alloc (.cells #[.int .u64 10000000000000000000] 50)) wr.heap.size 50 (ints .u64 [C19])from Blk.new _ _ _)) (zbi (by decide) _) (by intro x hx;simp at hx;rw[hx];decide) rfl)
   rw[zar (by decide),show val B64 [C19]=C19 by simp[val]]at Hdm;have HI:=znd hI;clear hI hrS hcS;generalize (digs B64 gk).length=dk at*;go_wp2_with fail;refine Hdm.out.mono ?_;rintro e w2 ⟨A2,c2,A3,c3,rfl,hc2,hc3,hr2,hr3,hb2,hf2,-⟩;have hrl:gk%C19<C19:=Nat.mod_lt _ (by decide);have hrl64:gk%C19<B64:=Nat.lt_trans hrl (by decide);have hb2':Below wr.heap.size wr w2:=((Below.refl _ _).alloc (Nat.le_refl _) _).trans (hb2.mono (by simp));have htab2:=(Htab.out.below HI.out.below (Nat.le_refl _)).below hb2' (Nat.le_refl _);have Hfm:=znd (zuL (gk%C19) hrl64 w2 htab2);have HF2:=znd hf2;have HB2:=znd hb2';have HR2:=znd hr2;have HC2:=znd hc2;have hsl3:=hr3.sl;have h1u:=zaA
   -- behind the chunk's text:it is laid into the list
   have hrest:∀w3,Below w2.heap.size w2 w3->∃v' w4,(Builtin.append_ #[165,165] 165 #[u4,.slice (some ⟨w3.heap.size,0,none⟩) 1 1]).run Tryz.prog (w3.alloc (.cells #[strV (Lib.decDigits (gk%C19))] 9))=.ok v' w4/\
    TxA w w4 neg (.slice A2 (digs B64 (gk/C19)).length c2) v' V (gk/C19) (ps++[gk%C19]):=by
    intro w3 hb3;obtain⟨i0,hi0,hz0,hz1,hz2⟩:=info_parts zup;have hb23:Below wr.heap.size wr w3:=HB2.out.trans (hb3.mono HB2.out.size);have hown:=(ztb HI.out.own hb23).alloc (.cells #[strV (Lib.decDigits (gk%C19))] 9)
    obtain⟨v',w4,hrun,ho4,hg4,-⟩:=run_append_own (P:=Tryz.prog) (w3.alloc (.cells #[strV (Lib.decDigits (gk%C19))] 9)) (w.heap.size+1) 165 165 9 i0 (.string ⟨#[]⟩) 1 16 Tryz.underlying165 hi0 hz0 hz1 hz2 rfl (by decide) u4 ps.length (zsI ps) hown
     ⟨w3.heap.size,0,none⟩ 1 1 [strV (Lib.decDigits (gk%C19))] rfl (cell_one_new _ _ _) (by simp[strV,Value.oneCell']) (by simp only[maxLen];omega) (by omega) (by have h1:=HI.out.below.size;have h2:=hb23.size;simp;omega)
    have hgo:∀k,u4.ownBlock=some k->w.heap.size+1<=k/\k<wr.heap.size:=fun k hk=>HI.out.own.lt k hk;have hsz:w.heap.size+1<=w3.heap.size+1:=by have h1:=HI.out.below.size;have h2:=hb23.size;omega
    have hbw3:Below w.heap.size w w3:=HI.out.below.trans (hb23.mono HI.out.below.size);have hb4:Below w.heap.size w w4:=(hbw3.alloc (by omega) _).grown hg4 (by simp;omega) (fun k hk=>by have:=(hgo k hk).1;omega);have hcl:∀(ad:Addr) (v:Value),(w3.alloc (.cells #[strV (Lib.decDigits (gk%C19))] 9)).cell? ad=some v->(∀k,u4.ownBlock=some k->ad.block≠k)->w4.cell? ad=some v:=fun ad v h hne=>hg4.cell h (fun e=>hne _ e.symm rfl);refine⟨v',w4,hrun,HI.out.cut.next hp,by simpa[zsI] using ho4,?_,hb4,A2,c2,rfl,HC2.out,?_⟩
    ·refine hcl _ _ ?_ (fun k hk=>by have:=(hgo k hk).1;show w.heap.size≠k;omega);have hlt:=World.block_lt_of_cell? wr _ HI.out.box;rw[World.cell?_alloc_lt _ _ _ (Nat.lt_of_lt_of_le hlt hb23.size),hb23.cell hlt];exact HI.out.box
    ·have h3:=(HR2.out.below hb3 (Nat.le_refl _)).alloc (.cells #[strV (Lib.decDigits (gk%C19))] 9);exact⟨h3.sl,fun i hi=>hcl _ _ (h3.cell i hi) (fun k hk=>by have h1:=(hgo k hk).2;have h2:=HF2.out i hi;simp at h2;omega)⟩
   have Hrest:=znd hrest;have hfin:Hid (gk/C19<gk):=Nat.div_lt_self hp (by decide);clear hrest hr2 hb2' hb2 htab2 hc2 hf2 hrl64;by_cases hr0:gk%C19=0
   ·have e3:(digs B64 (gk%C19)).length=0:=by rw[hr0];rfl
    rw[e3];rw[hr0]at Hfm Hrest;clear hr0 e3 hr3 hc3 hsl3;go_wp2_with fail;refine Hfm.out.mono ?_;rintro e w3 ⟨rfl,hb3⟩;obtain⟨v',w4,hrun,hX⟩:=Hrest.out w3 hb3;have HX:=znd hX;have Hrun:=znd hrun;clear hX hb3 hrun;go_wp2_with (at_builtin;refine zac rfl (.tmp 31) (.tmp 34) 165 _ _ _ rfl rfl rfl Hrun.out ?_)
    go_roundg (gk/C19)
    case measure=>exact hfin.out
    case rel=>exact⟨_,HX.out⟩
   ·have e3:digs B64 (gk%C19)=[gk%C19]:=zuw (by decide) (by omega) (Nat.lt_trans hrl (by decide));rw[e3]at hr3 hsl3 hc3;have hcl3:=hr3.cell 0 (by simp);have hn0:nth [gk%C19] 0=gk%C19:=rfl;rw[hn0]at hcl3;have e3l:(digs B64 (gk%C19)).length=1:=by rw[e3];rfl
    rw[e3l];simp only[List.length_singleton]at hsl3;clear hr0 e3 e3l hr3 hc3 hn0 hrl;generalize gk%C19=r at*;go_wp2_with fail;refine Hfm.out.mono ?_;rintro e w3 ⟨rfl,hb3⟩;obtain⟨v',w4,hrun,hX⟩:=Hrest.out w3 hb3;have HX:=znd hX;have Hrun:=znd hrun;clear hX hb3 hrun;go_wp2_with (at_builtin;refine zac rfl (.tmp 31) (.tmp 34) 165 _ _ _ rfl rfl rfl Hrun.out ?_)
    go_roundg (gk/C19)
    case measure=>exact hfin.out
    case rel=>exact⟨_,HX.out⟩

theorem zth (w:World) (neg:Bool) (A:Option Addr) (c:Nat) (l:List Nat) (hl:l.length<=1048576) (ha:Rd w .u64 A l) (hx:∀x∈l,x<B64) (hV:val B64 l=0):
 Calls Tryz.prog 124 #[.agg #[.bool neg,.slice A l.length c]] w fun e w'=>e=.returned (strV (intText neg (val B64 l)))/\Below w.heap.size w w':=by
 have hT:=zb5 (b:=B64) (by decide) hx;rw[hV]at hT;have Ht:=znd (show(trim l).length=0 by rw[hT];rfl);have Hfin:=znd (show intText neg (val B64 l)=[48] by rw[hV];rfl);have Ha:=znd ha;clear ha hx hT hV;go_enter Tryz.func124,Tryz.ntmps124;go_wp2_with fail;refine(zgy _ A c l (by omega) (Ha.out.alloc _)).mono ?_;rintro e w1 ⟨A1,c1,rfl,-,-,hb1,-⟩;rw[Ht.out];have HB:=znd (((Below.refl _ _).alloc (Nat.le_refl _) _).trans (hb1.mono (by simp)):Below w.heap.size w w1);clear hb1;go_wp2_with fail;go_ret;rw[Hfin.out];exact⟨rfl,HB.out⟩
theorem ztU (w:World) (neg:Bool) (A:Option Addr) (c:Nat) (l:List Nat) (hl:l.length<=1048576) (ha:Rd w .u64 A l) (hx:∀x∈l,x<B64) (htab:Tab w):
 Calls Tryz.prog 124 #[.agg #[.bool neg,.slice A l.length c]] w fun e w'=>e=.returned (strV (intText neg (val B64 l)))/\Below w.heap.size w w':=by
 rcases Nat.eq_zero_or_pos (val B64 l)with h|h
 ·exact zth w neg A c l hl ha hx h
 ·exact zuf w neg A c l hl ha hx htab h

end Go.Proofs.YtegfiemlnnpidaaGreatDoor
