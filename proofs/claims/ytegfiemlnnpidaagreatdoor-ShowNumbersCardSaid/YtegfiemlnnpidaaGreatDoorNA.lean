/-
 Nets in memory: groups, layers, nets.
-/
import Derived.Test.YtegfiemlnnpidaaGreatDoorPG
namespace Go.Proofs.YtegfiemlnnpidaaGreatDoor
open Go.RowKit

section
variable {P:Program}
@[go_sem] theorem run_indexAt_el13 (w:World) (t:TypeId) (A:Option Addr) (len cap:Nat) (k:IntKind) (i:Int) (hs:Sl A len)
 (h:P.underlying t=some (.slice (P.elem t))) (h1:(sizeOf (P.elem t)).run P w=.ok 13 w):
 (Instr.indexAt t (.slice A len cap) (.int k i)).run P w=
  if 0<=i/\i<len then .ok (.pointer (some (adr A (i.toNat*13)))) w else(boundsPanic k i len .index).run P w:=by
 rcases A with _|a
 ·have h0:len=0:=by
   rcases Nat.eq_zero_or_pos len with h|h
   ·exact h
   ·obtain⟨_,_,h⟩:=hs h;cases h
  subst h0;rw[if_neg (by omega)];simp[Instr.indexAt,run_underlying h,asIntOf]
 ·rw[run_indexAt_slice w t a len cap k i h]
  split
  ·rename_i hi
   obtain⟨b,o,e⟩:=hs (by omega)
   cases e
   rw[h1];simp only[Result.andThen_ok,zaf,za6]
  ·rfl
end
theorem zqg:(Tryz.prog.info? 3).map (fun i=>(i.zero,i.size,i.bytes))=some (some (.int .i64 0),1,8):=by kernel_rfl
theorem zpP (w:World):(sizeOf (Tryz.prog.elem 22)).run Tryz.prog w=.ok 13 w:=by kernel_rfl
theorem ztH:Tryz.prog.underlying 22=some (.slice 49):=by kernel_rfl
theorem zp2 (w:World):(sizeOf (Tryz.prog.elem 47)).run Tryz.prog w=.ok 1 w:=by kernel_rfl
theorem zt5:Tryz.prog.underlying 47=some (.slice 58):=by kernel_rfl
theorem zvr:(Tryz.prog.info? 58).map (fun i=>(i.zero,i.size,i.bytes))=some (some (.slice none 0 0),1,24):=by kernel_rfl
def layZ:Value:=.agg #[.int .u8 0,.slice none 0 0,.slice none 0 0,.int .i64 0,.int .i64 0,.int .i64 0,.int .i64 0,.int .i64 0,.int .i64 0,.int .i64 0,.int .i64 0,.slice none 0 0,.slice none 0 0]
theorem zur:(Tryz.prog.info? 49).map (fun i=>(i.zero,i.size,i.bytes))=some (some layZ,13,168):=by kernel_rfl
def zoA (z:Int):Array Value:=#[.int .i64 z]
def okI (_:Int) (_:World):Prop:=True
theorem zrk (z:Int) (W:World) (_:okI z W):Rests W (·<W.heap.size) (okI z):=.pure trivial _ _
theorem LsR.ic {ok:Int->World->Prop} {A:Option Addr} {l:List Int} {w:World} (h:LsR 1 zoA ok A l w) (i:Nat) (hi:i<l.length):w.cell? (adr A i)=some (.int .i64 l[i]):=by
 have hc:=h.cell i hi 0 (by decide);rw[Nat.mul_one,Nat.add_zero]at hc;exact hc
structure GrV where
 A:Option Addr
 c:Nat
 l:List Int
def zoN (g:GrV):Array Value:=#[.slice g.A g.l.length g.c]
def grD (g:GrV) (W:World):Prop:=LsR 1 zoA okI g.A g.l W
theorem zpY (g:GrV) (W:World) (h:grD g W):Rests W (·<W.heap.size) (grD g):=LsR.old zrk h
theorem LsR.gc {ok:GrV->World->Prop} {A:Option Addr} {l:List GrV} {w:World} (h:LsR 1 zoN ok A l w) (i:Nat) (hi:i<l.length):w.cell? (adr A i)=some (.slice (l[i]).A (l[i]).l.length (l[i]).c):=by
 have hc:=h.cell i hi 0 (by decide);rw[Nat.mul_one,Nat.add_zero]at hc;exact hc
structure LaG (R N:Type) where
 kind:Int
 Ar:Option Addr
 cr:Nat
 rows:List R
 Ab:Option Addr
 cb:Nat
 bias:List N
 ch:Int
 high:Int
 wide:Int
 out:Int
 kh:Int
 kw:Int
 st:Int
 pad:Int
 Ak:Option Addr
 ck:Nat
 kern:List N
 Ag:Option Addr
 cg:Nat
 grs:List GrV
abbrev LaV:=LaG VeV (RV×Rat)
def zw8 {R N:Type} (l:LaG R N):Array Value:=#[.int .u8 l.kind,.slice l.Ar l.rows.length l.cr,.slice l.Ab l.bias.length l.cb,.int .i64 l.ch,.int .i64 l.high,.int .i64 l.wide,.int .i64 l.out,.int .i64 l.kh,.int .i64 l.kw,.int .i64 l.st,.int .i64 l.pad,.slice l.Ak l.kern.length l.ck,.slice l.Ag l.grs.length l.cg]
def veF (okT:TeV->World->Prop) (v:VeV) (W:World):Prop:=LsR 5 zw7 okT v.A v.ts W
theorem ztg {okT:TeV->World->Prop} (hT:∀p W,okT p W->Rests W (·<W.heap.size) (okT p)) (v:VeV) (W:World) (h:veF okT v W):Rests W (·<W.heap.size) (veF okT v):=LsR.old hT h
structure LaF (okT:TeV->World->Prop) (okR:RV×Rat->World->Prop) (l:LaV) (W:World):Prop where
 rows:LsR 1 za3 (veF okT) l.Ar l.rows W
 bias:LsR 4 rtcells okR l.Ab l.bias W
 kern:LsR 4 rtcells okR l.Ak l.kern W
 grs:LsR 1 zoN grD l.Ag l.grs W
theorem LaF.old {okT:TeV->World->Prop} {okR:RV×Rat->World->Prop} (hT:∀p W,okT p W->Rests W (·<W.heap.size) (okT p)) (hR:∀p W,okR p W->Rests W (·<W.heap.size) (okR p)) (l:LaV) (W:World) (h:LaF okT okR l W):Rests W (·<W.heap.size) (LaF okT okR l):=
 ((h.rows.old (ztg hT)).and ((h.bias.old hR).and ((h.kern.old hR).and (h.grs.old zpY)))).imp fun _ h=>⟨h.1,h.2.1,h.2.2.1,h.2.2.2⟩
@[reducible] def LaD (n:Nat):LaV->World->Prop:=LaF (teD n) (roD n)
@[reducible] def LaN:LaV->World->Prop:=LaF teN roN
theorem LaD.old {n:Nat} (l:LaV) (W:World) (h:LaD n l W):Rests W (·<W.heap.size) (LaD n l):=LaF.old zah zbQ l W h
theorem LaN.old (l:LaV) (W:World) (h:LaN l W):Rests W (·<W.heap.size) (LaN l):=LaF.old zda zdc l W h
structure LQ where
 kind:Int
 rows:List (List (Int×Rat))
 bias:List Rat
 dims:List Int
 kern:List Rat
 grs:List (List Int)
def LaG.q (l:LaV):LQ:=⟨l.kind,l.rows.map fun v=>v.ts.map plq,l.bias.map Prod.snd,[l.ch,l.high,l.wide,l.out,l.kh,l.kw,l.st,l.pad],l.kern.map Prod.snd,l.grs.map GrV.l⟩
@[reducible] def LC {R N:Type} (A:Option Addr) (i:Nat) (v:LaG R N) (W:World):Prop:=
 W.cell? (adr A (i*13))=some (.int .u8 v.kind)/\W.cell? (adr A (i*13+1))=some (.slice v.Ar v.rows.length v.cr)/\W.cell? (adr A (i*13+2))=some (.slice v.Ab v.bias.length v.cb)/\W.cell? (adr A (i*13+3))=some (.int .i64 v.ch)/\W.cell? (adr A (i*13+4))=some (.int .i64 v.high)/\W.cell? (adr A (i*13+5))=some (.int .i64 v.wide)/\W.cell? (adr A (i*13+6))=some (.int .i64 v.out)/\W.cell? (adr A (i*13+7))=some (.int .i64 v.kh)/\W.cell? (adr A (i*13+8))=some (.int .i64 v.kw)/\W.cell? (adr A (i*13+9))=some (.int .i64 v.st)/\W.cell? (adr A (i*13+10))=some (.int .i64 v.pad)/\W.cell? (adr A (i*13+11))=some (.slice v.Ak v.kern.length v.ck)/\W.cell? (adr A (i*13+12))=some (.slice v.Ag v.grs.length v.cg)
theorem LsR.lac {R N:Type} {ok:LaG R N->World->Prop} {A:Option Addr} {l:List (LaG R N)} {w:World} (h:LsR 13 zw8 ok A l w) (i:Nat) (hi:i<l.length):LC A i l[i] w:=by
 have hc:=h.cell i hi;exact⟨hc 0 (by decide),hc 1 (by decide),hc 2 (by decide),hc 3 (by decide),hc 4 (by decide),hc 5 (by decide),hc 6 (by decide),hc 7 (by decide),hc 8 (by decide),hc 9 (by decide),hc 10 (by decide),hc 11 (by decide),hc 12 (by decide)⟩
structure NeG (R N:Type) where
 inputs:Int
 A:Option Addr
 c:Nat
 las:List (LaG R N)
abbrev NeV:=NeG VeV (RV×Rat)
def NeD (n:Nat) (f:NeV) (W:World):Prop:=LsR 13 zw8 (LaD n) f.A f.las W
theorem NeD.old {n:Nat} {f:NeV} {w:World} (h:NeD n f w):Rests w (·<w.heap.size) (NeD n f):=LsR.old LaD.old h
def zoF (l:LaV):Prop:=l.kern=[]/\l.ch=0/\l.high=0/\l.wide=0/\l.out=0/\l.kh=0/\l.kw=0/\l.st=0/\l.pad=0
def GrP (n:Int) (g:GrV):Prop:=g.l≠[]/\(∀z∈g.l,0<=z/\z<n)/\g.l.Pairwise (·<·)
def exP (w:World) (p:RV×Rat):Prop:=RatN p.1 p.2 w
def side (z:Int):Prop:=1<=z/\z<=256
structure ConvP (w:World) (l:LaV) (n:Int):Prop where
 s:side l.ch/\side l.high/\side l.wide/\side l.out/\side l.kh/\side l.kw/\side l.st
 pad:0<=l.pad/\l.pad<l.kh/\l.pad<l.kw
 n:l.ch*l.high*l.wide=n
 h:0<=l.high+2*l.pad-l.kh/\0<=l.wide+2*l.pad-l.kw
 k:(l.kern.length:Int)=l.out*(l.ch*l.kh*l.kw)
 b:(l.bias.length:Int)=l.out
 e:l.rows=[]/\l.grs=[]
 ek:∀p∈l.kern,exP w p
 eb:∀p∈l.bias,exP w p
structure AffP (w:World) (l:LaV) (n:Int):Prop where
 p:zoF l
 g:l.grs=[]
 r:l.rows≠[]
 b:l.rows.length=l.bias.length
 er:∀v∈l.rows,RightP v.ts n w
 eb:∀p∈l.bias,exP w p
structure PoolP (l:LaV) (n:Int):Prop where
 p:zoF l
 r:l.rows=[]/\l.bias=[]
 g:l.grs≠[]
 eg:∀g∈l.grs,GrP n g
def Fits (w:World) (l:LaV) (n:Int):Prop:=
 (l.kind=1/\AffP w l n)\/(l.kind=2/\ConvP w l n)\/(l.kind=3/\zoF l/\l.rows=[]/\l.bias=[]/\l.grs=[])\/(l.kind=4/\PoolP l n)
def zpj (l:LaV):Int:=(l.high+2*l.pad-l.kh)/l.st+1
def zpi (l:LaV):Int:=(l.wide+2*l.pad-l.kw)/l.st+1
def zoP (l:LaV) (n:Int):Int:=if l.kind=1 then l.rows.length else if l.kind=2 then l.out*zpj l*zpi l else if l.kind=3 then n else l.grs.length
def zoU (l:LaV):Int:=if l.kind=1 then((l.rows.map fun v=>(v.ts.length:Int)).sum) else if l.kind=2 then l.out*zpj l*zpi l*(l.ch*l.kh*l.kw) else if l.kind=3 then 0 else((l.grs.map fun g=>(g.l.length:Int)).sum)
def ChkP (w:World):List LaV->Int->Int->Int->Prop
 |[],_,_,e=>e=0
 |l::ls,n,s,e=>(¬Fits w l n/\e=22)\/(Fits w l n/\(((256<zoP l n\/16384<s+zoU l)/\e=25)\/(¬(256<zoP l n\/16384<s+zoU l)/\ChkP w ls (zoP l n) (s+zoU l) e)))
theorem ChkP.uniq {w:World}:∀{ls:List LaV} {n s e e':Int},ChkP w ls n s e->ChkP w ls n s e'->e=e'
 |[],_,_,_,_,h,h'=>h.trans h'.symm
 |l::ls,n,s,e,e',h,h'=>by
  rcases h with⟨h1,h2⟩|⟨h1,⟨h2,h3⟩|⟨h2,h3⟩⟩<;>rcases h' with⟨k1,k2⟩|⟨k1,⟨k2,k3⟩|⟨k2,k3⟩⟩
  ·omega
  ·exact absurd k1 h1
  ·exact absurd k1 h1
  ·exact absurd h1 k1
  ·omega
  ·exact absurd h2 k2
  ·exact absurd h1 k1
  ·exact absurd k2 h2
  ·exact h3.uniq k3
def zrD (f:NeV):Prop:=1<=f.inputs/\f.inputs<=64/\f.las.length<=16
def NetP (w:World) (f:NeV) (e:Int):Prop:=(¬zrD f/\e=25)\/(zrD f/\ChkP w f.las f.inputs 0 e)
theorem NetP.uniq {w:World} {f:NeV} {e e':Int} (h:NetP w f e) (h':NetP w f e'):e=e':=by
 rcases h with⟨h1,h2⟩|⟨h1,h2⟩<;>rcases h' with⟨k1,k2⟩|⟨k1,k2⟩
 ·omega
 ·exact absurd k1 h1
 ·exact absurd h1 k1
 ·exact h2.uniq k2
def zvF (w:World):List LaV->Int->Prop
 |[],_=>True
 |l::ls,n=>Fits w l n/\zoP l n<=256/\zvF w ls (zoP l n)
theorem ChkP.fits {w:World}:∀{ls:List LaV} {n s:Int},ChkP w ls n s 0->zvF w ls n
 |[],_,_,_=>trivial
 |l::ls,n,s,h=>by
  rcases h with⟨-,h2⟩|⟨h1,⟨-,h3⟩|⟨h2,h3⟩⟩
  ·omega
  ·omega
  ·exact⟨h1,by omega,h3.fits⟩
theorem Fits.same {w W:World} {k:Nat} {l:LaV} {n:Int} (h:LaD k l w) (hb:Below w.heap.size w W):Fits W l n↔Fits w l n:=by
 have hx:∀{A:Option Addr} {ps:List (RV×Rat)},LsR 4 rtcells (roD k) A ps w->((∀p∈ps,exP W p)↔∀p∈ps,exP w p):=fun hl=>
  ⟨fun hh p hp=>(RatD.same (hl.ok p hp) hb).1 (hh p hp),fun hh p hp=>(RatD.same (hl.ok p hp) hb).2 (hh p hp)⟩
 have hr:(∀v∈l.rows,RightP v.ts n W)↔∀v∈l.rows,RightP v.ts n w:=
  ⟨fun hh v hv=>(RightP.same (show LsR 5 zw7 (teD k) v.A v.ts w from h.rows.ok v hv) hb).1 (hh v hv),fun hh v hv=>(RightP.same (show LsR 5 zw7 (teD k) v.A v.ts w from h.rows.ok v hv) hb).2 (hh v hv)⟩
 have h1:AffP W l n↔AffP w l n:=⟨fun x=>⟨x.p,x.g,x.r,x.b,hr.1 x.er,(hx h.bias).1 x.eb⟩,fun x=>⟨x.p,x.g,x.r,x.b,hr.2 x.er,(hx h.bias).2 x.eb⟩⟩;have h2:ConvP W l n↔ConvP w l n:=⟨fun x=>⟨x.s,x.pad,x.n,x.h,x.k,x.b,x.e,(hx h.kern).1 x.ek,(hx h.bias).1 x.eb⟩,fun x=>⟨x.s,x.pad,x.n,x.h,x.k,x.b,x.e,(hx h.kern).2 x.ek,(hx h.bias).2 x.eb⟩⟩;unfold Fits;rw[h1,h2]
theorem zpO {α:Type} {f:α->Int} {l:List α} {i:Nat} (hi:i<l.length):((l.take (i+1)).map f).sum=((l.take i).map f).sum+f l[i]:=by
 rw[List.take_succ_eq_append_getElem hi,List.map_append,List.sum_append];simp
abbrev lA {R N:Type} (l:LaG R N) (a b c d:Nat):Value:=.agg #[.int .u8 l.kind,.slice l.Ar a l.cr,.slice l.Ab b l.cb,.int .i64 l.ch,.int .i64 l.high,.int .i64 l.wide,.int .i64 l.out,.int .i64 l.kh,.int .i64 l.kw,.int .i64 l.st,.int .i64 l.pad,.slice l.Ak c l.ck,.slice l.Ag d l.cg]
theorem layL {R N:Type} {w:World} {o:World->Prop} (l:LaG R N) (a b c d:Nat) (h:Rests w (·<w.heap.size) o):Env w [⟨w.heap.size,49,#[.int .u8 l.kind,.slice l.Ar a l.cr,.slice l.Ab b l.cb,.int .i64 l.ch,.int .i64 l.high,.int .i64 l.wide,.int .i64 l.out,.int .i64 l.kh,.int .i64 l.kw,.int .i64 l.st,.int .i64 l.pad,.slice l.Ak c l.ck,.slice l.Ag d l.cg]⟩] o (fun _=>True) (w.alloc (.cells #[.int .u8 l.kind,.slice l.Ar a l.cr,.slice l.Ab b l.cb,.int .i64 l.ch,.int .i64 l.high,.int .i64 l.wide,.int .i64 l.out,.int .i64 l.kh,.int .i64 l.kw,.int .i64 l.st,.int .i64 l.pad,.slice l.Ak c l.ck,.slice l.Ag d l.cg] 49)):=Env.lay1 (Env.start h) rfl
theorem zqu {R N:Type} {w:World} {o:World->Prop} (l:LaG R N) (a b c d:Nat) (j:Int) (h:Rests w (·<w.heap.size) o):Env w [⟨w.heap.size+1,3,#[.int .i64 j]⟩,⟨w.heap.size,49,#[.int .u8 l.kind,.slice l.Ar a l.cr,.slice l.Ab b l.cb,.int .i64 l.ch,.int .i64 l.high,.int .i64 l.wide,.int .i64 l.out,.int .i64 l.kh,.int .i64 l.kw,.int .i64 l.st,.int .i64 l.pad,.slice l.Ak c l.ck,.slice l.Ag d l.cg]⟩] o (fun _=>True) ((w.alloc (.cells #[.int .u8 l.kind,.slice l.Ar a l.cr,.slice l.Ab b l.cb,.int .i64 l.ch,.int .i64 l.high,.int .i64 l.wide,.int .i64 l.out,.int .i64 l.kh,.int .i64 l.kw,.int .i64 l.st,.int .i64 l.pad,.slice l.Ak c l.ck,.slice l.Ag d l.cg] 49)).alloc (.cells #[.int .i64 j] 3)):=Env.lay2 (Env.start h) rfl
end Go.Proofs.YtegfiemlnnpidaaGreatDoor
