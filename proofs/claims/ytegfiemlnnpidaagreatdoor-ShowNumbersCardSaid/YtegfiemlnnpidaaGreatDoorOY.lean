/-
 law 12: what a text says is shown so. A net and a query that may be (plain law): what is asked of their numbers. law 12: a text that is shown so, by computing. The long text of law 12 (plain law): how long it is. The long net of law 12 may be (plain law). The long net of law 12 in memory.
-/
import Derived.Test.YtegfiemlnnpidaaGreatDoorOK
import Derived.Test.YtegfiemlnnpidaaGreatDoorUH
import Derived.Test.YtegfiemlnnpidaaGreatDoorUB
namespace Go.Proofs.YtegfiemlnnpidaaGreatDoor
set_option maxHeartbeats 8000000
open Go.RowKit

theorem TxOk.net {s:List UInt8} {ts:List Tk} {N:Int×List LQ} {Q:QQ} (h:TxOk s ts N Q) {f:NeV} (hf:(f.inputs,f.las.map LaG.q)=N):NeT f:=by
 subst hf;exact⟨by have:=h.nl;simpa using this,fun l hl=>LQ.Lt.la (h.la l.q (List.mem_map_of_mem hl))⟩
theorem Env.nb {w W:World} {bs:List Bo} {old new:World->Prop} (h:Env w bs old new W) (t:TypeId) (c:Array Value):∃W' g,W.alloc (.cells c t)=W'/\W.heap.size=g/\W'.heap.size=g+1/\Hid (Env w (⟨g,t,c⟩::bs) old new W'):=⟨_,_,rfl,rfl,by simp,znd (h.new_ (g:=W.heap.size) (by simp) t c)⟩
set_option maxRecDepth 100000 in
theorem zwX (tx wt:ByteArray) (ts:List Tk) (N:Int×List LQ) (Q:QQ) (hX:TxOk tx.data.toList ts N Q) (hw:netS N.1 N.2++quS Q=wt.data.toList) (hl:wt.data.toList.length<=262144) (w:World) (hT:Tz w) (ht:Tab w):Calls Tryz.prog 18 #[.string tx,.string wt] w fun e w'=>e=.returned (.bool true)/\Below w.heap.size w w':=by
 have HX:=znd hX;have HW:=znd hw;have HL:=znd hl;have HE:=znd (Env.start (hT.old.and ht.old));clear hX hw hl hT ht;go_enter Tryz.func18,Tryz.ntmps18;go_wp2_with fail;refine(zx5 tx ts N Q HX.out _).mono ?_;rintro e W1 ⟨f,q,rfl,hf,hq,hk,hb⟩;have Hf:=znd hf;have Hq:=znd hq;replace HE:=znd (Env.ret HE.out hk hb);clear hf hq hk hb;obtain⟨W2,g,hW2,hg,hg2,HA⟩:=HE.out.nb 40 #[.int .i64 0,.slice none 0 0,.slice none 0 0,.int .i64 0,.slice none 0 0,.slice none 0 0,.int .u8 0];obtain⟨W3,g2,hW3,hg3,-,HB⟩:=HA.out.nb 73 #[.int .i64 0,.int .i64 0];obtain rfl:g+1=g2:=by rw[<-hg2,hg3]
 clear HE HA;have c:=Env.c2 HB.out;obtain⟨W4,hW4,HC⟩:=Env.st7 (HB.out.perm (List.Perm.swap ..)) (.int .i64 f.inputs) (.slice f.A f.las.length f.c) (.slice q.A0 q.x0.length q.c0) (.int .i64 q.label) (.slice q.A1 q.lo.length q.c1) (.slice q.A2 q.hi.length q.c2) (.int .u8 q.norm);obtain⟨W5,hW5,HD⟩:=Env.st2_0 (HC.out.perm (List.Perm.swap ..)) (.int .i64 0) (.int .i64 0);have cd:=Env.c2 HC.out;go_upto_region 2 with fail;clear c cd hW2 hg hg2 hg3 hW3 hW4 hW5 HB HC;have HE:=HD;clear HD;have c:=Env.c2 HE.out;go_wp2_with fail;have hP:=HX.out.P _ f q Hf.out Hq.out HE.out.n.1.1.1 HE.out.n.1.1.2;have htx:netS f.inputs (f.las.map LaG.q)++quS q.q=wt.data.toList:=by rw[Hq.out,<-HW.out,<-Hf.out]
 have hln:(netS f.inputs (f.las.map LaG.q)++quS q.q).length<=262144:=by rw[htx];exact HL.out
 refine(zxc _ 20 (by decide) (by decide) f HE.out.n.1.2.1 (HX.out.net Hf.out).s q HE.out.n.1.2.2 (QuS'.qs (by rw[Hq.out];exact HX.out.qs)) (fun _=>by omega) HE.out.o.1 HE.out.o.2 (List.length f.las) rfl _ _ _ (znd (LenQ.of q))).mono ?_;rintro e W6 ⟨⟨err,hqp,rfl⟩,hb⟩;obtain rfl:err=0:=hqp.uniq hP;replace HE:=znd (Env.call HE.out hb);have hsh:ret2 (shT 0 (netS f.inputs (f.las.map LaG.q)++quS q.q))=.returned (.tuple #[.string (bA wt.data.toList),.int .i64 0]):=by unfold shT wiT;rw[if_pos rfl,if_neg (by omega),htx];rfl
 rw[hsh];clear hqp hP htx hln hsh hb c;have c:=Env.c2 HE.out;have hbw:bA wt.data.toList=wt:=by cases wt;simp[bA]
 rw[hbw];go_wp2_with fail;go_ret;exact⟨by simp,HE.out.bel⟩

def rowB (n:Int) (r:List (Int×Rat)):Bool:=decide (∀p∈r,0<=p.1/\p.1<n/\p.2≠0)&&decide (r.Pairwise fun a b=>a.1<b.1)
def uQ (q:LQ) (n:Int):Int:=match q.dims with
 |[_,h,w,o,kh,kw,st,pd]=>if q.kind=1 then q.rows.length else if q.kind=2 then o*((h+2*pd-kh)/st+1)*((w+2*pd-kw)/st+1) else if q.kind=3 then n else q.grs.length
 |_=>0
def tQ (q:LQ):Int:=match q.dims with
 |[c,h,w,o,kh,kw,st,pd]=>if q.kind=1 then(q.rows.map fun r=>(r.length:Int)).sum else if q.kind=2 then o*((h+2*pd-kh)/st+1)*((w+2*pd-kw)/st+1)*(c*kh*kw) else if q.kind=3 then 0 else(q.grs.map fun g=>(g.length:Int)).sum
 |_=>0
def zwS (q:LQ):Bool:=decide (q.kern=[])&&decide (q.dims=[0,0,0,0,0,0,0,0])
def zwI (z:Int):Bool:=decide (1<=z)&&decide (z<=256)
def fitB (q:LQ) (n:Int):Bool:=
 (decide (q.kind=1)&&zwS q&&decide (q.grs=[])&&decide (q.rows≠[])&&decide (q.rows.length=q.bias.length)&&q.rows.all (rowB n))||
 (decide (q.kind=2)&&(match q.dims with
  |[c,h,w,o,kh,kw,st,pd]=>zwI c&&zwI h&&zwI w&&zwI o&&zwI kh&&zwI kw&&zwI st&&decide (0<=pd/\pd<kh/\pd<kw/\c*h*w=n/\0<=h+2*pd-kh/\0<=w+2*pd-kw/\(q.kern.length:Int)=o*(c*kh*kw)/\(q.bias.length:Int)=o)
  |_=>false)&&decide (q.rows=[])&&decide (q.grs=[]))||
 (decide (q.kind=3)&&zwS q&&decide (q.rows=[])&&decide (q.bias=[])&&decide (q.grs=[]))||
 (decide (q.kind=4)&&zwS q&&decide (q.rows=[])&&decide (q.bias=[])&&decide (q.grs≠[])&&q.grs.all fun g=>decide (g≠[])&&decide (∀z∈g,0<=z/\z<n)&&decide (g.Pairwise (·<·)))
def chkB:List LQ->Int->Int->Bool
 |[],_,_=>true
 |l::ls,n,s=>fitB l n&&decide (uQ l n<=256)&&decide (s+tQ l<=16384)&&chkB ls (uQ l n) (s+tQ l)
def zyb:List LQ->Int->Int
 |[],n=>n
 |l::ls,n=>zyb ls (uQ l n)
theorem map_nil {α β:Type} {f:α->β} {l:List α} (h:l.map f=[]):l=[]:=List.map_eq_nil_iff.1 h
theorem zyN (l:LaV) (n:Int):uQ l.q n=zoP l n:=by
 unfold uQ zoP LaG.q zpj zpi;simp
theorem zyY (l:LaV):tQ l.q=zoU l:=by
 unfold tQ zoU LaG.q zpj zpi;simp[Function.comp_def]
theorem zwD {l:LaV} (h:zwS l.q=true):zoF l:=by
 unfold zwS LaG.q at h;simp only[Bool.and_eq_true,decide_eq_true_eq]at h;obtain⟨h1,h2⟩:=h;simp only[List.cons.injEq,and_true]at h2;exact⟨map_nil h1,h2⟩
theorem zwk {z:Int} (h:zwI z=true):side z:=by simpa[zwI,side] using h
theorem zyv {V:World} {l:LaV} {n:Int} (h:LaN l V) (hq:fitB l.q n=true):Fits V l n:=by
 have hb:∀p∈l.bias,exP V p:=fun p hp=>h.bias.ok p hp;have hk:∀p∈l.kern,exP V p:=fun p hp=>h.kern.ok p hp;unfold fitB at hq;simp only[Bool.or_eq_true,Bool.and_eq_true,decide_eq_true_eq,List.all_eq_true]at hq;rcases hq with((⟨⟨⟨⟨⟨k,p⟩,g⟩,r⟩,b⟩,e⟩|⟨⟨⟨k,d⟩,r⟩,g⟩)|⟨⟨⟨⟨k,p⟩,r⟩,b⟩,g⟩)|⟨⟨⟨⟨⟨k,p⟩,r⟩,b⟩,g⟩,e⟩
 ·refine .inl ⟨k,zwD p,map_nil g,fun h9=>r (by simp[LaG.q,h9]),by simpa[LaG.q] using b,fun v hv=>?_,hb⟩;have h1:=e (v.ts.map plq) (List.mem_map_of_mem (f:=fun v:VeV=>v.ts.map plq) hv);unfold rowB at h1;obtain⟨h3,h4⟩:=Bool.and_eq_true_iff.1 h1;replace h3:=of_decide_eq_true h3;replace h4:=of_decide_eq_true h4;have h6:=List.pairwise_map.1 h4;have h5:∀t∈v.ts,0<=t.pl/\t.pl<n/\t.q≠0:=fun t ht=>h3 (plq t) (List.mem_map_of_mem (f:=plq) ht);exact⟨fun t ht=>⟨(h5 t ht).1,(h5 t ht).2.1⟩,h6,fun t ht=>by have:=(h5 t ht).2.2;unfold nzT;simpa[Rat.num_eq_zero] using this,(h.rows.ok v hv).ok⟩
 ·simp only[LaG.q,Bool.and_eq_true]at d;obtain⟨⟨⟨⟨⟨⟨⟨d1,d2⟩,d3⟩,d4⟩,d5⟩,d6⟩,d7⟩,e⟩:=d;obtain⟨e1,e2,e3,e4,e5,e6,e7,e8⟩:=of_decide_eq_true e;exact .inr (.inl ⟨k,⟨zwk d1,zwk d2,zwk d3,zwk d4,zwk d5,zwk d6,zwk d7⟩,⟨e1,e2,e3⟩,e4,⟨e5,e6⟩,by simpa using e7,by simpa using e8,⟨map_nil r,map_nil g⟩,hk,hb⟩)
 ·exact .inr (.inr (.inl ⟨k,zwD p,map_nil r,map_nil b,map_nil g⟩))
 ·refine .inr (.inr (.inr ⟨k,zwD p,⟨map_nil r,map_nil b⟩,fun h9=>g (by simp[LaG.q,h9]),fun y hy=>?_⟩));have h1:=e y.l (List.mem_map_of_mem (f:=GrV.l) hy);exact⟨h1.1.1,h1.1.2,h1.2⟩
theorem zwZ {V:World}:∀{ls:List LaV} {n s:Int},(∀l∈ls,LaN l V)->chkB (ls.map LaG.q) n s=true->ChkP V ls n s 0
 |[],_,_,_,_=>rfl
 |l::ls,n,s,h,hq=>by
  simp only[List.map_cons,chkB,Bool.and_eq_true,decide_eq_true_eq]at hq;obtain⟨⟨⟨h1,h2⟩,h3⟩,h4⟩:=hq;rw[zyN]at h2 h4;rw[zyY]at h3 h4;exact .inr ⟨zyv (h l (List.mem_cons_self ..)) h1,.inr ⟨by omega,zwZ (fun l hl=>h l (List.mem_cons_of_mem _ hl)) h4⟩⟩
theorem zxh:∀(ls:List LaV) (n:Int),((zqB ls n).getLast?).getD 0=zyb (ls.map LaG.q) n
 |[],n=>rfl
 |l::ls,n=>by
  have h:=zxh ls (zoP l n);rw[zqB,List.map_cons,zyb,zyN,<-h,List.getLast?_cons]
  cases hx:(zqB ls (zoP l n)).getLast? with
  |none=>exact absurd (List.getLast?_eq_none_iff.1 hx) (fun h9=>by have:=zwo ls (zoP l n);rw[h9]at this;exact absurd this (by decide))
  |some z=>rfl
def qryB (N:Int×List LQ) (Q:QQ):Bool:=
 decide (1<=N.1/\N.1<=64/\N.2.length<=16)&&chkB N.2 N.1 0&&decide ((Q.x0.length:Int)=N.1/\(Q.lo.length:Int)=N.1/\(Q.hi.length:Int)=N.1/\(Q.norm=1\/Q.norm=2))&&decide (∀p∈Q.lo.zip Q.hi,p.1<=p.2)&&decide (0<=Q.label/\Q.label<zyb N.2 N.1)
theorem zyn {N:Int×List LQ} {Q:QQ} (hB:qryB N Q=true) {V:World} {f:NeV} {q:QuV} (hf:(f.inputs,f.las.map LaG.q)=N) (hq:q.q=Q) (h:LsR 13 zw8 LaN f.A f.las V) (h2:QuF roN q V):QryP V f q 0:=by
 subst hf hq;unfold qryB at hB;simp only[Bool.and_eq_true,decide_eq_true_eq,QuG.q,List.length_map]at hB;obtain⟨⟨⟨⟨h3,h4⟩,h5⟩,h6⟩,h7⟩:=hB;have hn:NetP V f 0:=.inr ⟨h3,zwZ h.ok h4⟩;refine .inr ⟨hn,.inr ⟨⟨⟨⟨h5.1,h2.x0.ok⟩,⟨h5.2.1,h2.lo.ok⟩,h5.2.2.1,h2.hi.ok⟩,h5.2.2.2⟩,.inr ⟨fun i a b=>?_,.inr ⟨⟨(of_decide_eq_true h7).1,by unfold zx0;rw[zxh];exact(of_decide_eq_true h7).2⟩,rfl⟩⟩⟩⟩;exact of_decide_eq_true h6 ((q.lo[i]).2,(q.hi[i]).2) (List.mem_iff_getElem.2 ⟨i,by simp;omega,by simp⟩)

def szB (q:Rat):Bool:=decide (q.num.natAbs<B64^20)&&decide (q.den<B64^20)
def layB (q:LQ):Bool:=decide (q.rows.length<=100000)&&q.rows.all (fun r=>decide (r.length<=100))&&decide (q.bias.length<=100000)&&decide (q.kern.length<=100000)&&decide (q.grs.length<=100000)&&q.grs.all fun g=>decide (g.length<=1000)
def txB (ts:List Tk) (N:Int×List LQ) (Q:QQ):Bool:=
 decide (ts.length<=100)&&decide (0<ts.length)&&decide ((tkA ts (ts.length-1)).kind=1)&&ts.all (fun t=>decide (t.line<=1000000)&&szB t.x)&&decide ((Rz.query ts (Rz.net ts ⟨0,0,0⟩).2).2.e=0)&&decide (Q.x0.length<=100000/\Q.lo.length<=100000/\Q.hi.length<=100000)&&N.2.all layB&&decide (N.2.length<=100000)&&qryB N Q
def txT (s:List UInt8):List Tk:=(zdR parseR s).2.2
def txN (s:List UInt8):Int×List LQ:=(Rz.net (txT s) ⟨0,0,0⟩).1
def txQ (s:List UInt8):QQ:=(Rz.query (txT s) (Rz.net (txT s) ⟨0,0,0⟩).2).1
theorem zyE {q:LQ} (h:layB q=true):q.Lt:=by
 unfold layB at h;simp only[Bool.and_eq_true,decide_eq_true_eq,List.all_eq_true]at h;obtain⟨⟨⟨⟨⟨h1,h2⟩,h3⟩,h4⟩,h5⟩,h6⟩:=h;exact⟨h1,h2,h3,h4,h5,h6⟩
theorem zxN {s:List UInt8} (h0:(zdR parseR s).1=0) (h:txB (txT s) (txN s) (txQ s)=true):TxOk s (txT s) (txN s) (txQ s):=by
 unfold txB at h;simp only[Bool.and_eq_true,decide_eq_true_eq,List.all_eq_true]at h;obtain⟨⟨⟨⟨⟨⟨⟨⟨h1,h2⟩,h3⟩,h4⟩,h5⟩,h6⟩,h7⟩,h8⟩,h9⟩:=h;refine⟨⟨_,by rw[show zdR parseR s=((zdR parseR s).1,(zdR parseR s).2.1,(zdR parseR s).2.2)from rfl,h0];rfl⟩,h1,h2,fun i hi=>?_,fun t ht=>(h4 t ht).1,fun t ht=>?_,rfl,rfl,h5,?_,fun l hl=>zyE (h7 l hl),h8,fun V f q hf hq hn hqn=>zyn h9 hf hq hn hqn⟩
 ·rw[<-hi,Nat.add_sub_cancel]at h3;exact h3
 ·have:=(h4 t ht).2;unfold szB at this;simp only[Bool.and_eq_true,decide_eq_true_eq]at this;exact this
 ·obtain⟨a,b,c⟩:=h6;exact⟨a,b,c⟩
def awS:List UInt8:=[110,101,116,32,49,32,123,32,97,102,102,105,110,101,32,123,32,114,111,119,32,50,47,52,32,91,48,58,32,51,93,32,114,111,119,32,48,32,91,93,32,125,32,114,101,108,117,32,125,32,113,117,101,114,121,32,123,32,97,116,32,91,48,93,32,108,97,98,101,108,32,49,32,108,111,32,91,45,49,93,32,104,105,32,91,49,93,32,110,111,114,109,32,109,97,120,32,125]
def awW:List UInt8:=[110,101,116,32,49,32,123,10,32,32,97,102,102,105,110,101,32,123,10,32,32,32,32,114,111,119,32,49,47,50,32,91,48,58,32,51,93,10,32,32,32,32,114,111,119,32,48,32,91,93,10,32,32,125,10,32,32,114,101,108,117,10,125,10,113,117,101,114,121,32,123,32,97,116,32,91,48,93,32,108,97,98,101,108,32,49,32,108,111,32,91,45,49,93,32,104,105,32,91,49,93,32,110,111,114,109,32,109,97,120,32,125,10]
set_option maxRecDepth 100000 in
theorem zxS:(zdR parseR awS).1=0/\txB (txT awS) (txN awS) (txQ awS)=true/\netS (txN awS).1 (txN awS).2++quS (txQ awS)=awW/\awW.length<=262144:=by decide+kernel
theorem zx8 (w:World) (hT:Tz w) (ht:Tab w):Calls Tryz.prog 7 #[] w fun e w'=>e=.returned (.bool true)/\Below w.heap.size w w':=by
 have HT:=znd (And.intro hT ht);clear hT ht;go_enter Tryz.func7,Tryz.ntmps7;go_wp2_with fail;refine(zwX (bA awS) (bA awW) (txT awS) (txN awS) (txQ awS) (by rw[show(bA awS).data.toList=awS by simp[bA]];exact zxN zxS.1 zxS.2.1) (by rw[show(bA awW).data.toList=awW by simp[bA]];exact zxS.2.2.1) (by rw[show(bA awW).data.toList=awW by simp[bA]];exact zxS.2.2.2) w HT.out.1 HT.out.2).mono ?_;rintro e W1 ⟨rfl,hb⟩;have HB:=znd hb;clear hb;go_wp2_with fail;go_ret;exact⟨rfl,HB.out⟩

def bigE:Nat:=3136
def bigQ:Rat:=Rat.divInt (2^bigE) 1
def bigRow:List (Int×Rat):=(List.range 64).map fun i:Nat=>((i:Int),bigQ)
def bigL (k:Nat):LQ:=⟨1,List.replicate k bigRow,List.replicate k 0,[0,0,0,0,0,0,0,0],[],[]⟩
set_option maxRecDepth 100000 in
theorem zyp:(zoT bigQ).length=945:=by decide+kernel
theorem zwz (sep:List UInt8):∀l:List (List UInt8),(Lib.joinTail sep l).length=(l.map List.length).sum+l.length*sep.length
 |[]=>by simp[Lib.joinTail]
 |x::l=>by
  have h:=zwz sep l;have e:Lib.joinTail sep (x::l)=sep++x++Lib.joinTail sep l:=by simp[Lib.joinTail]
  rw[e,List.length_append,List.length_append,h,List.map_cons,List.sum_cons,List.length_cons,Nat.add_mul];omega
theorem zye (sep x:List UInt8) (l:List (List UInt8)):(Lib.join (x::l) sep).length=x.length+((l.map List.length).sum+l.length*sep.length):=by
 rw[Lib.join_cons,List.length_append,zwz]
theorem zyd:(((List.range 64).map fun i:Nat=>(Lib.itoa (i:Int)).length).sum)=118:=by decide+kernel
theorem zyP (i:Nat):(teS ((i:Int),bigQ)).length=(Lib.itoa (i:Int)).length+947:=by
 unfold teS;rw[List.length_append,List.length_cons,List.length_cons,zyp]
theorem zxr:(tsS bigRow).length=60854:=by
 have h:((bigRow.map teS).map List.length).sum=60726:=by
  unfold bigRow;rw[List.map_map,List.map_map];have e:(List.length∘teS)∘(fun i:Nat=>((i:Int),bigQ))=fun i:Nat=>(Lib.itoa (i:Int)).length+947:=funext fun i=>zyP i;rw[e];have hs:∀(f:Nat->Nat) (l:List Nat),(l.map fun i=>f i+947).sum=(l.map f).sum+l.length*947:=fun f l=>by
   induction l with
   |nil=>rfl
   |cons x l ih=>rw[List.map_cons,List.map_cons,List.sum_cons,List.sum_cons,ih,List.length_cons];omega
  rw[hs,zyd,List.length_range]
 unfold tsS brS;rw[List.length_cons,List.length_append];have hln:(bigRow.map teS).length=64:=by rw[List.length_map];unfold bigRow;rw[List.length_map,List.length_range]
 obtain⟨x,l,hl⟩:∃x l,bigRow.map teS=x::l:=List.exists_cons_of_length_pos (by omega);rw[hl]at h hln⊢;have h2:l.length=63:=by rw[List.length_cons]at hln;omega
 rw[zye,h2];rw[List.map_cons,List.sum_cons]at h;simp only[List.length_cons,List.length_nil];omega
theorem zxX:(zoT 0).length=1:=by decide+kernel
theorem zyu (b:Rat) (ts:List (Int×Rat)):(rwS b ts).length=10+(zoT b).length+(tsS ts).length:=by
 unfold rwS;simp only[List.length_append,List.length_cons,List.length_nil];omega
theorem zyI:(rwS 0 bigRow).length=60865:=by rw[zyu,zxX,zxr]
theorem zxw:∀k,(rwsS (List.replicate k 0) (List.replicate k bigRow)).length=k*60865
 |0=>rfl
 |k+1=>by
  have h:=zxw k;unfold rwsS at h⊢;rw[List.replicate_succ,List.replicate_succ,List.zip_cons_cons,List.map_cons,List.flatten_cons,List.length_append,h,zyI];omega
theorem zyF (k:Nat):(layS (bigL k)).length=15+k*60865:=by
 have e:layS (bigL k)=affS (bigL k):=if_pos rfl;rw[e];unfold affS endS;simp only[List.length_append,List.length_cons,List.length_nil];rw[show(rwsS (bigL k).bias (bigL k).rows).length=k*60865 from zxw k];omega
theorem zwv (k:Nat):(netS 64 [bigL k]).length=26+k*60865:=by
 unfold netS;simp only[List.map_cons,List.map_nil,List.flatten_cons,List.flatten_nil,List.length_append,List.length_cons,List.length_nil,zyF,show(Lib.itoa 64).length=2 from by decide+kernel];omega

set_option maxRecDepth 100000 in
theorem zyf:rowB 64 bigRow=true:=by decide+kernel
theorem zyh (k:Nat) (h0:1<=k) (hk:k<=256) (_hk2:k*64<=16384):chkB [bigL k] 64 0=true:=by
 have h1:bigRow.length=64:=by unfold bigRow;rw[List.length_map,List.length_range]
 have hr:(List.replicate k bigRow).all (rowB 64)=true:=by
  rw[List.all_eq_true];intro r hr;rw[List.eq_of_mem_replicate hr];exact zyf
 have hs:((List.replicate k bigRow).map fun r=>(r.length:Int)).sum=k*64:=by
  rw[List.map_replicate,h1];clear hr h0 hk _hk2
  induction k with
  |zero=>rfl
  |succ k ih=>rw[List.replicate_succ,List.sum_cons,ih];omega
 have hf:fitB (bigL k) 64=true:=by
  unfold fitB;have hne:(bigL k).rows≠[]:=by
   show List.replicate k bigRow≠[]
   intro h9;have:=congrArg List.length h9;rw[List.length_replicate]at this;simp at this;omega
  have hl:(bigL k).rows.length=(bigL k).bias.length:=by
   show(List.replicate k bigRow).length=(List.replicate k (0:Rat)).length;rw[List.length_replicate,List.length_replicate]
  rw[show(bigL k).rows.all (rowB 64)=true from hr,decide_eq_true hne,decide_eq_true hl];rfl
 have hu:uQ (bigL k) 64=k:=by
  show(((List.replicate k bigRow).length:Nat):Int)=k;rw[List.length_replicate]
 have ht:tQ (bigL k)=k*64:=hs;unfold chkB;rw[hf,hu,ht,decide_eq_true (show(k:Int)<=256 by omega),decide_eq_true (show 0+(k:Int)*64<=16384 by omega)];rfl

def tesL (k:RV) (i:Nat):List TeV:=(List.range i).map fun n:Nat=>⟨(n:Int),k,bigQ⟩
def zwf (At:Option Addr) (ct:Nat) (Ar:Option Addr) (cr:Nat) (Ab:Option Addr) (cb:Nat) (k:RV) (m:Nat):LaV:=⟨1,Ar,cr,List.replicate m ⟨At,ct,tesL k 64⟩,Ab,cb,List.replicate m (za9,0),0,0,0,0,0,0,0,0,none,0,[],none,0,[]⟩
theorem zyL:Sz bigQ 50:=by
 constructor<;>decide+kernel
attribute [local irreducible] bigQ
section
variable {V:World} {At Ar Ab:Option Addr} {ct cr cb m:Nat} {k:RV}
theorem zwN:(zwf At ct Ar cr Ab cb k m).q=bigL m:=by
 unfold zwf LaG.q bigL;dsimp only;rw[List.map_replicate,List.map_replicate];have e:(tesL k 64).map plq=bigRow:=by
  unfold tesL bigRow;rw[List.map_map];rfl
 rw[e];rfl
theorem zxH (hk:RatN k bigQ V) (hT:El V 5 At ((tesL k 64).map zw7)) (hR:El V 1 Ar ((List.replicate m (⟨At,ct,tesL k 64⟩:VeV)).map za3)) (hB:El V 4 Ab ((List.replicate m ((za9,0):RV×Rat)).map rtcells)):LaN (zwf At ct Ar cr Ab cb k m) V:=by
 refine⟨⟨hR,fun v hv=>?_⟩,⟨hB,fun p hp=>?_⟩,LsR.nil_ _,LsR.nil_ _⟩
 ·rw[List.eq_of_mem_replicate hv];refine⟨hT,fun t ht=>?_⟩;obtain⟨n,-,rfl⟩:=List.mem_map.1 ht;exact hk
 ·rw[List.eq_of_mem_replicate hp];exact zbc V
theorem zxL (h:LaN (zwf At ct Ar cr Ab cb k m) V):LaD 50 (zwf At ct Ar cr Ab cb k m) V:=by
 refine⟨h.rows.imp fun v hv h2=>LsR.imp h2 fun t ht h3=>?_,h.bias.imp fun p hp h2=>?_,LsR.nil_ _,LsR.nil_ _⟩
 ·have hv':v=⟨At,ct,tesL k 64⟩:=List.eq_of_mem_replicate hv;subst hv';obtain⟨n,-,rfl⟩:=List.mem_map.1 ht;exact RatN.rat h3 zyL
 ·have hp':p=(za9,0):=List.eq_of_mem_replicate hp;subst hp';exact RatN.rat h2 ((show Sz 0 1 from⟨by decide,by decide⟩).up (by decide))
theorem zxO (A:Option Addr) (h:LaN (zwf At ct Ar cr Ab cb k m) V) (h0:1<=m) (hm:m<=256):NetP V ⟨64,A,1,[zwf At ct Ar cr Ab cb k m]⟩ 0:=
 .inr ⟨⟨(by decide:(1:Int)<=64),(by decide:(64:Int)<=64),(by decide:1<=16)⟩,zwZ (fun l hl=>by rw[List.mem_singleton.1 hl];exact h) (by rw[List.map_singleton,zwN];exact zyh m h0 hm (by omega))⟩
theorem zxA (hm:m<=100000) (A:Option Addr):NeS ⟨64,A,1,[zwf At ct Ar cr Ab cb k m]⟩:=⟨(by decide:1<=100000),fun l hl=>by
 rw[List.mem_singleton.1 hl];have h1:(List.replicate m (⟨At,ct,tesL k 64⟩:VeV)).length<=100000:=by rw[List.length_replicate];exact hm
 have h2:(List.replicate m ((za9,0):RV×Rat)).length<=100000:=by rw[List.length_replicate];exact hm
 exact⟨h1,fun v hv=>by rw[List.eq_of_mem_replicate hv];show(tesL k 64).length<=1000;unfold tesL;rw[List.length_map,List.length_range];decide,h2,(by decide:0<=100000),(by decide:0<=100000),fun g hg=>absurd hg (List.not_mem_nil)⟩⟩
theorem zxz (hm:m<=100000) (A:Option Addr):(netS (⟨64,A,1,[zwf At ct Ar cr Ab cb k m]⟩:NeV).inputs ((⟨64,A,1,[zwf At ct Ar cr Ab cb k m]⟩:NeV).las.map LaG.q)).length<=35184372088832:=by
 show(netS 64 [(zwf At ct Ar cr Ab cb k m).q]).length<=_;rw[zwN,zwv];omega
end
end Go.Proofs.YtegfiemlnnpidaaGreatDoor
