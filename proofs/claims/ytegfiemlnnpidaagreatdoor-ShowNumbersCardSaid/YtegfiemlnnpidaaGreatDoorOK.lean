/-
 tripwireref11.Parse of a text without a fault.
-/
import Derived.Test.YtegfiemlnnpidaaGreatDoorOJ
import Derived.Test.YtegfiemlnnpidaaGreatDoorUL
import Derived.Test.YtegfiemlnnpidaaGreatDoorRef9
namespace Go.Proofs.YtegfiemlnnpidaaGreatDoor
set_option maxHeartbeats 8000000
open Go.RowKit

theorem TokR.old {A:Option Addr} {ps:List (Tk×RV)} {w:World} (h:TokR w A ps):Rests w (·<w.heap.size) (fun V=>TokR V A ps):=
 (h.el.old.and (Rests.all (φ:=fun(p:Tk×RV) V=>RatN p.2 p.1.x V) fun p hp=>(h.num p hp).old)).imp fun _ h=>⟨h.1,h.2⟩
theorem zyB (s:ByteArray) (ts:List Tk) (l0:Nat) (ht:zdR parseR s.data.toList=(0,l0,ts)) (h0:0<ts.length) (w:World):Calls Tryz.prog 69 #[.string s] w fun e w'=>∃b c ps,e=.returned (.tuple #[.slice (some ⟨b,0,none⟩) (List.length ps) c,.agg #[.int .i64 0,.int .i64 (l0:Nat)]])/\ps.map Prod.fst=ts/\ps.length<=c/\Rests w' (w.heap.size<=·) (fun V=>TokR V (some ⟨b,0,none⟩) ps)/\Below w.heap.size w w':=by
 refine(zx3 s w).mono ?_;rintro e w' ⟨v,ps,rfl,hp,ho,-,hb⟩;rw[ht]at hp⊢;obtain⟨A,c,hv,hc,hr⟩:=ho.read;have hl:0<ps.length:=by have h9:=congrArg List.length hp;rw[List.length_map]at h9;dsimp only at h9;omega
 have hs:=TokR.rests ho hv hr;rcases ho.own.2.2 with⟨h1,h2⟩|⟨g,cap,cur,h1,h2⟩
 ·exfalso;rw[h1]at hv;injection hv with h3 h4 h5;omega
 ·rw[hv]at h1;injection h1 with h3 h4 h5;subst h3;exact⟨g,c,ps,by rw[hv];rfl,hp,hc,hs,hb⟩
section
variable {K:RK} {s:Rz}
theorem zxD (hK:K.Ok) (hi:s.i<K.ps.length) (he:s.e=0):s.i+1<=(s.layer K.ts).2.i\/(s.layer K.ts).2.e≠0:=by
 unfold Rz.layer
 split
 ·rename_i h;left;obtain⟨h1,h2,h3⟩:=zwr hK hi h;exact Nat.le_trans (by rw[h3];exact Nat.le_refl _) (Rz.affine_i _)
 split
 ·rename_i h;left;obtain⟨h1,h2,h3⟩:=zwr hK hi h;exact Nat.le_trans (by rw[h3];exact Nat.le_refl _) (Rz.conv_i _)
 split
 ·rename_i h;left;obtain⟨h1,h2,h3⟩:=zwr hK hi h;show s.i+1<=(s.step K.ts).i;rw[h3];exact Nat.le_refl _
 split
 ·rename_i h;left;obtain⟨h1,h2,h3⟩:=zwr hK hi h;exact Nat.le_trans (by rw[h3];exact Nat.le_refl _) (Rz.pool_i _)
 ·right;show(s.fail K.ts 21).e≠0;unfold Rz.fail;rw[if_pos he];exact(by decide:(21:Nat)≠0)
end
section
variable {ts:List Tk}
theorem Rz.layer_i (s:Rz):s.i<=(s.layer ts).2.i:=by
 unfold Rz.layer
 split
 ·exact Nat.le_trans s.step_i (Rz.affine_i _)
 split
 ·exact Nat.le_trans s.step_i (Rz.conv_i _)
 split
 ·exact s.step_i
 split
 ·exact Nat.le_trans s.step_i (Rz.pool_i _)
 ·exact Nat.le_of_eq (s.fail_i 21).symm
theorem Rz.sees_s {s:Rz} (h:s.e≠0) (k:List UInt8):s.sees ts k=false:=by unfold Rz.sees;rw[decide_eq_false h];rfl
theorem Rz.num_s {s:Rz} (h:s.e≠0):s.num ts=false:=by unfold Rz.num;rw[decide_eq_false h];rfl
theorem Rz.fail_s {s:Rz} (h:s.e≠0) (k:Nat):s.fail ts k=s:=if_neg h
theorem Rz.take_s {s:Rz} (h:s.e≠0) (k:List UInt8):s.take ts k=s:=by unfold Rz.take;rw[Rz.sees_s h,if_neg (by decide),Rz.fail_s h]
theorem Rz.small_s {s:Rz} (h:s.e≠0):(s.small ts).2=s:=by unfold Rz.small;rw[Rz.num_s h,Bool.false_and,if_neg (by decide),Rz.fail_s h]
theorem Rz.list_s {s:Rz} (h:s.e≠0) (b:Bool):(s.list ts b).2=s:=by
 unfold Rz.list;rw[Rz.take_s h,zxx (Rz.num_s h)];dsimp only;rw[Rz.sees_s h,Bool.and_false,if_neg (by decide),Rz.take_s h]
theorem Rz.query_s {s:Rz} (h:s.e≠0):(s.query ts).2=s:=by
 unfold Rz.query;simp only[Rz.take_s h,Rz.list_s h,Rz.small_s h,Rz.sees_s h];simp[Rz.take_s h,h]
theorem RG.sx {K:RK} {s:Rz} {ls:List Ow} {new:World->Prop} {W:World} {g sz:Nat} {e:TypeId} {c:Array Value} (h:RG K s (bow g e sz c::ls) new W) (i:Nat) (hi:i<sz) (u:Value) (c':Array Value) (hc:c.setIfInBounds i u=c'):∃W',W.setCell ⟨g,i,none⟩ u=W'/\Hid (RG K s (bow g e sz c'::ls) new W'):=⟨_,rfl,znd (by rw[<-hc];exact h.s1 i hi u)⟩
end
@[reducible] def QuK (K:RK):QuV->World->Prop:=QuF (fun p _=>okP K p)
def NeN (f:NeV) (V:World):Prop:=LsR 13 zw8 LaN f.A f.las V
@[reducible] def QuN:QuV->World->Prop:=QuF roN
section
variable {K:RK} {V:World}
theorem okP.d (hK:K.Ok) {n:Nat} (hs:∀t∈K.ts,Sz t.x n) (h1:1<=n) {p:RV×Rat} (h:okP K p) (hV:K.old V):RatD p.1 p.2 n V:=by
 refine(h.rat hK hV).rat ?_;rcases h with rfl|⟨x,hx,rfl⟩
 ·exact(show Sz 0 1 from⟨by decide,by decide⟩).up h1
 ·exact hs _ (List.mem_map_of_mem hx)
theorem LaK.f {okT:TeV->World->Prop} {okR:RV×Rat->World->Prop} {l:LaV} (h:LaK K l V) (hT:∀t:TeV,okP K (t.r,t.q)->okT t V) (hR:∀p,okP K p->okR p V):LaF okT okR l V:=
 ⟨h.rows.imp fun _ _ h2=>LsR.imp h2 fun t _ h3=>hT t h3,h.bias.imp fun p _ h2=>hR p h2,h.kern.imp fun p _ h2=>hR p h2,h.grs⟩
theorem zxm (hK:K.Ok) {n:Nat} (hs:∀t∈K.ts,Sz t.x n) (h1:1<=n) {A:Option Addr} {l:List LaV} (h:LsR 13 zw8 (LaK K) A l V) (hV:K.old V):LsR 13 zw8 (LaD n) A l V:=h.imp fun _ _ h2=>LaK.f h2 (fun _ h3=>h3.d hK hs h1 hV) fun _ h3=>h3.d hK hs h1 hV
theorem zxT (hK:K.Ok) {A:Option Addr} {l:List LaV} (h:LsR 13 zw8 (LaK K) A l V) (hV:K.old V):LsR 13 zw8 LaN A l V:=h.imp fun _ _ h2=>LaK.f h2 (fun _ h3=>h3.rat hK hV) fun _ h3=>h3.rat hK hV
theorem zy3 (hK:K.Ok) {n:Nat} (hs:∀t∈K.ts,Sz t.x n) (h1:1<=n) {q:QuV} (h:QuK K q V) (hV:K.old V):QuD n q V:=⟨h.x0.imp fun _ _ h3=>h3.d hK hs h1 hV,h.lo.imp fun _ _ h3=>h3.d hK hs h1 hV,h.hi.imp fun _ _ h3=>h3.d hK hs h1 hV⟩
theorem zyj (hK:K.Ok) {q:QuV} (h:QuK K q V) (hV:K.old V):QuN q V:=⟨h.x0.imp fun _ _ h3=>h3.rat hK hV,h.lo.imp fun _ _ h3=>h3.rat hK hV,h.hi.imp fun _ _ h3=>h3.rat hK hV⟩
theorem Env.st7 {w W:World} {bs:List Bo} {old new:World->Prop} {g:Nat} {t:TypeId} {u0 u1 u2 u3 u4 u5 u6:Value} (h:Env w (⟨g,t,#[u0,u1,u2,u3,u4,u5,u6]⟩::bs) old new W) (a0 a1 a2 a3 a4 a5 a6:Value):∃W',(((((((W.setCell ⟨g,0,none⟩ a0).setCell ⟨g,1,none⟩ a1).setCell ⟨g,2,none⟩ a2).setCell ⟨g,3,none⟩ a3).setCell ⟨g,4,none⟩ a4).setCell ⟨g,5,none⟩ a5).setCell ⟨g,6,none⟩ a6)=W'/\Hid (Env w (⟨g,t,#[a0,a1,a2,a3,a4,a5,a6]⟩::bs) old new W'):=by
 have h1:Env w (⟨g,t,#[a0,u1,u2,u3,u4,u5,u6]⟩::bs) old new (W.setCell ⟨g,0,none⟩ a0):=h.put 0 a0;have h2:Env w (⟨g,t,#[a0,a1,u2,u3,u4,u5,u6]⟩::bs) old new ((W.setCell ⟨g,0,none⟩ a0).setCell ⟨g,1,none⟩ a1):=h1.put 1 a1;have h3:Env w (⟨g,t,#[a0,a1,a2,u3,u4,u5,u6]⟩::bs) old new (((W.setCell ⟨g,0,none⟩ a0).setCell ⟨g,1,none⟩ a1).setCell ⟨g,2,none⟩ a2):=h2.put 2 a2;have h4:Env w (⟨g,t,#[a0,a1,a2,a3,u4,u5,u6]⟩::bs) old new ((((W.setCell ⟨g,0,none⟩ a0).setCell ⟨g,1,none⟩ a1).setCell ⟨g,2,none⟩ a2).setCell ⟨g,3,none⟩ a3):=h3.put 3 a3;have h5:Env w (⟨g,t,#[a0,a1,a2,a3,a4,u5,u6]⟩::bs) old new (((((W.setCell ⟨g,0,none⟩ a0).setCell ⟨g,1,none⟩ a1).setCell ⟨g,2,none⟩ a2).setCell ⟨g,3,none⟩ a3).setCell ⟨g,4,none⟩ a4):=h4.put 4 a4;have h6:Env w (⟨g,t,#[a0,a1,a2,a3,a4,a5,u6]⟩::bs) old new ((((((W.setCell ⟨g,0,none⟩ a0).setCell ⟨g,1,none⟩ a1).setCell ⟨g,2,none⟩ a2).setCell ⟨g,3,none⟩ a3).setCell ⟨g,4,none⟩ a4).setCell ⟨g,5,none⟩ a5):=h5.put 5 a5;have h7:Env w (⟨g,t,#[a0,a1,a2,a3,a4,a5,a6]⟩::bs) old new (((((((W.setCell ⟨g,0,none⟩ a0).setCell ⟨g,1,none⟩ a1).setCell ⟨g,2,none⟩ a2).setCell ⟨g,3,none⟩ a3).setCell ⟨g,4,none⟩ a4).setCell ⟨g,5,none⟩ a5).setCell ⟨g,6,none⟩ a6):=h6.put 6 a6;exact⟨_,rfl,znd h7⟩
end
def zyG (N:Int×List LQ) (Q:QQ) (w:World) (e:Ending) (w':World):Prop:=∃(f:NeV) (q:QuV),e=.returned (.tuple #[.agg #[.int .i64 f.inputs,.slice f.A f.las.length f.c,.slice q.A0 q.x0.length q.c0,.int .i64 q.label,.slice q.A1 q.lo.length q.c1,.slice q.A2 q.hi.length q.c2,.int .u8 q.norm],.agg #[.int .i64 0,.int .i64 0]])/\(f.inputs,f.las.map LaG.q)=N/\q.q=Q/\Rests w' (w.heap.size<=·) (fun V=>(NeN f V/\QuN q V)/\NeD 20 f V/\QuD 20 q V)/\Below w.heap.size w w'
structure QuS' (Q:QQ):Prop where
 x:Q.x0.length<=100000
 l:Q.lo.length<=100000
 h:Q.hi.length<=100000
structure LQ.Lt (q:LQ):Prop where
 rows:q.rows.length<=100000
 row:∀r∈q.rows,r.length<=100
 bias:q.bias.length<=100000
 kern:q.kern.length<=100000
 grs:q.grs.length<=100000
 gr:∀g∈q.grs,g.length<=1000
theorem LQ.Lt.la {l:LaV} (h:l.q.Lt):LaT l:=by
 have hr:∀v∈l.rows,v.ts.length<=100:=fun v hv=>by
  have:=h.row (v.ts.map plq) (List.mem_map_of_mem (f:=fun v:VeV=>v.ts.map plq) hv)
  rwa [List.length_map]at this
 have h1:=h.rows;have h2:=h.bias;have h3:=h.kern;have h4:=h.grs;simp only[LaG.q,List.length_map]at h1 h2 h3 h4;exact⟨⟨h1,fun v hv=>Nat.le_trans (hr v hv) (by decide),h2,h3,h4,fun g hg=>h.gr g.l (List.mem_map_of_mem (f:=GrV.l) hg)⟩,hr⟩
theorem QuS'.qs {q:QuV} (h:QuS' q.q):QuS q:=by
 have h1:=h.x;have h2:=h.l;have h3:=h.h;simp only[QuG.q,List.length_map]at h1 h2 h3;exact⟨h1,h2,h3⟩
structure TxOk (s:List UInt8) (ts:List Tk) (N:Int×List LQ) (Q:QQ):Prop where
 t:∃l0,zdR parseR s=(0,l0,ts)
 n:ts.length<=100
 p:0<ts.length
 e:∀i,i+1=ts.length->(tkA ts i).kind=1
 ln:∀t∈ts,t.line<=1000000
 sz:∀t∈ts,Sz t.x 20
 hN:(Rz.net ts ⟨0,0,0⟩).1=N
 hQ:(Rz.query ts (Rz.net ts ⟨0,0,0⟩).2).1=Q
 ok:(Rz.query ts (Rz.net ts ⟨0,0,0⟩).2).2.e=0
 qs:QuS' Q
 la:∀l∈N.2,l.Lt
 nl:N.2.length<=100000
 P:∀(V:World) (f:NeV) (q:QuV),(f.inputs,f.las.map LaG.q)=N->q.q=Q->NeN f V->QuN q V->QryP V f q 0
set_option maxRecDepth 100000 in
theorem zx5 (s:ByteArray) (ts:List Tk) (N:Int×List LQ) (Q:QQ) (hX:TxOk s.data.toList ts N Q) (w:World):Calls Tryz.prog 38 #[.string s] w (zyG N Q w):=by
 obtain⟨l0,hT⟩:=hX.t;have HT:=znd hT;have HX:=znd hX;clear hT hX;obtain⟨W0,hW0⟩:∃W0,W0=((w.alloc (.cells #[.int .i64 0,.slice none 0 0,.slice none 0 0,.int .i64 0,.slice none 0 0,.slice none 0 0,.int .u8 0] 40)).alloc (.cells #[.int .i64 0,.int .i64 0] 73)):=⟨_,rfl⟩;have HE:=znd (Env.lay2 (Env.start (Rests.pure trivial _ _)) hW0);subst hW0;have c:=Env.c2 HE.out;have dd:=Env.d2 HE.out;go_enter Tryz.func38,Tryz.ntmps38;go_wp2_with fail;refine(zyB s ts l0 HT.out HX.out.p _).mono ?_;rintro e w1 ⟨b,cp,ps,rfl,hps,hc,hk,hb⟩;replace HE:=znd (Env.ret HE.out hk hb);have hT1:=hk.now;have Hps:=znd hps;have Hc:=znd hc;clear hk hb c dd hps hc;obtain⟨old,hold⟩:∃old:World->Prop,old=fun V=>TokR V (some ⟨b,0,none⟩) ps:=⟨_,rfl⟩;have HG0:GL w1 [] old (fun _=>True) w1:=by rw[hold];exact(GL.start (Env.start hT1.old)).imp (fun _ h=>h.2) fun _ _=>trivial
 have Hold:=znd hold;clear hT1 hold;obtain⟨W2,g5,hW2,hg5,H5⟩:=HG0.ab 73 #[.int .i64 0,.int .i64 0];obtain⟨W3,hW3,H6⟩:∃W3,(W2.setCell ⟨g5,0,none⟩ (.int .i64 0)).setCell ⟨g5,1,none⟩ (.int .i64 (l0:Nat))=W3/\Hid (GL w1 [bow g5 73 2 #[.int .i64 0,.int .i64 (l0:Nat)]] old (fun _=>True) W3):=⟨_,rfl,znd (H5.out.bcs (k:=0) rfl [(0,.int .i64 0),(1,.int .i64 (l0:Nat))] (by simp))⟩;have c5:=H5.out.cb (k:=0) rfl;go_upto_region 2 with fail;clear c5 hW2 hg5 hW3 H5 HG0;have c5:=H6.out.cb (k:=0) rfl;go_upto_region 4 with fail;clear c5;obtain⟨W4,g6,hW4,hg6,H7⟩:=H6.out.ab 115 #[.slice (some ⟨b,0,none⟩) (List.length ps) cp,.int .i64 0,.int .i64 0];go_upto_region 5 with fail;obtain⟨W5,g7,hW5,hg7,H8⟩:=H7.out.ab 40 #[.int .i64 0,.slice none 0 0,.slice none 0 0,.int .i64 0,.slice none 0 0,.slice none 0 0,.int .u8 0];go_upto_region 6 with fail;clear hW4 hg6 hW5 hg7 H7 H6;obtain⟨K,hKe⟩:∃K:RK,K=⟨w1,g6,b,cp,ps,old⟩:=⟨_,rfl⟩;have hKt:K.ts=ts:=by rw[hKe];exact Hps.out
 have hKl:K.ps.length=ts.length:=by rw[<-hKt,K.len]
 have hKw:K.w=w1:=by rw[hKe]
 have hKg:g6=K.g:=by rw[hKe]
 have hK:K.Ok:=⟨by rw[hKe];intro V h;have h2:=Hold.out;rw[h2]at h;exact h,by rw[hKe];exact Hc.out,by rw[hKl];have:=HX.out.n;omega,by rw[hKt,hKl];exact HX.out.e,by rw[hKt];exact HX.out.ln,by rw[hKt];exact fun t ht=>(HX.out.sz t ht).up (by decide)⟩;have hs20:∀t∈K.ts,Sz t.x 20:=by rw[hKt];exact HX.out.sz
 obtain⟨s0,hs0⟩:∃q:Rz,q=⟨0,0,0⟩:=⟨_,rfl⟩;have HG:Hid (RG K s0 (bow g7 40 7 #[.int .i64 0,.slice none 0 0,.slice none 0 0,.int .i64 0,.slice none 0 0,.slice none 0 0,.int .u8 0]::bow g5 73 2 #[.int .i64 0,.int .i64 (l0:Nat)]::[]) (fun _=>True) W5):=znd (by rw[hs0,hKe];exact⟨H8.out.perm (List.Perm.swap ..),by have:=HX.out.p;rw[<-hKl,hKe]at this;exact this⟩);have hok:=HX.out.ok;have hNN:=HX.out.hN;have hQQ:=HX.out.hQ;rw[<-hKt,<-hs0]at hok hNN hQQ;have HOK:=znd hok;have HNN:=znd hNN;have HQQ:=znd hQQ;have Hs20:=znd hs20;have hKn:=znd (show K.ps.length<=100 by rw[hKl];exact HX.out.n);have HKw:=znd hKw;have HOT:=znd (show∀V,TokR V (some ⟨b,0,none⟩) ps->K.old V from by rw[hKe];intro V h;rw[Hold.out];exact h);rw[hKg];clear H8 hKe hKt hKl hKw hKg hs0 hok hNN hQQ hs20 Hps Hc Hold;have hsz7:=zwg;have hadd:=zaa;have ct:=HG.out.tk hK;have hnn:0<K.ps.length-s0.i:=by have:=HG.out.i;omega
 have c:=HG.out.cb;obtain⟨A,hA⟩:∃A,A=some (⟨K.b,s0.i*7,none⟩:Addr):=⟨_,rfl⟩;have sla:Sl A (K.ps.length-s0.i):=by rw[hA];exact Sl.some_ _ _ _
 unfold rdC at c;rw[<-hA]at c ct;obtain⟨n,hn⟩:∃n,n=K.ps.length-s0.i:=⟨_,rfl⟩;rw[<-hn]at c sla hnn;have hn1:(0:Int)<(n:Int):=by omega
 obtain⟨t,ht⟩:∃t,t=tkA K.ts s0.i:=⟨_,rfl⟩;obtain⟨r,hr⟩:∃r,r=rvA K s0.i:=⟨_,rfl⟩;rw[<-ht,<-hr]at ct;dsimp only[TkC]at ct;have Ht:=znd ht;clear hA hn hr ht;go_upto_region 7 with fail;clear ct c sla hnn hn1;obtain⟨ln1,hln1⟩:∃z:Int,z=(t.line:Nat):=⟨_,rfl⟩;rw[<-hln1];clear hln1 Ht;obtain⟨x1,hx1⟩:∃x9,x9=Rz.take K.ts s0 [110,101,116]:=⟨_,rfl⟩;have Ex1:=znd hx1;clear hx1;go_wp2_with fail;refine(zwb K hK s0 HG.out [110,101,116] x1 Ex1.out).mono ?_;rintro e aV1 ⟨⟨wa0,rfl⟩,h9⟩;have aG1:=znd h9;clear h9 HG;obtain⟨a,ha⟩:∃x9,x9=Rz.small K.ts x1:=⟨_,rfl⟩;have Ea:=znd ha;clear ha;go_wp2_with fail;refine(zwm K hK x1 aG1.out a Ea.out).mono ?_;rintro e aV2 ⟨rfl,h9⟩;have aG2:=znd h9;clear h9 aG1;have c:=aG2.out.c1;obtain⟨aV3,hV,aG3⟩:=aG2.out.sx 0 (by decide) (.int .i64 a.1) (#[.int .i64 a.1,.slice none 0 0,.slice none 0 0,.int .i64 0,.slice none 0 0,.slice none 0 0,.int .u8 0]) rfl;clear aG2;obtain⟨x2,hx2⟩:∃x9,x9=Rz.take K.ts a.2 [123]:=⟨_,rfl⟩;have Ex2:=znd hx2;clear hx2;go_wp2_with fail;clear c hV;refine(zwb K hK a.2 aG3.out [123] x2 Ex2.out).mono ?_;rintro e aV4 ⟨⟨wa3,rfl⟩,h9⟩;have aG4:=znd h9;clear h9 aG3;obtain⟨r,hr⟩:∃q,q=Rz.layers K.ts (K.ts.length+1) x2:=⟨_,rfl⟩;have hrl:r.1.length<=1000000:=by have h5:=Rz.layers_l (ts:=K.ts) (K.ts.length+1) x2;rw[<-hr,K.len]at h5;have:=hKn.out;omega
 have Er:=znd hr;have Erl:=znd hrl;clear hr hrl;replace aG4:=znd (aG4.out.nl 49 13);have hszl:=zpP;go_wp2_with fail;go_loopw [] (fun wr=>∃(Al:Option Addr) (cl f:Nat) (x:Rz) (las:List LaV),Hid (x.e=0->K.ps.length-x.i+1<=f)/\Hid (las.map LaG.q++(Rz.layers K.ts f x).1=r.1/\(Rz.layers K.ts f x).2=r.2)/\Hid (RG K x (⟨49,13,.slice Al (List.length las) cl,List.map zw8 las⟩::bow g7 40 7 #[.int .i64 a.1,.slice Al (List.length las) cl,.slice none 0 0,.int .i64 0,.slice none 0 0,.slice none 0 0,.int .u8 0]::bow g5 73 2 #[.int .i64 0,.int .i64 (l0:Nat)]::[]) (fun V=>(∀l∈las,LaK K l V)/\True) wr)) (fun wr=>rdM K wr)
 case atStart=>exact⟨none,0,K.ts.length+1,x2,[],znd (fun _=>by rw[K.len];omega),znd ⟨by rw[Er.out];rfl,by rw[Er.out]⟩,znd (aG4.out.imp fun _ h=>⟨by simp,h⟩)⟩
 case round=>
  clear aG4;obtain⟨Al,cl,f,x,las,HF,HM,HG⟩:=hrel;by_cases hc:x.e=0/\x.sees K.ts [125]=false
  ·obtain⟨h1,h2⟩:=hc;obtain⟨f,rfl⟩:∃n,f=n+1:=⟨f-1,by have:=HF.out h1;omega⟩;have e3:Rz.layers K.ts (f+1) x=((x.layer K.ts).1::(Rz.layers K.ts f (x.layer K.ts).2).1,(Rz.layers K.ts f (x.layer K.ts).2).2):=by rw[Rz.layers,if_pos ⟨h1,h2⟩]
   have e2:=HM.out;rw[e3]at e2;have hll:las.length<=1000000:=by have h5:=zxf e2.1 Erl.out;rwa [List.length_map]at h5
   have Hadv:=znd (And.intro h1 (And.intro HG.out.i (zxD hK HG.out.i h1)));replace HM:=znd e2;have HGo:=HG;clear e2 e3;go_wp2_with fail;refine(zwp K hK x HG.out false (badF h1)).mono ?_;rintro e U1 ⟨rfl,h9⟩;replace HG:=znd h9;clear h9;go_wp2_with fail;refine(zwa K hK x HG.out [125]).mono ?_;rintro e U2 ⟨rfl,h9⟩;replace HG:=znd h9;clear h9;rw[h2];clear h1 h2;go_upto_region 11 with fail;refine wp_region_noPanic ?_;refine zab 9 (fun V=>CB g7 #[.int .i64 a.1,.slice Al (List.length las) cl,.slice none 0 0,.int .i64 0,.slice none 0 0,.slice none 0 0,.int .u8 0] V) (by kernel_rfl) (HG.out.wd.ck (k:=1) rfl) (fun hHeld=>?_);replace HG:=znd HG.out.drew;refine gTa 0 48 hHeld ?_;refine gTa 1 49 hHeld ?_;refine gTa 2 50 hHeld ?_;refine gTa 3 51 hHeld ?_;refine gC 4 rfl (by kernel_rfl) (by rfl) (fun K7 h7=>?_);clear hHeld;simp only[q1,q2,q3];go_simp;refine(zys K hK x HG.out).mono ?_;rintro e wq ⟨l,rfl,hq9,h9⟩;replace HG:=znd h9;have Hq:=znd hq9;clear h9 hq9;have hla:zw8 l=#[.int .u8 l.kind,.slice l.Ar (List.length l.rows) l.cr,.slice l.Ab (List.length l.bias) l.cb,.int .i64 l.ch,.int .i64 l.high,.int .i64 l.wide,.int .i64 l.out,.int .i64 l.kh,.int .i64 l.kw,.int .i64 l.st,.int .i64 l.pad,.slice l.Ak (List.length l.kern) l.ck,.slice l.Ag (List.length l.grs) l.cg]:=rfl;rw[hla];clear hla;(try(go_wp2_with fail))
   refine h7.out _ _ (HG.out.wd.ck (k:=1) rfl) (fun hHeld=>?_);clear h7 K7
   try simp only[p1,p2,p3,p4]
   refine gC 5 rfl (by kernel_rfl) (by rfl) (fun K7 h7=>?_);clear hHeld;simp only[q1,q2,q3];go_simp;(try(go_wp2_with fail))
   obtain⟨W9,gb,hW9,hgb,HG4⟩:=HG.out.al 49 #[.int .u8 l.kind,.slice l.Ar (List.length l.rows) l.cr,.slice l.Ab (List.length l.bias) l.cb,.int .i64 l.ch,.int .i64 l.high,.int .i64 l.wide,.int .i64 l.out,.int .i64 l.kh,.int .i64 l.kw,.int .i64 l.st,.int .i64 l.pad,.slice l.Ak (List.length l.kern) l.ck,.slice l.Ag (List.length l.grs) l.cg];rw[hW9,hgb];clear hW9 hgb HG;have HG:=HG4;clear HG4;(try(go_wp2_with fail))
   refine h7.out _ _ (HG.out.wd.ck (k:=1) rfl) (fun hHeld=>?_);clear h7 K7
   try simp only[p1,p2,p3,p4]
   obtain⟨A2,c2,W8,hrun,HG2⟩:=RG.apk (k:=0) (cells:=zw8) ztH zur rfl (by decide) (by decide) HG.out rfl l rfl (zwY l) HG.out.gl.n.1 hll;refine gC 6 rfl (by kernel_rfl) (by rfl) (fun K7 h7=>?_);clear hHeld;simp only[q1,q2,q3];refine zdD (.tmp 50) (.tmp 53) 22 _ _ _ rfl rfl rfl hrun ?_;clear hrun;replace HG:=znd HG2;clear HG2;refine h7.out _ _ (HG.out.wd.ck (k:=1) rfl) (fun hHeld=>?_);clear h7 K7
   try simp only[p1,p2,p3,p4]
   refine gC 7 rfl (by kernel_rfl) (by rfl) (fun K7 h7=>?_);clear hHeld;simp only[q1,q2,q3];go_simp;(try(go_wp2_with fail))
   refine h7.out _ _ (HG.out.wd.ck (k:=1) rfl) (fun hHeld=>?_);clear h7 K7
   try simp only[p1,p2,p3,p4]
   refine gTa 8 56 hHeld ?_;have cc:=HG.out.ck (k:=1) rfl;refine gL rfl (by kernel_rfl) (by kernel_rfl) (by rfl) (fun K7 h7=>?_);clear hHeld;simp only[q1,q2,q3];go_simp;(try(go_wp2_with fail))
   refine h7.out _ _ ?_;clear h7 K7
   try simp only[p1,p2,p3,p4]
   refine NoPanic.normal ?_;clear cc;have HG3:=HG.out.sk (k:=1) rfl (i:=1) (by decide) (.slice A2 (List.length (las++[l])) c2);replace HG:=znd (show RG K (x.layer K.ts).2 (⟨49,13,.slice A2 (List.length (las++[l])) c2,List.map zw8 (las++[l])⟩::bow g7 40 7 #[.int .i64 a.1,.slice A2 (List.length (las++[l])) c2,.slice none 0 0,.int .i64 0,.slice none 0 0,.slice none 0 0,.int .u8 0]::bow g5 73 2 #[.int .i64 0,.int .i64 (l0:Nat)]::[]) (fun V=>(∀y∈(las++[l]),LaK K y V)/\True) _ from HG3.imp fun V h=>⟨fun y hy=>(List.mem_append.1 hy).elim (fun hy=>h.2.2.1 y hy) (fun hy=>by rw[List.mem_singleton.1 hy];exact h.2.1),trivial⟩);clear HG3;obtain⟨ls2,hls2⟩:∃q,q=(las++[l]):=⟨_,rfl⟩;have hlen:List.length las+1=List.length ls2:=by rw[hls2];simp
   rw[<-hls2]at HG;rw[hlen];have Hls:=znd hls2;clear hls2 hlen;go_wp2_with fail;go_roundw
   case rel=>exact⟨A2,c2,f,(x.layer K.ts).2,ls2,znd (fun he=>by have h4:=HF.out Hadv.out.1;have h5:=Hadv.out.2.1;rcases Hadv.out.2.2 with h6|h6;omega;exact absurd he h6),znd ⟨by rw[Hls.out,<-HM.out.1,<-Hq.out];simp,HM.out.2⟩,HG⟩
   case measure=>
    rw[HG.out.rdM,HGo.out.rdM,if_pos Hadv.out.1];have h5:=Hadv.out.2.1;rcases Hadv.out.2.2 with h6|h6
    ·split<;>omega
    ·rw[if_neg h6];have h7:x.i<=(x.layer K.ts).2.i:=Rz.layer_i x;omega
  ·have e3:=Rz.layers_no hc f;have e2:=HM.out;rw[e3,List.append_nil]at e2;have He:=znd e2;clear e2;clear e3 HM HF;obtain⟨y,hy⟩:∃q,q=x.take K.ts [125]:=⟨_,rfl⟩;have hnet:Rz.net K.ts s0=((a.1,r.1),y):=by unfold Rz.net;dsimp only;rw[<-Ex1.out,<-Ea.out,<-Ex2.out,<-Er.out];have h5:=He.out;rw[hy,<-h5.2]
   have HOK2:=HOK.out;have HN2:=HNN.out;have HQ2:=HQQ.out;rw[hnet]at HOK2 HN2 HQ2;dsimp only at HOK2 HN2 HQ2;have hxe:x.e=0:=by
    by_cases h:x.e=0
    ·exact h
    ·exfalso;rw[hy,Rz.take_s h,Rz.query_s h]at HOK2;exact h HOK2
   have hse:x.sees K.ts [125]=true:=by
    by_cases h:x.sees K.ts [125]=true
    ·exact h
    ·exact absurd ⟨hxe,Bool.not_eq_true _▸h⟩ hc
   go_wp2_with fail;refine(zwp K hK x HG.out false (badF hxe)).mono ?_;rintro e U1 ⟨rfl,h9⟩;replace HG:=znd h9;clear h9;go_wp2_with fail;refine(zwa K hK x HG.out [125]).mono ?_;rintro e U2 ⟨rfl,h9⟩;replace HG:=znd h9.tl;clear h9;rw[hse];have Ey:=znd hy;have HOKy:=znd HOK2;have HNy:=znd HN2;have HQy:=znd HQ2;clear hse hxe hc hy hnet HOK2 HN2 HQ2 HOK HNN HQQ;go_wp2_with fail;refine(zwb K hK x HG.out [125] y Ey.out).mono ?_;rintro e U3 ⟨⟨u3,rfl⟩,h9⟩;replace HG:=znd h9;clear h9;have ct:=HG.out.tk hK;have hnn:0<K.ps.length-y.i:=by have:=HG.out.i;omega
   have c:=HG.out.cb;obtain⟨A,hA⟩:∃A,A=some (⟨K.b,y.i*7,none⟩:Addr):=⟨_,rfl⟩;have sla:Sl A (K.ps.length-y.i):=by rw[hA];exact Sl.some_ _ _ _
   unfold rdC at c;rw[<-hA]at c ct;obtain⟨n,hn⟩:∃n,n=K.ps.length-y.i:=⟨_,rfl⟩;rw[<-hn]at c sla hnn;have hn1:(0:Int)<(n:Int):=by omega
   obtain⟨t,ht⟩:∃t,t=tkA K.ts y.i:=⟨_,rfl⟩;obtain⟨r,hr⟩:∃r,r=rvA K y.i:=⟨_,rfl⟩;rw[<-ht,<-hr]at ct;dsimp only[TkC]at ct;have Ht:=znd ht;clear hA hn hr ht;go_upto_region 14 with fail;clear ct c sla hnn hn1;obtain⟨ln2,hln2⟩:∃z:Int,z=(t.line:Nat):=⟨_,rfl⟩;rw[<-hln2];clear hln2 Ht;obtain⟨y1,hy1⟩:∃x9,x9=Rz.take K.ts y [113,117,101,114,121]:=⟨_,rfl⟩;have Ey1:=znd hy1;clear hy1;go_wp2_with fail;refine(zwb K hK y HG.out [113,117,101,114,121] y1 Ey1.out).mono ?_;rintro e bV1 ⟨⟨wb0,rfl⟩,h9⟩;have bG1:=znd h9;clear h9 HG;obtain⟨y2,hy2⟩:∃x9,x9=Rz.take K.ts y1 [123]:=⟨_,rfl⟩;have Ey2:=znd hy2;clear hy2;go_wp2_with fail;refine(zwb K hK y1 bG1.out [123] y2 Ey2.out).mono ?_;rintro e bV2 ⟨⟨wb1,rfl⟩,h9⟩;have bG2:=znd h9;clear h9 bG1;obtain⟨y3,hy3⟩:∃x9,x9=Rz.take K.ts y2 [97,116]:=⟨_,rfl⟩;have Ey3:=znd hy3;clear hy3;go_wp2_with fail;refine(zwb K hK y2 bG2.out [97,116] y3 Ey3.out).mono ?_;rintro e bV3 ⟨⟨wb2,rfl⟩,h9⟩;have bG3:=znd h9;clear h9 bG2;obtain⟨qa,hqa⟩:∃x9,x9=Rz.list K.ts y3 false:=⟨_,rfl⟩;have Eqa:=znd hqa;clear hqa;go_wp2_with fail;refine(zxB K hK y3 bG3.out false qa Eqa.out).mono ?_;rintro e bV4 ⟨Aqa,cqa,oqa,rfl,hmqa,hkqa,h9⟩;have bG4:=znd h9;clear h9 bG3;have Mqa:=znd hmqa;have Kqa:=znd hkqa;clear hmqa hkqa;have c:=bG4.out.c1;obtain⟨bV5,hV,bG5⟩:=bG4.out.sx 2 (by decide) (.slice Aqa (List.length oqa) cqa) (#[.int .i64 a.1,.slice Al (List.length las) cl,.slice Aqa (List.length oqa) cqa,.int .i64 0,.slice none 0 0,.slice none 0 0,.int .u8 0]) rfl;clear bG4;obtain⟨y4,hy4⟩:∃x9,x9=Rz.take K.ts qa.2 [108,97,98,101,108]:=⟨_,rfl⟩;have Ey4:=znd hy4;clear hy4;go_wp2_with fail;clear c hV;refine(zwb K hK qa.2 bG5.out [108,97,98,101,108] y4 Ey4.out).mono ?_;rintro e bV6 ⟨⟨wb5,rfl⟩,h9⟩;have bG6:=znd h9;clear h9 bG5;obtain⟨qb,hqb⟩:∃x9,x9=Rz.small K.ts y4:=⟨_,rfl⟩;have Eqb:=znd hqb;clear hqb;go_wp2_with fail;refine(zwm K hK y4 bG6.out qb Eqb.out).mono ?_;rintro e bV7 ⟨rfl,h9⟩;have bG7:=znd h9;clear h9 bG6;have c:=bG7.out.c1;obtain⟨bV8,hV,bG8⟩:=bG7.out.sx 3 (by decide) (.int .i64 qb.1) (#[.int .i64 a.1,.slice Al (List.length las) cl,.slice Aqa (List.length oqa) cqa,.int .i64 qb.1,.slice none 0 0,.slice none 0 0,.int .u8 0]) rfl;clear bG7;obtain⟨y5,hy5⟩:∃x9,x9=Rz.take K.ts qb.2 [108,111]:=⟨_,rfl⟩;have Ey5:=znd hy5;clear hy5;go_wp2_with fail;clear c hV;refine(zwb K hK qb.2 bG8.out [108,111] y5 Ey5.out).mono ?_;rintro e bV9 ⟨⟨wb8,rfl⟩,h9⟩;have bG9:=znd h9;clear h9 bG8;obtain⟨qc,hqc⟩:∃x9,x9=Rz.list K.ts y5 true:=⟨_,rfl⟩;have Eqc:=znd hqc;clear hqc;go_wp2_with fail;refine(zxB K hK y5 bG9.out true qc Eqc.out).mono ?_;rintro e bV10 ⟨Aqc,cqc,oqc,rfl,hmqc,hkqc,h9⟩;have bG10:=znd h9;clear h9 bG9;have Mqc:=znd hmqc;have Kqc:=znd hkqc;clear hmqc hkqc;have c:=bG10.out.c1;obtain⟨bV11,hV,bG11⟩:=bG10.out.sx 4 (by decide) (.slice Aqc (List.length oqc) cqc) (#[.int .i64 a.1,.slice Al (List.length las) cl,.slice Aqa (List.length oqa) cqa,.int .i64 qb.1,.slice Aqc (List.length oqc) cqc,.slice none 0 0,.int .u8 0]) rfl;clear bG10;obtain⟨y6,hy6⟩:∃x9,x9=Rz.take K.ts qc.2 [104,105]:=⟨_,rfl⟩;have Ey6:=znd hy6;clear hy6;go_wp2_with fail;clear c hV;refine(zwb K hK qc.2 bG11.out [104,105] y6 Ey6.out).mono ?_;rintro e bV12 ⟨⟨wb11,rfl⟩,h9⟩;have bG12:=znd h9;clear h9 bG11;obtain⟨qd,hqd⟩:∃x9,x9=Rz.list K.ts y6 true:=⟨_,rfl⟩;have Eqd:=znd hqd;clear hqd;go_wp2_with fail;refine(zxB K hK y6 bG12.out true qd Eqd.out).mono ?_;rintro e bV13 ⟨Aqd,cqd,oqd,rfl,hmqd,hkqd,h9⟩;have bG13:=znd h9;clear h9 bG12;have Mqd:=znd hmqd;have Kqd:=znd hkqd;clear hmqd hkqd;have c:=bG13.out.c1;obtain⟨bV14,hV,bG14⟩:=bG13.out.sx 5 (by decide) (.slice Aqd (List.length oqd) cqd) (#[.int .i64 a.1,.slice Al (List.length las) cl,.slice Aqa (List.length oqa) cqa,.int .i64 qb.1,.slice Aqc (List.length oqc) cqc,.slice Aqd (List.length oqd) cqd,.int .u8 0]) rfl;clear bG13;obtain⟨yn,hyn⟩:∃x9,x9=Rz.take K.ts qd.2 [110,111,114,109]:=⟨_,rfl⟩;have Eyn:=znd hyn;clear hyn;go_wp2_with fail;clear c hV;refine(zwb K hK qd.2 bG14.out [110,111,114,109] yn Eyn.out).mono ?_;rintro e bV15 ⟨⟨wb14,rfl⟩,h9⟩;have bG15:=znd h9;clear h9 bG14;have c:=bG15.out.c1;obtain⟨bV16,hV,bG16⟩:=bG15.out.sx 6 (by decide) (.int .u8 1) (#[.int .i64 a.1,.slice Al (List.length las) cl,.slice Aqa (List.length oqa) cqa,.int .i64 qb.1,.slice Aqc (List.length oqc) cqc,.slice Aqd (List.length oqd) cqd,.int .u8 1]) rfl;clear bG15;by_cases hm:yn.sees K.ts [109,97,120]=true
   ·go_wp2_with fail;clear c hV;refine(zwa K hK yn bG16.out [109,97,120]).mono ?_;rintro e U4 ⟨rfl,h9⟩;have HG:=znd h9;clear h9 bG16;rw[hm];have c:=HG.out.c1;obtain⟨dV1,hV,dG1⟩:=HG.out.sx 6 (by decide) (.int .u8 2) (#[.int .i64 a.1,.slice Al (List.length las) cl,.slice Aqa (List.length oqa) cqa,.int .i64 qb.1,.slice Aqc (List.length oqc) cqc,.slice Aqd (List.length oqd) cqd,.int .u8 2]) rfl;clear HG;go_wp2_with fail;clear c hV;refine(zwn K hK yn dG1.out).mono ?_;rintro e U6 ⟨rfl,h9⟩;have HG:=znd h9;clear h9 dG1;obtain⟨ym,hym⟩:∃q,q=yn.step K.ts:=⟨_,rfl⟩;rw[<-hym]at HG;have Eym:=znd hym;clear hym;obtain⟨z,hz⟩:∃x9,x9=Rz.take K.ts ym [125]:=⟨_,rfl⟩;have Ez:=znd hz;clear hz;go_wp2_with fail;refine(zwb K hK ym HG.out [125] z Ez.out).mono ?_;rintro e tV41 ⟨⟨wt40,rfl⟩,h9⟩;have tG41:=znd h9;clear h9 HG;have hqz:Rz.query K.ts y=(⟨qa.1,qb.1,qc.1,qd.1,2⟩,if z.e=0/\(tkA K.ts z.i).kind≠1 then z.fail K.ts 21 else z):=by unfold Rz.query;dsimp only;rw[<-Ey1.out,<-Ey2.out,<-Ey3.out,<-Eqa.out,<-Ey4.out,<-Eqb.out,<-Ey5.out,<-Eqc.out,<-Ey6.out,<-Eqd.out,<-Eyn.out];rw[if_pos hm];dsimp only;rw[<-Eym.out];rw[<-Ez.out]
    have HOK2:=HOKy.out;have HQ2:=HQy.out;rw[hqz]at HOK2 HQ2;dsimp only at HOK2 HQ2;have hz1:z.e=0/\(tkA K.ts z.i).kind=1:=by
     by_cases h:z.e=0/\(tkA K.ts z.i).kind≠1
     ·rw[if_pos h,Rz.fail,if_pos h.1]at HOK2;exact absurd HOK2 (by decide:¬(21:Nat)=0)
     ·rw[if_neg h]at HOK2;exact⟨HOK2,by by_cases h2:(tkA K.ts z.i).kind=1;exact h2;exact absurd ⟨HOK2,h2⟩ h⟩
    have Hz1:=znd hz1;have HQ3:=znd HQ2;clear hqz HOK2 HQ2 hz1;have HG:=tG41;clear tG41;go_wp2_with fail;refine(zwp K hK z HG.out false (badF Hz1.out.1)).mono ?_;rintro e U1 ⟨rfl,h9⟩;replace HG:=znd h9;clear h9;have ct:=HG.out.tk hK;have hnn:0<K.ps.length-z.i:=by have:=HG.out.i;omega
    have c:=HG.out.cb;obtain⟨A,hA⟩:∃A,A=some (⟨K.b,z.i*7,none⟩:Addr):=⟨_,rfl⟩;have sla:Sl A (K.ps.length-z.i):=by rw[hA];exact Sl.some_ _ _ _
    unfold rdC at c;rw[<-hA]at c ct;obtain⟨n,hn⟩:∃n,n=K.ps.length-z.i:=⟨_,rfl⟩;rw[<-hn]at c sla hnn;have hn1:(0:Int)<(n:Int):=by omega
    obtain⟨t,ht⟩:∃t,t=tkA K.ts z.i:=⟨_,rfl⟩;obtain⟨r,hr⟩:∃r,r=rvA K z.i:=⟨_,rfl⟩;rw[<-ht,<-hr]at ct;dsimp only[TkC]at ct;have Ht:=znd ht;clear hA hn hr ht;have hk1:t.kind=1:=by rw[Ht.out];exact Hz1.out.2
    rw[hk1]at ct;go_wp2_with fail;clear hk1 Ht ct c sla hnn hn1;refine(zwp K hK z HG.out false (badF Hz1.out.1)).mono ?_;rintro e U5 ⟨rfl,h9⟩;replace HG:=znd h9;clear h9;replace HG:=znd (HG.out.imp (ψ:=fun V=>LsR 13 zw8 (LaK K) Al las V/\QuK K (⟨Aqa,cqa,oqa,qb.1,Aqc,cqc,oqc,Aqd,cqd,oqd,2⟩:QuV) V) fun V h=>⟨⟨h.2.2.2.1,h.2.2.2.2.1⟩,⟨⟨h.2.2.1,Kqa.out⟩,⟨h.2.1,Kqc.out⟩,⟨h.1,Kqd.out⟩⟩⟩);have hN3:(a.1,las.map LaG.q)=N:=by rw[He.out.1];exact HNy.out
    have hq3:(⟨Aqa,cqa,oqa,qb.1,Aqc,cqc,oqc,Aqd,cqd,oqd,2⟩:QuV).q=Q:=by rw[<-HQ3.out];unfold QuG.q;dsimp only;rw[Mqa.out,Mqc.out,Mqd.out]
    have hnt:NeT (⟨a.1,Al,cl,las⟩:NeV):=⟨by have h:=HX.out.nl;rw[<-hN3]at h;simpa using h,fun l hl=>LQ.Lt.la (HX.out.la l.q (by rw[<-hN3];exact List.mem_map_of_mem hl))⟩;have hqs:QuS (⟨Aqa,cqa,oqa,qb.1,Aqc,cqc,oqc,Aqd,cqd,oqd,2⟩:QuV):=QuS'.qs (by rw[hq3];exact HX.out.qs);have HPV:=znd (show∀V,K.old V->LsR 13 zw8 (LaK K) Al las V->QuK K (⟨Aqa,cqa,oqa,qb.1,Aqc,cqc,oqc,Aqd,cqd,oqd,2⟩:QuV) V->QryP V (⟨a.1,Al,cl,las⟩:NeV) (⟨Aqa,cqa,oqa,qb.1,Aqc,cqc,oqc,Aqd,cqd,oqd,2⟩:QuV) 0 from fun V ho h1 h2=>HX.out.P V (⟨a.1,Al,cl,las⟩:NeV) (⟨Aqa,cqa,oqa,qb.1,Aqc,cqc,oqc,Aqd,cqd,oqd,2⟩:QuV) hN3 hq3 (zxT hK h1 ho) (zyj hK h2 ho));have HN3:=znd hN3;have HQ4:=znd hq3;have HNT:=znd hnt;have HQS:=znd hqs;clear hN3 hq3 hnt hqs;have c:=HG.out.c1;go_wp2_with fail;refine(zwt _ 20 (by decide) (by decide) (⟨a.1,Al,cl,las⟩:NeV) (zxm hK Hs20.out (by decide) HG.out.gl.n.1 HG.out.gl.o) HNT.out (List.length las) rfl).mono ?_;rintro e U6 ⟨Au,cu,us,err,rfl,hnp,-,-,-,-,hb⟩;obtain rfl:err=0:=hnp.uniq (HPV.out _ HG.out.gl.o HG.out.gl.n.1 HG.out.gl.n.2).net;replace HG:=znd (HG.out.cl hb);clear hb hnp c;have c:=HG.out.c1;go_wp2_with fail;refine(zwV _ 20 (by decide) (by decide) (⟨a.1,Al,cl,las⟩:NeV) (zxm hK Hs20.out (by decide) HG.out.gl.n.1 HG.out.gl.o) HNT.out (⟨Aqa,cqa,oqa,qb.1,Aqc,cqc,oqc,Aqd,cqd,oqd,2⟩:QuV) (zy3 hK Hs20.out (by decide) HG.out.gl.n.2 HG.out.gl.o) HQS.out (List.length las) rfl (List.length oqa) (List.length oqc) (List.length oqd) (znd ⟨rfl,rfl,rfl⟩)).mono ?_;rintro e U7 ⟨⟨err,rfl,hnp⟩,hb⟩;obtain rfl:err=0:=hnp.uniq (HPV.out _ HG.out.gl.o HG.out.gl.n.1 HG.out.gl.n.2);replace HG:=znd (HG.out.cl hb);clear hb hnp c;go_upto_region 41 with fail;have c:=HG.out.c1;have hbel:=HG.out.gl.bel;have hrk:=HG.out.gl.rsn.mono (fun n hn=>hn.1);rw[HKw.out]at hbel hrk;replace HE:=znd (Env.ret HE.out hrk hbel);clear hbel hrk;have cc:=Env.c2 HE.out;obtain⟨W7,hW7,HE7⟩:=Env.st7 (HE.out.perm (List.Perm.swap ..)) (.int .i64 a.1) (.slice Al (List.length las) cl) (.slice Aqa (List.length oqa) cqa) (.int .i64 qb.1) (.slice Aqc (List.length oqc) cqc) (.slice Aqd (List.length oqd) cqd) (.int .u8 2);obtain⟨W8,hW8,HE8⟩:=Env.st2_0 (HE7.out.perm (List.Perm.swap ..)) (.int .i64 0) (.int .i64 0);have cd:=Env.c2 HE7.out;clear HE;go_wp2_with fail;replace cd:=Env.c2 HE8.out;exact bodyPost_ret (v:=.tuple #[.agg #[.int .i64 a.1,.slice Al (List.length las) cl,.slice Aqa (List.length oqa) cqa,.int .i64 qb.1,.slice Aqc (List.length oqc) cqc,.slice Aqd (List.length oqd) cqd,.int .u8 2],.agg #[.int .i64 0,.int .i64 0]]) (by simp[results,Tryz.results38,go_sem,cd]) rfl ⟨(⟨a.1,Al,cl,las⟩:NeV),(⟨Aqa,cqa,oqa,qb.1,Aqc,cqc,oqc,Aqd,cqd,oqd,2⟩:QuV),rfl,HN3.out,HQ4.out,(HE8.out.rsn.mono fun n hn=>hn.1).imp fun V h=>⟨⟨zxT hK h.1.1 (HOT.out V h.2.1),zyj hK h.1.2 (HOT.out V h.2.1)⟩,zxm hK Hs20.out (by decide) h.1.1 (HOT.out V h.2.1),zy3 hK Hs20.out (by decide) h.1.2 (HOT.out V h.2.1)⟩,HE8.out.bel⟩
   ·rw[Bool.not_eq_true]at hm;go_wp2_with fail;clear c hV;refine(zwa K hK yn bG16.out [109,97,120]).mono ?_;rintro e U4 ⟨rfl,h9⟩;have HG:=znd h9;clear h9 bG16;rw[hm];obtain⟨ym,hym⟩:∃x9,x9=Rz.take K.ts yn [115,117,109]:=⟨_,rfl⟩;have Eym:=znd hym;clear hym;go_wp2_with fail;refine(zwb K hK yn HG.out [115,117,109] ym Eym.out).mono ?_;rintro e eV1 ⟨⟨we0,rfl⟩,h9⟩;have eG1:=znd h9;clear h9 HG;obtain⟨z,hz⟩:∃x9,x9=Rz.take K.ts ym [125]:=⟨_,rfl⟩;have Ez:=znd hz;clear hz;go_wp2_with fail;refine(zwb K hK ym eG1.out [125] z Ez.out).mono ?_;rintro e tV61 ⟨⟨wt60,rfl⟩,h9⟩;have tG61:=znd h9;clear h9 eG1;have hqz:Rz.query K.ts y=(⟨qa.1,qb.1,qc.1,qd.1,1⟩,if z.e=0/\(tkA K.ts z.i).kind≠1 then z.fail K.ts 21 else z):=by unfold Rz.query;dsimp only;rw[<-Ey1.out,<-Ey2.out,<-Ey3.out,<-Eqa.out,<-Ey4.out,<-Eqb.out,<-Ey5.out,<-Eqc.out,<-Ey6.out,<-Eqd.out,<-Eyn.out];rw[hm,if_neg (by decide)];dsimp only;rw[<-Eym.out];rw[<-Ez.out]
    have HOK2:=HOKy.out;have HQ2:=HQy.out;rw[hqz]at HOK2 HQ2;dsimp only at HOK2 HQ2;have hz1:z.e=0/\(tkA K.ts z.i).kind=1:=by
     by_cases h:z.e=0/\(tkA K.ts z.i).kind≠1
     ·rw[if_pos h,Rz.fail,if_pos h.1]at HOK2;exact absurd HOK2 (by decide:¬(21:Nat)=0)
     ·rw[if_neg h]at HOK2;exact⟨HOK2,by by_cases h2:(tkA K.ts z.i).kind=1;exact h2;exact absurd ⟨HOK2,h2⟩ h⟩
    have Hz1:=znd hz1;have HQ3:=znd HQ2;clear hqz HOK2 HQ2 hz1;have HG:=tG61;clear tG61;go_wp2_with fail;refine(zwp K hK z HG.out false (badF Hz1.out.1)).mono ?_;rintro e U1 ⟨rfl,h9⟩;replace HG:=znd h9;clear h9;have ct:=HG.out.tk hK;have hnn:0<K.ps.length-z.i:=by have:=HG.out.i;omega
    have c:=HG.out.cb;obtain⟨A,hA⟩:∃A,A=some (⟨K.b,z.i*7,none⟩:Addr):=⟨_,rfl⟩;have sla:Sl A (K.ps.length-z.i):=by rw[hA];exact Sl.some_ _ _ _
    unfold rdC at c;rw[<-hA]at c ct;obtain⟨n,hn⟩:∃n,n=K.ps.length-z.i:=⟨_,rfl⟩;rw[<-hn]at c sla hnn;have hn1:(0:Int)<(n:Int):=by omega
    obtain⟨t,ht⟩:∃t,t=tkA K.ts z.i:=⟨_,rfl⟩;obtain⟨r,hr⟩:∃r,r=rvA K z.i:=⟨_,rfl⟩;rw[<-ht,<-hr]at ct;dsimp only[TkC]at ct;have Ht:=znd ht;clear hA hn hr ht;have hk1:t.kind=1:=by rw[Ht.out];exact Hz1.out.2
    rw[hk1]at ct;go_wp2_with fail;clear hk1 Ht ct c sla hnn hn1;refine(zwp K hK z HG.out false (badF Hz1.out.1)).mono ?_;rintro e U5 ⟨rfl,h9⟩;replace HG:=znd h9;clear h9;replace HG:=znd (HG.out.imp (ψ:=fun V=>LsR 13 zw8 (LaK K) Al las V/\QuK K (⟨Aqa,cqa,oqa,qb.1,Aqc,cqc,oqc,Aqd,cqd,oqd,1⟩:QuV) V) fun V h=>⟨⟨h.2.2.2.1,h.2.2.2.2.1⟩,⟨⟨h.2.2.1,Kqa.out⟩,⟨h.2.1,Kqc.out⟩,⟨h.1,Kqd.out⟩⟩⟩);have hN3:(a.1,las.map LaG.q)=N:=by rw[He.out.1];exact HNy.out
    have hq3:(⟨Aqa,cqa,oqa,qb.1,Aqc,cqc,oqc,Aqd,cqd,oqd,1⟩:QuV).q=Q:=by rw[<-HQ3.out];unfold QuG.q;dsimp only;rw[Mqa.out,Mqc.out,Mqd.out]
    have hnt:NeT (⟨a.1,Al,cl,las⟩:NeV):=⟨by have h:=HX.out.nl;rw[<-hN3]at h;simpa using h,fun l hl=>LQ.Lt.la (HX.out.la l.q (by rw[<-hN3];exact List.mem_map_of_mem hl))⟩;have hqs:QuS (⟨Aqa,cqa,oqa,qb.1,Aqc,cqc,oqc,Aqd,cqd,oqd,1⟩:QuV):=QuS'.qs (by rw[hq3];exact HX.out.qs);have HPV:=znd (show∀V,K.old V->LsR 13 zw8 (LaK K) Al las V->QuK K (⟨Aqa,cqa,oqa,qb.1,Aqc,cqc,oqc,Aqd,cqd,oqd,1⟩:QuV) V->QryP V (⟨a.1,Al,cl,las⟩:NeV) (⟨Aqa,cqa,oqa,qb.1,Aqc,cqc,oqc,Aqd,cqd,oqd,1⟩:QuV) 0 from fun V ho h1 h2=>HX.out.P V (⟨a.1,Al,cl,las⟩:NeV) (⟨Aqa,cqa,oqa,qb.1,Aqc,cqc,oqc,Aqd,cqd,oqd,1⟩:QuV) hN3 hq3 (zxT hK h1 ho) (zyj hK h2 ho));have HN3:=znd hN3;have HQ4:=znd hq3;have HNT:=znd hnt;have HQS:=znd hqs;clear hN3 hq3 hnt hqs;have c:=HG.out.c1;go_wp2_with fail;refine(zwt _ 20 (by decide) (by decide) (⟨a.1,Al,cl,las⟩:NeV) (zxm hK Hs20.out (by decide) HG.out.gl.n.1 HG.out.gl.o) HNT.out (List.length las) rfl).mono ?_;rintro e U6 ⟨Au,cu,us,err,rfl,hnp,-,-,-,-,hb⟩;obtain rfl:err=0:=hnp.uniq (HPV.out _ HG.out.gl.o HG.out.gl.n.1 HG.out.gl.n.2).net;replace HG:=znd (HG.out.cl hb);clear hb hnp c;have c:=HG.out.c1;go_wp2_with fail;refine(zwV _ 20 (by decide) (by decide) (⟨a.1,Al,cl,las⟩:NeV) (zxm hK Hs20.out (by decide) HG.out.gl.n.1 HG.out.gl.o) HNT.out (⟨Aqa,cqa,oqa,qb.1,Aqc,cqc,oqc,Aqd,cqd,oqd,1⟩:QuV) (zy3 hK Hs20.out (by decide) HG.out.gl.n.2 HG.out.gl.o) HQS.out (List.length las) rfl (List.length oqa) (List.length oqc) (List.length oqd) (znd ⟨rfl,rfl,rfl⟩)).mono ?_;rintro e U7 ⟨⟨err,rfl,hnp⟩,hb⟩;obtain rfl:err=0:=hnp.uniq (HPV.out _ HG.out.gl.o HG.out.gl.n.1 HG.out.gl.n.2);replace HG:=znd (HG.out.cl hb);clear hb hnp c;go_upto_region 41 with fail;have c:=HG.out.c1;have hbel:=HG.out.gl.bel;have hrk:=HG.out.gl.rsn.mono (fun n hn=>hn.1);rw[HKw.out]at hbel hrk;replace HE:=znd (Env.ret HE.out hrk hbel);clear hbel hrk;have cc:=Env.c2 HE.out;obtain⟨W7,hW7,HE7⟩:=Env.st7 (HE.out.perm (List.Perm.swap ..)) (.int .i64 a.1) (.slice Al (List.length las) cl) (.slice Aqa (List.length oqa) cqa) (.int .i64 qb.1) (.slice Aqc (List.length oqc) cqc) (.slice Aqd (List.length oqd) cqd) (.int .u8 1);obtain⟨W8,hW8,HE8⟩:=Env.st2_0 (HE7.out.perm (List.Perm.swap ..)) (.int .i64 0) (.int .i64 0);have cd:=Env.c2 HE7.out;clear HE;go_wp2_with fail;replace cd:=Env.c2 HE8.out;exact bodyPost_ret (v:=.tuple #[.agg #[.int .i64 a.1,.slice Al (List.length las) cl,.slice Aqa (List.length oqa) cqa,.int .i64 qb.1,.slice Aqc (List.length oqc) cqc,.slice Aqd (List.length oqd) cqd,.int .u8 1],.agg #[.int .i64 0,.int .i64 0]]) (by simp[results,Tryz.results38,go_sem,cd]) rfl ⟨(⟨a.1,Al,cl,las⟩:NeV),(⟨Aqa,cqa,oqa,qb.1,Aqc,cqc,oqc,Aqd,cqd,oqd,1⟩:QuV),rfl,HN3.out,HQ4.out,(HE8.out.rsn.mono fun n hn=>hn.1).imp fun V h=>⟨⟨zxT hK h.1.1 (HOT.out V h.2.1),zyj hK h.1.2 (HOT.out V h.2.1)⟩,zxm hK Hs20.out (by decide) h.1.1 (HOT.out V h.2.1),zy3 hK Hs20.out (by decide) h.1.2 (HOT.out V h.2.1)⟩,HE8.out.bel⟩
end Go.Proofs.YtegfiemlnnpidaaGreatDoor
