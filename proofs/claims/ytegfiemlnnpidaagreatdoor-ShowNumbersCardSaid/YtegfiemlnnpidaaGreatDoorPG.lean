/-
 The plain law of places: a rising list of all places. tripwireref05.Get. tripwireref05.Places. tripwireref05.put, Norm. ref05.sameWords. Many operations of a drawn region at once: those that are not wanted, moves, picks. tripwireref05.Right. tripwireref04.Same, tripwireref16.Right. A drawn region whose last operation waits for all others: what all read need not hold behind it. tripwireref16.Reduced. tripwireref17.bound. Lists of the call's own at any place among others, and boxes among them.
-/
import Derived.Test.YtegfiemlnnpidaaGreatDoorPA
import Derived.Test.YtegfiemlnnpidaaGreatDoorRef13
import Derived.Test.YtegfiemlnnpidaaGreatDoorLowB
namespace Go.Proofs.YtegfiemlnnpidaaGreatDoor
set_option maxHeartbeats 8000000
open Go.RowKit

def RiseI (P:List Int):Prop:=P.Pairwise (·<·)
def BelI (P:List Int) (a:Int) (n:Nat):Prop:=n<=P.length/\∀x∈P.take n,x<a
theorem BelI.zero (P:List Int) (a:Int):BelI P a 0:=⟨Nat.zero_le _,by simp⟩
theorem BelI.next {P:List Int} {a:Int} {n:Nat} (h:BelI P a n) (hn:n<P.length) (hl:P[n]<a):BelI P a (n+1):=by
 refine⟨hn,fun x hx=>?_⟩;rw[List.take_succ_eq_append_getElem hn]at hx;rcases List.mem_append.1 hx with hx|hx
 ·exact h.2 x hx
 ·rw[List.mem_singleton.1 hx];exact hl
def insI (P:List Int) (a:Int) (n:Nat):List Int:=P.take n++a::P.drop n
theorem zqa {P:List Int} {a:Int} {n:Nat} (hn:n<=P.length):(insI P a n).length=P.length+1:=by unfold insI;simp;omega
theorem ztq {P:List Int} {a:Int} {n:Nat} (hP:RiseI P) (h:BelI P a n) (hg:∀hn:n<P.length,a<P[n]):RiseI (insI P a n):=by
 have hd:∀x∈P.drop n,a<x:=fun x hx=>by
  obtain⟨k,hk,rfl⟩:=List.mem_iff_getElem.1 hx;have hk':n+k<P.length:=by simp at hk;omega
  rw[List.getElem_drop];rcases Nat.eq_zero_or_pos k with rfl|h0
  ·exact hg (by omega)
  ·have h1:=hg (by omega);have h2:P[n]<P[n+k]:=List.pairwise_iff_getElem.1 hP n (n+k) (by omega) hk' (by omega);omega
 refine List.pairwise_append.2 ⟨hP.sublist (List.take_sublist n P),List.pairwise_cons.2 ⟨hd,hP.sublist (List.drop_sublist n P)⟩,fun x hx y hy=>?_⟩;have h1:=h.2 x hx;rcases List.mem_cons.1 hy with rfl|hy
 ·exact h1
 ·have:=hd y hy;omega
theorem zua {P:List Int} {a:Int} {n:Nat} (b:Int):b∈insI P a n↔b∈P\/b=a:=by
 unfold insI;rw[List.mem_append,List.mem_cons];constructor
 ·rintro(h|h|h)
  ·exact .inl (List.mem_of_mem_take h)
  ·exact .inr h
  ·exact .inl (List.mem_of_mem_drop h)
 ·rintro(h|h)
  ·rw[<-List.take_append_drop n P,List.mem_append]at h;rcases h with h|h
   ·exact .inl h
   ·exact .inr (.inr h)
  ·exact .inr (.inl h)
def zoS (P:List Int) (x:Int) (j:Nat):List Int:=P.take j++x::P.drop j
theorem zqf {P:List Int} {x:Int} {j:Nat} (hj:j<=P.length):(zoS P x j).length=P.length+1:=zqa hj
theorem zpS (P:List Int) (x:Int):zoS P x P.length=P++[x]:=by unfold zoS;simp
theorem zud {P:List Int} {x:Int} {j:Nat} (hj:j<P.length):(zoS P x (j+1))[j]'(by rw[zqf hj];omega)=P[j]:=by
 unfold zoS;rw[List.getElem_append_left (by simp;omega),List.getElem_take]
theorem zqo {P:List Int} {x y:Int} {j:Nat} (hj:j<=P.length):(zoS P x j).set j y=zoS P y j:=by
 unfold zoS;have h1:(P.take j).length=j:=by simp;omega
 rw[List.set_append_right _ _ (by omega),h1,Nat.sub_self,List.set_cons_zero]
theorem zsu {P:List Int} {x:Int} {j:Nat} (hj:j<P.length):(zoS P x (j+1)).set (j+1) P[j]=zoS P P[j] j:=by
 rw[zqo hj];unfold zoS;rw[List.take_succ_eq_append_getElem hj,List.append_assoc,List.singleton_append,List.drop_eq_getElem_cons hj]
structure PlS (P:List Int) (ts:List TeV):Prop where
 rise:RiseI P
 mem:∀a,a∈P↔∃t∈ts,t.pl=a
 len:P.length<=ts.length
theorem PlS.nil:PlS [] []:=⟨.nil,by simp,Nat.le_refl _⟩
theorem PlS.old {P:List Int} {ts:List TeV} {t:TeV} {n:Nat} (h:PlS P ts) (hn:n<P.length) (e:P[n]=t.pl):PlS P (ts++[t]):=by
 refine⟨h.rise,fun a=>?_,by rw[List.length_append];have:=h.len;omega⟩;rw[h.mem];constructor
 ·rintro⟨u,hu,rfl⟩;exact⟨u,List.mem_append_left _ hu,rfl⟩
 ·rintro⟨u,hu,rfl⟩;rcases List.mem_append.1 hu with hu|hu
  ·exact⟨u,hu,rfl⟩
  ·rw[List.mem_singleton.1 hu,<-e];exact(h.mem _).1 (List.getElem_mem hn)
theorem PlS.more {P:List Int} {ts:List TeV} {t:TeV} {n:Nat} (h:PlS P ts) (hb:BelI P t.pl n) (hg:∀hn:n<P.length,t.pl<P[n]):PlS (insI P t.pl n) (ts++[t]):=by
 refine⟨ztq h.rise hb hg,fun a=>?_,by rw[zqa hb.1,List.length_append];have:=h.len;simp;omega⟩;rw[zua,h.mem];constructor
 ·rintro(⟨u,hu,rfl⟩|rfl)
  ·exact⟨u,List.mem_append_left _ hu,rfl⟩
  ·exact⟨t,by simp,rfl⟩
 ·rintro⟨u,hu,rfl⟩;rcases List.mem_append.1 hu with hu|hu
  ·exact .inl ⟨u,hu,rfl⟩
  ·rw[List.mem_singleton.1 hu];exact .inr rfl
theorem RiseI.get {P:List Int} {g:Int->Rat} (hP:RiseI P) (a:Int):getQ (P.map fun p=>(p,g p)) a=if a∈P then g a else 0:=by
 induction P with
 |nil=>simp[getQ]
 |cons p P ih=>
  have hp:=List.pairwise_cons.1 hP;rw[List.map_cons,zaO,ih hp.2];by_cases e:p=a
  ·subst e;have hn:p∉P:=fun h=>by have:=hp.1 p h;omega
   rw[if_pos rfl,if_neg hn,if_pos (List.mem_cons_self ..),Rat.add_zero]
  ·have hm:a∈p::P↔a∈P:=by simp[Ne.symm e]
   simp only[if_neg e,Rat.zero_add,hm]
theorem PlS.none {P:List Int} {ts:List TeV} (h:PlS P ts) {a:Int} (ha:a∉P):∀us:List TeV,(∀u∈us,u∈ts)->getQ (us.map plq) a=0:=fun us hu=>zan fun p hp=>by
 obtain⟨u,hm,rfl⟩:=List.mem_map.1 hp;intro e;exact ha ((h.mem a).2 ⟨u,hu u hm,e⟩)

theorem zsQ {ts:List TeV} {i:Nat} (hi:i<ts.length) (a:Int):getQ ((ts.take (i+1)).map plq) a=getQ ((ts.take i).map plq) a+(if ts[i].pl=a then ts[i].q else 0):=by
 rw[List.take_succ_eq_append_getElem hi,List.map_append,zaB];congr 1;show(if ts[i].pl=a then ts[i].q else 0)+0=_;rw[Rat.add_zero]
theorem zpz {n:Nat}:∀{ts:List TeV},(∀t∈ts,Sz t.q n)->∀a,Sz (getQ (ts.map plq) a) (1+ts.length*(n+1))
 |[],_,_=>by
  show Sz 0 _
  exact zaM.up (by omega)
 |t::ts,h,a=>by
  have h1:=zpz (ts:=ts) (fun x hx=>h x (List.mem_cons_of_mem _ hx)) a;have h2:Sz (if t.pl=a then t.q else 0) (n+1):=by
   split
   ·exact(h t (List.mem_cons_self ..)).up (by omega)
   ·exact zaM.up (by omega)
  show Sz ((if t.pl=a then t.q else 0)+getQ (ts.map plq) a) _
  by_cases e:t.pl=a
  ·rw[if_pos e];have h3:=Sz.add (h t (List.mem_cons_self ..)) h1;refine h3.up ?_;rw[List.length_cons,Nat.add_mul];omega
  ·rw[if_neg e,Rat.zero_add];refine h1.up ?_;rw[List.length_cons,Nat.add_mul];omega
set_option maxRecDepth 100000 in
theorem zrV (w:World) (n N:Nat) (hN:N<=3000) (h1n:1<=n) (A:Option Addr) (c:Nat) (ts:List TeV) (h:LsR 5 zw7 (teD n) A ts w) (hl:ts.length<=1000) (hnN:n<=N) (hbd:1+ts.length*(n+1)<=N) (a:Int):
 Calls Tryz.prog 210 #[.slice A ts.length c,.int .i64 a] w (RetR (getQ (ts.map plq) a) w):=by
 have sl1:=h.sl;have hszt:=zbV;have hadd:=zaa;have Hst:=znd (show∀t∈ts,Sz t.q n from fun t ht=>RatD.sz (h.ok t ht) h1n);have HE:=znd (lyZZ ((h.old zah)));have c:=Env.c2 HE.out;have dd:=Env.d2 HE.out;clear h;go_enter Tryz.func210,Tryz.ntmps210;go_wp2_with fail;clear c;go_loopw [6] (fun iv wr=>∃(i:Nat) (k:RV) (s:Rat),iv=.int .i64 (i:Int)/\i<=ts.length/\Hid (s=getQ ((ts.take i).map plq) a)/\Hid (Env w [⟨w.heap.size+1,55,(cR k)⟩,⟨w.heap.size,55,cZ⟩] (fun V=>LsR 5 zw7 (teD n) A ts V) (fun V=>RatN k s V) wr)) (fun iv _=>ts.length-(intOf iv).toNat)
 case atStart=>exact⟨0,za9,0,rfl,Nat.zero_le _,znd rfl,znd (HE.out.imp (fun _ h=>h) (fun V _=>zbX V))⟩
 case round=>
  clear HE;obtain⟨i,k,s,rfl,hi,HS,HE⟩:=hrel;by_cases hlt:i<ts.length
  ·have c1:=HE.out.o.tc i hlt;have HN2:=znd (zsQ hlt a)
   have Hs:=znd (show Sz s N by
    rw[HS.out];refine(zpz (fun t ht=>Hst.out t (List.mem_of_mem_take ht)) a).up ?_;have h2:(ts.take i).length<=ts.length:=by simp;omega
    have h3:=Nat.mul_le_mul_right (n+1) h2;omega)
   obtain⟨t,ht⟩:∃t,t=ts[i]:=⟨_,rfl⟩;have Hm:=znd (show t∈ts by rw[ht];exact List.getElem_mem hlt);rw[<-ht]at c1 HN2;clear ht;have HTE:=znd (show∀V,LsR 5 zw7 (teD n) A ts V->RatD t.r t.q N V from fun V h=>(h.ok t Hm.out).mono9 hnN);have c:=Env.c2 HE.out;by_cases he:t.pl=a
   ·have hbq:(t.pl==a)=true:=by simpa using he
    have HS2:=znd (show s+t.q=getQ ((ts.take (i+1)).map plq) a by rw[HN2.out,if_pos he,HS.out]);clear he;go_upto_region 6 with fail
    go_region_with (first
     |(go_at_call 209;go_must (refine(zql _ k t.r s t.q N hN (by omega) (RatN.rat (by with_reducible first|exact HE.out.wd.n|exact(HE.out.drewN _).n|exact(HE.out.drewN _).drew.n) Hs.out) (HTE.out _ (by with_reducible first|exact HE.out.wd.o|exact(HE.out.drewN _).o|exact(HE.out.drewN _).drew.o))).mono ?_;rintro e w4 ⟨k2,rfl,hk,hb⟩;replace HE:=znd (Env.ret (by with_reducible first|exact HE.out.wd|exact(HE.out.drewN _)|exact(HE.out.drewN _).drew) hk hb);replace c:=Env.c2 HE.out;clear hk hb)))
    all_goals
     clear c1;go_wp2_with fail;go_roundw
     case rel=>exact⟨i+1,k2,s+t.q,by go_num,by omega,HS2,znd ((HE.out.wd.put4 _ _ _ _).imp (fun _ h=>h) (fun _ h=>h.1))⟩
     case measure=>(simp[intOf]<;>omega)
   ·have hbq:(t.pl==a)=false:=by simpa using he
    have HS2:=znd (show s=getQ ((ts.take (i+1)).map plq) a by rw[HN2.out,if_neg he,Rat.add_zero,HS.out]);clear he;go_wp2_with fail;go_roundw
    case rel=>exact⟨i+1,k,s,by go_num,by omega,HS2,HE⟩
    case measure=>(simp[intOf]<;>omega)
  ·have HF:=znd (show s=getQ (ts.map plq) a by rw[HS.out,List.take_of_length_le (by omega)]);have c:=Env.c2 HE.out;have hnu:¬(i:Int)<(ts.length:Int):=by omega
   go_wp2_with fail;rw[<-HF.out]
   first
    |exact bodyPost_ret (v:=.agg (cR k)) (by simp[results,Tryz.results210,go_sem,c]) rfl ((HE.out.put4_1 _ _ _ _).retR' rfl fun _ h=>h)
    |exact bodyPost_ret (v:=.agg (cR k)) (by simp[results,Tryz.results210,go_sem,Env.c2 (HE.out.put4_1 (.bool k.num.neg) (.slice k.num.A k.num.k k.num.c) (.bool k.den.neg) (.slice k.den.A k.den.k k.den.c))]) rfl ((HE.out.put4_1 _ _ _ _).retR' rfl fun _ h=>h)

theorem zcX (w:World):(sizeOf (Tryz.prog.elem 58)).run Tryz.prog w=.ok 1 w:=by kernel_rfl
theorem ztZ (w:World):(sizeOf (Tryz.prog.elem 224)).run Tryz.prog w=.ok 1 w:=by kernel_rfl
theorem zes:Tryz.prog.underlying 58=some (.slice 3):=by kernel_rfl
theorem zfk:(Tryz.prog.info? 3).map (fun i=>(i.zero,i.size,i.bytes))=some (some (.int .i64 0),1,8):=by kernel_rfl
def ic (p:Int):Array Value:=#[.int .i64 p]
theorem zvv (x:Array Value) (hx:x.size=1) (a:Value):x.setIfInBounds 0 a=#[a]:=by
 obtain⟨l⟩:=x
 match l,hx with
 |[_],_=>rfl
theorem GL.put1 {w W W1:World} {ls:List Ow} {bs:List Bo} {old new old' new':World->Prop} {e:TypeId} {g n cap:Nat} {A:Option Addr} (hA:A=some ⟨g,0,none⟩) {cs:List (Array Value)} (h:GL w (⟨e,1,.slice A n cap,cs⟩::ls) old new W) (he:Env W bs old' new' W1) (i:Nat) (hi:i<cs.length) (a:Value):
 GL w (⟨e,1,.slice A n cap,cs.set i #[a]⟩::ls) old (fun V=>new' V/\new V) (W1.setCell (adr A i) a):=by
 have ho:OwnE W w.heap.size e 1 (.slice A n cap) cs:=h.own _ (List.mem_cons_self ..);have hob:(Value.slice A n cap).ownBlock=some g:=by rw[hA];rfl
 have hg:=ho.lt g hob;have hs:(cs[i]).size=1:=ho.1 _ (List.getElem_mem hi);refine GL.go (o:=⟨e,1,.slice A n cap,cs⟩) (o':=⟨e,1,.slice A n cap,cs.set i #[a]⟩) h he.fresh he.bel ?_ ?_ (fun k hk hne=>?_) ?_ (.inl rfl)
 ·subst hA;have h1:=(ho.below he.bel).set1 i 0 hi (by decide) a;rw[zvv _ hs,Nat.mul_one,Nat.add_zero]at h1;rw[za6,Nat.zero_add];exact h1
 ·subst hA;exact(Below.refl _ W1).setCell hg.1 a
 ·have hkg:k≠g:=fun e'=>hne (by rw[e'];exact hob);subst hA;exact Below.heap_setCell W1 _ a k hkg
 ·show W1.heap.size<=(W1.setCell (adr A i) a).heap.size
  simp[World.setCell]
def zw3 (ts:List TeV) (w:World) (e:Ending) (w':World):Prop:=
 ∃A c P,e=.returned (.slice A (List.length P) c)/\P.length<=c/\PlS P ts/\Rests w' (w.heap.size<=·) (fun V=>El V 1 A (P.map ic))/\Below w.heap.size w w'
theorem El.ic {w:World} {A:Option Addr} {P:List Int} (h:El w 1 A (P.map ic)) (i:Nat) (hi:i<P.length):w.cell? (adr A i)=some (.int .i64 P[i]):=by
 have hc:=h.cell i (by simpa using hi) 0 (by decide);rw[Nat.mul_one,Nat.add_zero,List.getElem_map]at hc;exact hc
theorem zsV {vs:List VeV} {k:Nat} (hk:k<vs.length):(vs.take (k+1)).flatMap VeV.ts=(vs.take k).flatMap VeV.ts++vs[k].ts:=by
 rw[List.take_succ_eq_append_getElem hk,List.flatMap_append];simp
theorem zv1 {vs:List VeV} {k:Nat} (hk:k<vs.length) (n:Nat):∀i,i<=vs[k].ts.length->(∀v∈vs,v.ts.length<=n)->vs.length<=2->((vs.take k).flatMap VeV.ts++vs[k].ts.take i).length<=2*n:=fun i hi h h2=>by
 rw[List.length_append];have h1:=h _ (List.getElem_mem hk);have h3:((vs.take k).flatMap VeV.ts).length<=n:=by
  match vs,k,hk with
  |[_],0,_=>simp
  |[_,_],0,_=>simp
  |[a,_],1,_=>
   have:=h a (by simp);simpa using this
  |_::_::_::_,_,_=>simp at h2
 have h4:(vs[k].ts.take i).length<=n:=by simp;omega
 omega
set_option maxRecDepth 100000 in
theorem zsv (w:World) (n:Nat) (A:Option Addr) (c:Nat) (vs:List VeV) (h:LsR 1 za3 (veD n) A vs w) (hl:vs.length<=2) (hs:∀v∈vs,v.ts.length<=1000):
 Calls Tryz.prog 207 #[.slice A vs.length c] w (zw3 (vs.flatMap VeV.ts) w):=by
 have slv:=h.sl;have hszv:=ztZ;have hszt:=zbV;have hszi:=zcX;have hadd:=zaa;have Hs:=znd hs;have HE:=znd (Env.start (h.old zeE));clear h hs;go_enter Tryz.func207,Tryz.ntmps207;go_wp2_with fail;have HG:=znd ((GL.start HE.out).new_ 3 1);clear HE;go_loopw [3,4] (fun ov kv wr=>∃(Ao:Option Addr) (co k:Nat) (P:List Int),ov=.slice Ao P.length co/\kv=.int .i64 (k:Int)/\k<=vs.length/\Hid (PlS P ((vs.take k).flatMap VeV.ts))/\Hid (GL w [⟨3,1,.slice Ao P.length co,P.map ic⟩] (LsR 1 za3 (veD n) A vs) (fun _=>True) wr)) (fun _ kv _=>vs.length-(intOf kv).toNat)
 case atStart=>exact⟨none,0,0,[],rfl,rfl,Nat.zero_le _,znd PlS.nil,znd (HG.out.imp (fun _ h=>h.2) (fun _ _=>trivial))⟩
 case round=>
  clear HG;obtain⟨Ao,co,k,P,rfl,rfl,hk,HP,HG⟩:=hrel;by_cases hlt:k<vs.length
  ·have HF:=znd (zsV hlt);have HL:=znd (fun i hi=>zv1 hlt 1000 i hi Hs.out hl);have HC:=znd (fun(V:World) (h:LsR 1 za3 (veD n) A vs V)=>h.vc k hlt);obtain⟨v,hv⟩:∃v,v=vs[k]:=⟨_,rfl⟩;have Hm:=znd (show v∈vs by rw[hv];exact List.getElem_mem hlt);rw[<-hv]at HF HC HL;clear hv;have hvl:v.ts.length<=1000:=Hs.out v Hm.out;have HP0:=znd (show PlS P ((vs.take k).flatMap VeV.ts++v.ts.take 0) by simpa using HP.out);clear HP;go_wp2_with fail;go_loopw [3,5] (fun ov iv wr=>∃(Ao:Option Addr) (co i:Nat) (P:List Int),ov=.slice Ao P.length co/\iv=.int .i64 (i:Int)/\i<=v.ts.length/\Hid (PlS P ((vs.take k).flatMap VeV.ts++v.ts.take i))/\Hid (GL w [⟨3,1,.slice Ao P.length co,P.map ic⟩] (LsR 1 za3 (veD n) A vs) (fun _=>True) wr)) (fun _ iv _=>v.ts.length-(intOf iv).toNat)
   case atStart=>exact⟨Ao,co,0,P,rfl,rfl,Nat.zero_le _,HP0,HG⟩
   case round=>
    clear HG HP0;obtain⟨Ao,co,i,P,rfl,rfl,hi,HP,HG⟩:=hrel;have c0:=HC.out _ HG.out.o;have HPl:=znd (show P.length<=2000 from Nat.le_trans HP.out.len (HL.out i hi));have hpl:=HPl.out;by_cases hlt2:i<v.ts.length
    ·have HE:=znd HG.out.env;have slt:=(HG.out.o.ok v Hm.out).sl;have c1:=(HG.out.o.ok v Hm.out).tc i hlt2;have HT:=znd (List.take_succ_eq_append_getElem hlt2);obtain⟨t,ht⟩:∃t,t=v.ts[i]:=⟨_,rfl⟩;rw[<-ht]at c1 HT;clear ht;have HO:=znd (show OwnE wr w.heap.size 3 1 (.slice Ao P.length co) (P.map ic)from HG.out.own _ (List.mem_cons_self ..));have slo:Sl Ao P.length:=by have:=HO.out.el.1.sl;rwa [List.length_map]at this
     have HIc:=znd (fun m (hm:m<P.length)=>HO.out.el.1.ic m hm);go_wp2_with fail;clear c0 c1;obtain⟨W1,rfl⟩:∃W1,W1=wr:=⟨_,rfl⟩;go_loopw [7] (fun mv wr=>∃m:Nat,mv=.int .i64 (m:Int)/\Hid (BelI P t.pl m)/\wr=W1) (fun mv _=>P.length-(intOf mv).toNat)
     case atStart=>exact⟨0,rfl,znd (BelI.zero _ _),rfl⟩
     case round=>
      obtain⟨m,rfl,HB,hW⟩:=hrel;subst hW;have hmP:=HB.out.1;by_cases hm:m<P.length
      ·have cm:=HIc.out m hm;have HNx:=znd (fun h=>HB.out.next hm h);have HGt0:=znd (show t.pl<P[m]->∀hn:m<P.length,t.pl<P[m]from fun h _=>h);have HOl:=znd (fun e=>HP.out.old (t:=t) hm e);have hmi:(m:Int)<(P.length:Int):=by omega
       by_cases hl3:P[m]<t.pl
       ·have HB2:=znd (HNx.out hl3);clear HGt0 HOl HNx;generalize P[m]=y at*;go_wp2_with fail;go_roundw
        case rel=>exact⟨m+1,by go_num,HB2,by first|rfl|trivial⟩
        case measure=>(simp[intOf]<;>omega)
       ·by_cases he:P[m]=t.pl
        ·have HP2:=znd (show PlS P ((vs.take k).flatMap VeV.ts++v.ts.take (i+1))from by rw[HT.out,<-List.append_assoc];exact HOl.out he);have hbe:(P[m]==t.pl)=true:=by simpa using he
         clear HGt0 HOl HNx he;generalize P[m]=y at*;go_wp2_with fail;go_roundw
         case rel=>exact⟨Ao,co,i+1,P,rfl,by go_num,by omega,HP2,HG⟩
         case measure=>(simp[intOf]<;>omega)
        ·have HGt:=znd (show∀hn:m<P.length,t.pl<P[m]from fun _=>by omega);have hbe:(P[m]==t.pl)=false:=by simpa using he
         have hl4:=hl3;clear HOl HNx HGt0 he hl3 HIc HO;generalize P[m]=y at hbe hl4 cm;obtain⟨v',w8,hrun,hG⟩:=GL.app (P:=Tryz.prog) zes zfk rfl (by decide) HG.out HE.out #[.int .i64 0] rfl (by simp[Value.oneCell']) (by have:=HPl.out;simp;omega) (by have:=HPl.out;simp[maxLen];omega);obtain⟨A',c',hv,-⟩:=(hG.own _ (List.mem_cons_self ..)).form;have hv':v'=.slice A' (P.length+1) c':=by rw[show v'=_ from hv];simp
         subst hv';have Hrun:=znd hrun;have HO:=znd (show OwnE w8 w.heap.size 3 1 (.slice A' (P.length+1) c') ((zoS P 0 P.length).map ic)from by have h:=hG.own _ (List.mem_cons_self ..);rw[zpS,List.map_append];exact h);obtain⟨⟨g,hA⟩,-⟩:=HO.out.zero (by omega);have HG2:=znd (show GL w [⟨3,1,.slice A' (P.length+1) c',(zoS P 0 P.length).map ic⟩] (LsR 1 za3 (veD n) A vs) (fun _=>True) w8 from by rw[zpS,List.map_append];exact hG.imp (fun _ h=>h) (fun _ _=>trivial));have HA:=znd hA;have slA:Sl A' (P.length+1):=by rw[hA];exact Sl.some_ _ _ _
         clear hrun hG HG hA hv HO HE;go_wp2_with (at_builtin;refine zac rfl (.tmp 58) (.tmp 59) 58 _ _ _ rfl rfl rfl Hrun.out ?_);clear Hrun;go_wp2_with fail;have hw1:IntKind.i64.wrap ((P.length:Int)+1-1)=(P.length:Int):=by have:=HPl.out;rw[IntKind.wrap_i64];omega
         go_loopw [8] (fun jv wr=>∃(j:Nat) (x:Int),jv=.int .i64 (j:Int)/\m<=j/\j<=P.length/\Hid (GL w [⟨3,1,.slice A' (P.length+1) c',(zoS P x j).map ic⟩] (LsR 1 za3 (veD n) A vs) (fun _=>True) wr)) (fun jv _=>(intOf jv).toNat)
         case atStart=>exact⟨P.length,0,by first|rw[hw1]|go_num,by omega,Nat.le_refl _,HG2⟩
         case round=>
          clear HG2;obtain⟨j,x,rfl,hmj,hjP,HG⟩:=hrel;have HE:=znd HG.out.env;have HO:=znd (show OwnE wr w.heap.size 3 1 (.slice A' (P.length+1) c') ((zoS P x j).map ic)from HG.out.own _ (List.mem_cons_self ..));have f1:=fun k=>HO.out.free HA.out k;have hrl:(zoS P x j).length=P.length+1:=zqf hjP;have el:=HO.out.el.1;by_cases hgt:m<j
          ·obtain⟨k2,rfl⟩:∃k2,j=k2+1:=⟨j-1,by omega⟩;have hk2:k2<P.length:=by omega
           have cj:=el.ic (k2+1) (by omega);have ck:=el.ic k2 (by omega);rw[zud hk2]at ck;have HGp:=znd (GL.put1 HA.out HG.out HE.out (k2+1) (by rw[List.length_map];omega) (.int .i64 P[k2]));have HN:=znd (show((zoS P x (k2+1)).map ic).set (k2+1) #[.int .i64 P[k2]]=(zoS P P[k2] k2).map ic from by rw[<-zsu hk2 (x:=x),List.map_set];rfl);have hgt':(m:Int)<(k2:Int)+1:=by omega
           have hi1:(k2:Int)+1<(P.length:Int)+1:=by omega
           have hi3:(k2:Int)<(P.length:Int)+1:=by omega
           have hi2:(0:Int)<=(k2:Int)+1:=by omega
           have hi5:IntKind.i64.wrap ((k2:Int)+1-1)=(k2:Int):=by have:=HPl.out;rw[IntKind.wrap_i64];omega
           have hi6:IntKind.i64.wrap (k2:Int)=(k2:Int):=by have:=HPl.out;rw[IntKind.wrap_i64];omega
           generalize P[k2]=y at*;generalize (zoS P x (k2+1))[k2+1]=z at*;clear el HO HE HG hrl;go_upto_region 16 with fail;revert HGp;generalize World.setCell _ _ _=W5;intro HGp;clear cj ck f1;go_wp2_with fail;go_roundw
           case rel=>exact⟨k2,y,by first|rw[hi5]|go_num,by omega,by omega,znd (by have h:=HGp.out;rw[HN.out]at h;exact h.imp (fun _ h=>h) (fun _ _=>trivial))⟩
           case measure=>(simp[intOf]<;>omega)
          ·obtain rfl:j=m:=by omega
           have cj:=el.ic j (by omega);have HGp:=znd (GL.put1 HA.out HG.out HE.out j (by rw[List.length_map];omega) (.int .i64 t.pl));have HN:=znd (show((zoS P x j).map ic).set j #[.int .i64 t.pl]=(insI P t.pl j).map ic from by rw[show insI P t.pl j=(zoS P x j).set j t.pl from(zqo hjP).symm,List.map_set];rfl);have hIl:=znd (zqa (a:=t.pl) hjP);have HP2:=znd (show PlS (insI P t.pl j) ((vs.take k).flatMap VeV.ts++v.ts.take (i+1))from by rw[HT.out,<-List.append_assoc];exact HP.out.more HB.out HGt.out);have hgt':¬(j:Int)<(j:Int):=by omega
           have hi1:(j:Int)<(P.length:Int)+1:=by omega
           generalize (zoS P x j)[j]=z at*;clear el HO HE HG hrl hgt;go_upto_region 7 with fail;revert HGp;generalize World.setCell _ _ _=W5;intro HGp;clear cj f1;go_wp2_with fail;go_roundw
           case rel=>exact⟨A',c',i+1,insI P t.pl j,by rw[hIl.out],by go_num,by omega,HP2,znd (by have h:=HGp.out;rw[HN.out]at h;rw[hIl.out];exact h.imp (fun _ h=>h) (fun _ _=>trivial))⟩
           case measure=>(simp[intOf]<;>omega)
      ·have HGt:=znd (show∀hn:m<P.length,t.pl<P[m]from fun h=>absurd h hm);have hmi:¬(m:Int)<(P.length:Int):=by omega
       clear HIc HO;obtain⟨v',w8,hrun,hG⟩:=GL.app (P:=Tryz.prog) zes zfk rfl (by decide) HG.out HE.out #[.int .i64 0] rfl (by simp[Value.oneCell']) (by have:=HPl.out;simp;omega) (by have:=HPl.out;simp[maxLen];omega);obtain⟨A',c',hv,-⟩:=(hG.own _ (List.mem_cons_self ..)).form;have hv':v'=.slice A' (P.length+1) c':=by rw[show v'=_ from hv];simp
       subst hv';have Hrun:=znd hrun;have HO:=znd (show OwnE w8 w.heap.size 3 1 (.slice A' (P.length+1) c') ((zoS P 0 P.length).map ic)from by have h:=hG.own _ (List.mem_cons_self ..);rw[zpS,List.map_append];exact h);obtain⟨⟨g,hA⟩,-⟩:=HO.out.zero (by omega);have HG2:=znd (show GL w [⟨3,1,.slice A' (P.length+1) c',(zoS P 0 P.length).map ic⟩] (LsR 1 za3 (veD n) A vs) (fun _=>True) w8 from by rw[zpS,List.map_append];exact hG.imp (fun _ h=>h) (fun _ _=>trivial));have HA:=znd hA;have slA:Sl A' (P.length+1):=by rw[hA];exact Sl.some_ _ _ _
       clear hrun hG HG hA hv HO HE;go_wp2_with (at_builtin;refine zac rfl (.tmp 58) (.tmp 59) 58 _ _ _ rfl rfl rfl Hrun.out ?_);clear Hrun;go_wp2_with fail;have hw1:IntKind.i64.wrap ((P.length:Int)+1-1)=(P.length:Int):=by have:=HPl.out;rw[IntKind.wrap_i64];omega
       go_loopw [8] (fun jv wr=>∃(j:Nat) (x:Int),jv=.int .i64 (j:Int)/\m<=j/\j<=P.length/\Hid (GL w [⟨3,1,.slice A' (P.length+1) c',(zoS P x j).map ic⟩] (LsR 1 za3 (veD n) A vs) (fun _=>True) wr)) (fun jv _=>(intOf jv).toNat)
       case atStart=>exact⟨P.length,0,by first|rw[hw1]|go_num,by omega,Nat.le_refl _,HG2⟩
       case round=>
        clear HG2;obtain⟨j,x,rfl,hmj,hjP,HG⟩:=hrel;have HE:=znd HG.out.env;have HO:=znd (show OwnE wr w.heap.size 3 1 (.slice A' (P.length+1) c') ((zoS P x j).map ic)from HG.out.own _ (List.mem_cons_self ..));have f1:=fun k=>HO.out.free HA.out k;have hrl:(zoS P x j).length=P.length+1:=zqf hjP;have el:=HO.out.el.1;by_cases hgt:m<j
        ·exact absurd hgt (by omega)
        ·obtain rfl:j=m:=by omega
         have cj:=el.ic j (by omega);have HGp:=znd (GL.put1 HA.out HG.out HE.out j (by rw[List.length_map];omega) (.int .i64 t.pl));have HN:=znd (show((zoS P x j).map ic).set j #[.int .i64 t.pl]=(insI P t.pl j).map ic from by rw[show insI P t.pl j=(zoS P x j).set j t.pl from(zqo hjP).symm,List.map_set];rfl);have hIl:=znd (zqa (a:=t.pl) hjP);have HP2:=znd (show PlS (insI P t.pl j) ((vs.take k).flatMap VeV.ts++v.ts.take (i+1))from by rw[HT.out,<-List.append_assoc];exact HP.out.more HB.out HGt.out);have hgt':¬(j:Int)<(j:Int):=by omega
         have hi1:(j:Int)<(P.length:Int)+1:=by omega
         generalize (zoS P x j)[j]=z at*;clear el HO HE HG hrl hgt;go_upto_region 7 with fail;revert HGp;generalize World.setCell _ _ _=W5;intro HGp;clear cj f1;go_wp2_with fail;go_roundw
         case rel=>exact⟨A',c',i+1,insI P t.pl j,by rw[hIl.out],by go_num,by omega,HP2,znd (by have h:=HGp.out;rw[HN.out]at h;rw[hIl.out];exact h.imp (fun _ h=>h) (fun _ _=>trivial))⟩
         case measure=>(simp[intOf]<;>omega)
    ·obtain rfl:i=v.ts.length:=by omega
     have HP2:=znd (show PlS P ((vs.take (k+1)).flatMap VeV.ts) by have h:=HP.out;rw[List.take_length,<-HF.out]at h;exact h);go_wp2_with fail;go_roundw
     case rel=>exact⟨Ao,co,k+1,P,rfl,by go_num,by omega,HP2,HG⟩
     case measure=>(simp[intOf]<;>omega)
  ·obtain rfl:k=vs.length:=by omega
   have HP2:=znd (show PlS P (vs.flatMap VeV.ts) by have h:=HP.out;rwa [List.take_length]at h);have HO:=znd (show OwnE wr w.heap.size 3 1 (.slice Ao P.length co) (P.map ic)from HG.out.own _ (List.mem_cons_self ..));go_wp2_with fail;go_ret;obtain⟨A',c',hv,hc,hr⟩:=HO.out.reads;obtain⟨rfl,-,rfl⟩:Ao=A'/\P.length=(P.map ic).length/\co=c':=by simpa using hv
   exact⟨_,_,_,rfl,by simpa using hc,HP2.out,hr,HG.out.bel⟩

set_option maxRecDepth 100000 in
theorem zvQ (w0 w:World) (ls:List Ow) (old ψ:World->Prop) (A:Option Addr) (c0:Nat) (os:List TeV) (HG:GL w0 (⟨80,5,.slice A os.length c0,os.map zw7⟩::ls) (old) (fun V=>(∀p∈os,teN p V)/\ψ V) w) (_hl:os.length<=1000) (a:Int) (r:RV) (q:Rat) (n:Nat) (hn:n<=10000) (h1n:1<=n) (hr:RatD r q n w) (h0:(q.num.sign==0)=true):
 Calls Tryz.prog 208 #[.slice A os.length c0,.int .i64 a,rA r] w fun e w'=>∃A' c' os',e=.returned (.slice A' (List.length os') c')/\os'.map plq=os.map plq++([(a,q)].filter nzP)/\GL w0 (⟨80,5,.slice A' os'.length c',os'.map zw7⟩::ls) (old) (fun V=>(∀p∈os',teN p V)/\ψ V) w':=by
 have hz:=znd h0;have hbq:(q.num.sign==0)=true:=h0;clear h0;have HG0:=znd HG;have HE:=znd (lyR r ((RatD.old hr)));have c:=Env.c1 HE.out;clear hr HG;unfold rA;go_enter Tryz.func208,Tryz.ntmps208;go_wp2_with fail;refine(zq7 _ r q n hn h1n HE.out.o).mono ?_;rintro e w1 ⟨rfl,hb⟩;replace HE:=znd (Env.call HE.out hb);have c2:=Env.c1 HE.out;clear hb;go_wp2_with fail;go_ret;refine⟨A,c0,os,rfl,?_,((HG0.out.keep (ψ:=fun _=>True) (Rests.pure trivial _ _) HE.out.bel).imp (fun _ h=>h) (fun _ h=>h.2))⟩;have:nzP (a,q)=false:=by unfold nzP;simp only;rw[hz.out];rfl
 simp[this]
set_option maxRecDepth 100000 in
theorem zvC (w0 w:World) (ls:List Ow) (old ψ:World->Prop) (A:Option Addr) (c0:Nat) (os:List TeV) (HG:GL w0 (⟨80,5,.slice A os.length c0,os.map zw7⟩::ls) (old) (fun V=>(∀p∈os,teN p V)/\ψ V) w) (hl:os.length<=1000) (a:Int) (r:RV) (q:Rat) (n:Nat) (hn:n<=10000) (h1n:1<=n) (hr:RatD r q n w) (h0:(q.num.sign==0)=false):
 Calls Tryz.prog 208 #[.slice A os.length c0,.int .i64 a,rA r] w fun e w'=>∃A' c' os',e=.returned (.slice A' (List.length os') c')/\os'.map plq=os.map plq++([(a,q)].filter nzP)/\GL w0 (⟨80,5,.slice A' os'.length c',os'.map zw7⟩::ls) (old) (fun V=>(∀p∈os',teN p V)/\ψ V) w':=by
 have hz:=znd h0;have hbq:(q.num.sign==0)=false:=h0;clear h0;have HG0:=znd HG;have HE:=znd (lyR r ((RatD.old hr)));have c:=Env.c1 HE.out;clear hr HG;unfold rA;go_enter Tryz.func208,Tryz.ntmps208;go_wp2_with fail;refine(zq7 _ r q n hn h1n HE.out.o).mono ?_;rintro e w1 ⟨rfl,hb⟩;replace HE:=znd (Env.call HE.out hb);have c2:=Env.c1 HE.out;clear hb;go_wp2_with fail;refine(zp8 _ r q n hn h1n HE.out.o).mono ?_;rintro e w2 ⟨k,rfl,hk,hb⟩;replace HE:=znd (Env.ret HE.out hk hb);clear hk hb;obtain⟨A',c',w3,hrun,hG⟩:=GL.appT zaE HG0.out HE.out ⟨a,k,q⟩ (by omega);have Hrun:=znd hrun;have HG2:=znd hG;clear hrun hG HG0;go_wp2_with (at_builtin;refine zac rfl (.tmp 11) (.tmp 16) 77 _ _ _ rfl rfl rfl Hrun.out ?_);clear Hrun;go_wp2_with fail;go_ret;refine⟨A',c',os++[⟨a,k,q⟩],by rw[List.length_append];rfl,?_,HG2.out.imp (fun _ h=>h) (fun V h=>⟨fun p hp=>?_,h.2.2⟩)⟩
 ·have:nzP (a,q)=true:=by unfold nzP;simp only;rw[hz.out];rfl
  rw[List.map_append,List.filter_cons,if_pos this];rfl
 ·rcases List.mem_append.1 hp with hp|hp
  ·exact h.2.1 p hp
  ·rw[List.mem_singleton.1 hp];exact h.1.1
theorem ztL (w0 w:World) (ls:List Ow) (old ψ:World->Prop) (A:Option Addr) (c0:Nat) (os:List TeV) (HG:GL w0 (⟨80,5,.slice A os.length c0,os.map zw7⟩::ls) (old) (fun V=>(∀p∈os,teN p V)/\ψ V) w) (hl:os.length<=1000) (a:Int) (r:RV) (q:Rat) (n:Nat) (hn:n<=10000) (h1n:1<=n) (hr:RatD r q n w):
 Calls Tryz.prog 208 #[.slice A os.length c0,.int .i64 a,rA r] w fun e w'=>∃A' c' os',e=.returned (.slice A' (List.length os') c')/\os'.map plq=os.map plq++([(a,q)].filter nzP)/\GL w0 (⟨80,5,.slice A' os'.length c',os'.map zw7⟩::ls) (old) (fun V=>(∀p∈os',teN p V)/\ψ V) w':=by
 by_cases h0:(q.num.sign==0)=true
 ·exact zvQ w0 w ls old ψ A c0 os HG hl a r q n hn h1n hr h0
 ·exact zvC w0 w ls old ψ A c0 os HG hl a r q n hn h1n hr (by simpa using h0)
theorem zvm {P:List Int} {ts us:List TeV} {n N:Nat} (hP:PlS P ts) (hs:∀a,Sz (getQ (ts.map plq) a) N) (h:us.map plq=(P.map fun p=>(p,getQ (ts.map plq) p)).filter nzP) (hl:P.length<=n):
 (us.map plq).Pairwise (fun p q=>p.1<q.1)/\(∀p∈us.map plq,nzP p=true/\Sz p.2 N)/\(us.map plq).length<=n/\(∀a,getQ (us.map plq) a=getQ (ts.map plq) a):=by
 rw[h];refine⟨List.Pairwise.filter _ (List.pairwise_map.2 hP.rise),fun p hp=>?_,?_,fun a=>?_⟩
 ·have h1:=List.mem_filter.1 hp;obtain⟨x,hx,rfl⟩:=List.mem_map.1 h1.1;exact⟨h1.2,hs x⟩
 ·have:=List.length_filter_le nzP (P.map fun p=>(p,getQ (ts.map plq) p));rw[List.length_map]at this;omega
 ·rw[zbB,hP.rise.get]
  split
  ·rfl
  ·exact(hP.none (by assumption) ts (fun _ h=>h)).symm
theorem GL.after {w W W':World} {ls:List Ow} {bs:List Bo} {old new old' new':World->Prop} (h:GL w ls old new W) (he:Env W bs old' new' W'):GL w ls old new W':=
 (h.keep (ψ:=fun _=>True) (Rests.pure trivial _ _) he.bel).imp (fun _ h=>h) (fun _ h=>h.2)
theorem vs2 {n g:Nat} {A:Option Addr} {c:Nat} {ts:List TeV} {W:World} {t:TypeId} (h:Blk W g t #[.slice none 0 0,.slice A ts.length c]) (ht:LsR 5 zw7 (teD n) A ts W):LsR 1 za3 (veD n) (some ⟨g,0,none⟩) [⟨none,0,[]⟩,⟨A,c,ts⟩] W:=by
 refine⟨⟨Sl.some_ _ _ _,fun i hi=>?_,fun i hi j hj=>?_⟩,fun p hp=>?_⟩
 ·match i,hi with
  |0,_=>rfl
  |1,_=>rfl
 ·obtain rfl:j=0:=by omega
  rw[za6]
  match i,hi with
  |0,_=>exact h.cell 0
  |1,_=>exact h.cell 1
 ·simp only[List.mem_cons,List.not_mem_nil,or_false]at hp;rcases hp with rfl|rfl
  ·exact LsR.nil_ none
  ·exact ht
set_option maxRecDepth 100000 in
theorem zvn (w:World) (n N:Nat) (hN:N<=3000) (h1n:1<=n) (A:Option Addr) (c0:Nat) (ts:List TeV) (h:LsR 5 zw7 (teD n) A ts w) (hl:ts.length<=1000) (hnN:n<=N) (hbd:1+ts.length*(n+1)<=N):
 Calls Tryz.prog 175 #[.slice A ts.length c0,.agg cZ,.slice none 0 0] w (RetC (fun a=>getQ (ts.map plq) a) N ts.length w):=by
 have Hst:=znd (show∀t∈ts,Sz t.q n from fun t ht=>RatD.sz (h.ok t ht) h1n);have HS:=znd (show∀a,Sz (getQ (ts.map plq) a) N from fun a=>(zpz Hst.out a).up hbd);have hszi:=zcX;have hadd:=zaa;obtain⟨W0,hW0⟩:∃W0,W0=((w.alloc (.cells cZ 55)).alloc (.cells #[.slice none 0 0,.slice A ts.length c0] 76)):=⟨_,rfl⟩;have HE:=znd (Env.lay2 (Env.start ((h.old zah))) hW0);subst hW0;have c:=Env.c2 HE.out;have dd:=Env.d2 HE.out;clear h;go_enter Tryz.func175,Tryz.ntmps175;go_wp2_with fail;have HV:=znd (show LsR 1 za3 (veD n) (some ⟨w.heap.size+1,0,none⟩) [⟨none,0,[]⟩,⟨A,c0,ts⟩] _ from vs2 (HE.out.bx ⟨w.heap.size+1,76,#[.slice none 0 0,.slice A ts.length c0]⟩ (by simp)) HE.out.o);refine(zsv _ n (some ⟨w.heap.size+1,0,none⟩) 2 [⟨none,0,[]⟩,⟨A,c0,ts⟩] HV.out (by simp) (by simp;omega)).mono ?_;rintro e w1 ⟨Ap,cp,P,rfl,hcp,hP,hk,hb⟩;replace HE:=znd (Env.ret HE.out hk hb);have HP:=znd (show PlS P ts by simpa using hP);clear hk hb hP HV;have slp:Sl Ap P.length:=by have:=HE.out.n.1.sl;rwa [List.length_map]at this
 have HPl:=znd (show P.length<=ts.length from HP.out.len);go_wp2_with fail;have HG:=znd ((GL.start HE.out).new_ 80 5);clear HE;go_loopw [7,9] (fun ov iv wr=>∃(Ao:Option Addr) (co i:Nat) (os:List TeV),ov=.slice Ao os.length co/\iv=.int .i64 (i:Int)/\i<=P.length/\Hid (os.map plq=((P.take i).map fun p=>(p,getQ (ts.map plq) p)).filter nzP)/\Hid (GL w [⟨80,5,.slice Ao os.length co,os.map zw7⟩] (fun V=>Blk V (w.heap.size+1) 76 #[.slice none 0 0,.slice A ts.length c0]/\Blk V (w.heap.size) 55 cZ/\LsR 5 zw7 (teD n) A ts V) (fun V=>(∀p∈os,teN p V)/\El V 1 Ap (P.map ic)) wr)) (fun _ iv _=>P.length-(intOf iv).toNat)
 case atStart=>exact⟨none,0,0,[],rfl,rfl,Nat.zero_le _,znd rfl,znd (HG.out.imp (fun _ h=>⟨h.1 ⟨w.heap.size+1,76,#[.slice none 0 0,.slice A ts.length c0]⟩ (by simp),h.1 ⟨w.heap.size,55,cZ⟩ (by simp),h.2⟩) (fun _ h=>⟨by simp,h.1⟩))⟩
 case round=>
  clear HG;obtain⟨Ao,co,i,os,rfl,rfl,hi,HM,HG⟩:=hrel;by_cases hlt:i<P.length
  ·have HE:=znd HG.out.env;have hPl:=HPl.out
   have Hol:=znd (show os.length<=P.length by
    have h1:=congrArg List.length HM.out;rw[List.length_map]at h1;have h2:=List.length_filter_le nzP ((P.take i).map fun p=>(p,getQ (ts.map plq) p));rw[List.length_map]at h2;have h3:(P.take i).length<=P.length:=by simp;omega
    omega)
   have HIc:=znd (fun(V:World) (h:El V 1 Ap (P.map ic))=>h.ic i hlt);have HNx:=znd (show(P.take (i+1)).map (fun p=>(p,getQ (ts.map plq) p))=(P.take i).map (fun p=>(p,getQ (ts.map plq) p))++[(P[i],getQ (ts.map plq) P[i])] by rw[List.take_succ_eq_append_getElem hlt,List.map_append];rfl);generalize P[i]=p at HIc HNx;have HC:=znd (fun(V:World) (h:(Blk V (w.heap.size+1) 76 #[.slice none 0 0,.slice A ts.length c0]/\Blk V (w.heap.size) 55 cZ/\LsR 5 zw7 (teD n) A ts V)/\(∀p∈os,teN p V)/\El V 1 Ap (P.map ic))=>And.intro (HIc.out V h.2.2) (Blk.cb h.1.2.1));have HCG:=znd (fun(V:World) (h:Blk V (w.heap.size+1) 76 #[.slice none 0 0,.slice A ts.length c0]/\Blk V (w.heap.size) 55 cZ/\LsR 5 zw7 (teD n) A ts V) (h2:El V 1 Ap (P.map ic))=>And.intro (HIc.out V h2) (Blk.cb h.2.1));have HZ:=znd (show getQ (ts.map plq) p+0*getQ (List.map plq []) p=getQ (ts.map plq) p by rw[Rat.zero_mul,Rat.add_zero]);have Hs0:=znd (show Sz (getQ (List.map plq []) p) N from zaM.up (by omega));have Hs3:=znd (show Sz (0*getQ (List.map plq []) p) N by rw[Rat.zero_mul];exact zaM.up (by omega));have Hsp:=znd (HS.out p);have cc:=HC.out _ HE.out.o;clear c;go_upto_region 6 with fail
   go_region_held3 (fun W=>W.cell? (adr Ap i)=some (.int .i64 p)/\CB (w.heap.size) cZ W) (first|with_reducible exact cc|with_reducible exact HC.out _ HE.out.drew.o|((repeat' apply And.intro)<;>go_keep))
    (first
     |(go_at_call_of 210 (#[.slice A ts.length c0,.int .i64 p]:Array Value);go_must (refine(zrV _ n N hN h1n A c0 ts (HE.out.wd.o.1.2.2) (by omega) hnN hbd p).mono ?_;rintro e w3 ⟨k1,rfl,hk,hb⟩;replace HE:=znd (Env.ret (HE.out.wd) hk hb);replace cc:=HC.out _ HE.out.o;clear hk hb))
     |(go_at_call_of 210 (#[.slice none 0 0,.int .i64 p]:Array Value);go_must (refine(zrV _ 1 N hN (Nat.le_refl _) none 0 [] (LsR.nil_ none) (by simp) (by omega) (by simp;omega) p).mono ?_;rintro e w4 ⟨k2,rfl,hk,hb⟩;replace HE:=znd (Env.ret (HE.out.wd) hk hb);replace cc:=HC.out _ HE.out.o;clear hk hb))
     |(go_at_call 211;go_must (refine(zrl _ za9 k2 0 (getQ (List.map plq []) p) N hN (by omega) (RatD.zero_ _ N) (RatN.rat (show RatN k2 (getQ (List.map plq []) p) _ from(by with_reducible first|exact HE.out.wd.n|exact HE.out.wd.n.1|exact HE.out.wd.n.2.1|exact HE.out.wd.n.2.2.1|exact HE.out.wd.n.2.2.2.1)) Hs0.out)).mono ?_;rintro e w5 ⟨k3,rfl,hk,hb⟩;replace HE:=znd (Env.ret (HE.out.wd) hk hb);replace cc:=HC.out _ HE.out.o;clear hk hb))
     |(go_at_call 209;go_must (refine(zql _ k1 k3 (getQ (ts.map plq) p) (0*getQ (List.map plq []) p) N hN (by omega) (RatN.rat (show RatN k1 (getQ (ts.map plq) p) _ from(by with_reducible first|exact HE.out.wd.n|exact HE.out.wd.n.1|exact HE.out.wd.n.2.1|exact HE.out.wd.n.2.2.1|exact HE.out.wd.n.2.2.2.1)) Hsp.out) (RatN.rat (show RatN k3 (0*getQ (List.map plq []) p) _ from(by with_reducible first|exact HE.out.wd.n|exact HE.out.wd.n.1|exact HE.out.wd.n.2.1|exact HE.out.wd.n.2.2.1|exact HE.out.wd.n.2.2.2.1)) Hs3.out)).mono ?_;rintro e w6 ⟨k4,rfl,hk,hb⟩;rw[HZ.out]at hk;replace HE:=znd (Env.ret (HE.out.wd) hk hb);replace cc:=HC.out _ HE.out.o;clear hk hb))
     |(go_at_call 208;go_must (refine(ztL w _ [] (fun V=>Blk V (w.heap.size+1) 76 #[.slice none 0 0,.slice A ts.length c0]/\Blk V (w.heap.size) 55 cZ/\LsR 5 zw7 (teD n) A ts V) (fun V=>El V 1 Ap (P.map ic)) Ao co os (GL.after HG.out (HE.out.wd)) (by have:=Hol.out;omega) p k4 (getQ (ts.map plq) p) N (by omega) (by omega) (RatN.rat (show RatN k4 (getQ (ts.map plq) p) _ from(by with_reducible first|exact HE.out.wd.n|exact HE.out.wd.n.1|exact HE.out.wd.n.2.1|exact HE.out.wd.n.2.2.1|exact HE.out.wd.n.2.2.2.1)) Hsp.out)).mono ?_;rintro e w7 ⟨Ao2,co2,os2,rfl,hm2,hG2⟩;have cc:=HCG.out _ hG2.o hG2.n.2;have HM2:=znd hm2;have HG2:=znd hG2;clear hm2 hG2)))
   all_goals
    go_wp2_with fail;go_roundw
    case rel=>exact⟨Ao2,co2,i+1,os2,rfl,by go_num,by omega,znd (by rw[HM2.out,HM.out,HNx.out,List.filter_append]),HG2⟩
    case measure=>(simp[intOf]<;>omega)
  ·have HM2:=znd (show os.map plq=(P.map fun p=>(p,getQ (ts.map plq) p)).filter nzP by rw[HM.out,List.take_of_length_le (by omega)]);have hnu:¬(i:Int)<(P.length:Int):=by omega
   go_wp2_with fail;go_ret;obtain⟨A',c',hv,hc,hr⟩:=HG.out.tell (fun V h=>h.1);obtain⟨rfl,-,rfl⟩:Ao=A'/\os.length=os.length/\co=c':=by simpa using hv
   obtain⟨h1,h2,h3,h4⟩:=zvm (n:=ts.length) HP.out HS.out HM2.out HPl.out;exact⟨_,h1,h2,h3,h4,Ao,co,os,rfl,hc,rfl,hr,HG.out.bel⟩
set_option maxRecDepth 100000 in
theorem zto (w:World) (n N:Nat) (hN:N<=3000) (h1n:1<=n) (A:Option Addr) (c0:Nat) (ts:List TeV) (h:LsR 5 zw7 (teD n) A ts w) (hl:ts.length<=1000) (hnN:n<=N) (hbd:1+ts.length*(n+1)<=N):
 Calls Tryz.prog 129 #[.slice A ts.length c0] w (RetC (fun a=>getQ (ts.map plq) a) N ts.length w):=by
 have H:=znd h;clear h;go_enter Tryz.func129,Tryz.ntmps129;go_wp2_with fail;refine(zvn w n N hN h1n A c0 ts H.out hl hnN hbd).mono ?_;intro e w1 hret;have HR:=znd hret;obtain⟨us,-,-,-,-,A',c',us',rfl,-⟩:=hret;go_wp2_with fail;go_ret;exact HR.out

set_option maxRecDepth 100000 in
theorem zvy (w:World) (A B:Option Addr) (c d:Nat) (l:List Nat) (hl:l.length<=17592186044416) (ha:Rd w .u64 A l) (hb:Rd w .u64 B l):
 Calls Tryz.prog 130 #[.slice A l.length c,.slice B l.length d] w fun e w'=>e=.returned (.bool true)/\∃n,w'=w.drewN n:=by
 have Ha:=znd ha;have Hb:=znd hb;have hsa:=ha.sl;have hsb:=hb.sl;have h1:=zaA;clear ha hb;go_enter Tryz.func130,Tryz.ntmps130;go_wp2_with fail;go_loopw [5] (fun i wr=>∃k:Nat,k<=l.length/\i=.int .i64 k/\∃q,wr=w.drewN q) (fun i _=>l.length-(intOf i).toNat)
 case atStart=>exact⟨0,Nat.zero_le _,rfl,0,rfl⟩
 case round=>
  obtain⟨k,hk,rfl,q,rfl⟩:=hrel;by_cases hlt:k<l.length
  ·have hca:=Ha.out.cell k hlt;have hcb:=Hb.out.cell k hlt;generalize nth l k=x at*;go_wp2_with fail;go_quiet (fail);go_wp2_with fail;go_roundw
   case rel=>exact⟨k+1,by omega,by go_num,_,rfl⟩
   case measure=>simp[intOf];omega
  ·obtain rfl:k=l.length:=by omega
   go_wp2_with fail;go_ret;exact⟨rfl,_,rfl⟩

set_option maxRecDepth 100000 in
theorem zvG (w:World) (A B:Option Addr) (c d:Nat) (l m:List Nat) (hl:l.length<=17592186044416) (hlm:l.length=m.length) (ha:Rd w .u64 A l) (hb:Rd w .u64 B m) (hne:l≠m):
 Calls Tryz.prog 130 #[.slice A l.length c,.slice B l.length d] w fun e w'=>e=.returned (.bool false)/\∃n,w'=w.drewN n:=by
 have Hne:=znd hne;have Hlm:=znd hlm;have Ha:=znd ha;have Hb:=znd hb;have hsa:=ha.sl;have hsb:=hb.sl;rw[<-hlm]at hsb;have h1:=zaA;clear ha hb hne hlm;go_enter Tryz.func130,Tryz.ntmps130;go_wp2_with fail;go_loopw [5] (fun i wr=>∃k:Nat,k<=l.length/\Hid (∀t<k,nth l t=nth m t)/\i=.int .i64 k/\∃q,wr=w.drewN q) (fun i _=>l.length-(intOf i).toNat)
 case atStart=>exact⟨0,Nat.zero_le _,znd (fun t ht=>absurd ht (Nat.not_lt_zero t)),rfl,0,rfl⟩
 case round=>
  obtain⟨k,hk,Hall,rfl,q,rfl⟩:=hrel;by_cases hlt:k<l.length
  ·have hca:=Ha.out.cell k hlt;have hcb:=Hb.out.cell k (by rw[<-Hlm.out];exact hlt);by_cases he:nth l k=nth m k
   ·have Hal2:=znd (show∀t<k+1,nth l t=nth m t from fun t ht=>by
     rcases Nat.lt_or_eq_of_le (Nat.lt_succ_iff.1 ht)with h|h
     ·exact Hall.out t h
     ·rw[h];exact he)
    rw[<-he]at hcb;clear he Hall;generalize nth l k=x at hca hcb;go_wp2_with fail;go_quiet (fail);go_wp2_with fail;go_roundw
    case rel=>exact⟨k+1,by omega,Hal2,by go_num,_,rfl⟩
    case measure=>simp[intOf];omega
   ·have hx:((nth l k:Nat):Int)≠((nth m k:Nat):Int):=by omega
    generalize nth l k=x at*;generalize nth m k=y at*;go_wp2_with fail;go_quiet (fail);go_wp2_with fail;go_ret;exact⟨rfl,_,World.drewN_drewN _ _ _⟩
  ·exact absurd (zdT l m Hlm.out (fun t ht=>Hall.out t (by omega))) Hne.out

set_option maxRecDepth 100000 in
theorem zuN (w:World) (A B:Option Addr) (c d n m:Nat) (hne:n≠m):
 Calls Tryz.prog 130 #[.slice A n c,.slice B m d] w fun e w'=>e=.returned (.bool false)/\∃q,w'=w.drewN q:=by
 go_enter Tryz.func130,Tryz.ntmps130;go_wp2_with fail;go_ret;exact⟨rfl,0,rfl⟩

theorem zuO (w:World) (A B:Option Addr) (c d:Nat) (l m:List Nat) (hl:l.length<=17592186044416) (ha:Rd w .u64 A l) (hb:Rd w .u64 B m):
 Calls Tryz.prog 130 #[.slice A l.length c,.slice B m.length d] w fun e w'=>e=.returned (.bool (decide (l=m)))/\∃n,w'=w.drewN n:=by
 by_cases h:l=m
 ·subst h;rw[decide_eq_true rfl];exact zvy w A B c d l hl ha hb
 ·rw[decide_eq_false h];by_cases hn:l.length=m.length
  ·rw[<-hn];exact zvG w A B c d l m hl hn ha hb h
  ·exact zuN w A B c d _ _ hn

def zum (ops:Array Oper) (o:Oper) (a:Act):Option Value:=
 if Region.wanted o (yielded ops a.tmps)=true then
  match o.op with
  |.move x=>some (a.eval x)
  |.pick c x y=>match a.eval c with
   |.bool b=>some (if b then a.eval x else a.eval y)
   |_=>none
  |_=>none
 else some undef
theorem zrh {P:Program} {ops:Array Oper} {S:World->Prop} {o:Oper} {a:Act} {v:Value} (h:zum ops o a=some v):YieldsIf P ops S o v a:=by
 unfold zum at h;by_cases hw:Region.wanted o (yielded ops a.tmps)=true
 ·rw[if_pos hw]at h;refine .inl ⟨hw,fun w _=>?_⟩;unfold execOp
  split at h
  ·rename_i x hx
   rw[hx];injection h with h;subst h;rfl
  ·rename_i c x y hx
   rw[hx]
   split at h
   ·rename_i b hb
    injection h with h;subst h;simp only[hb]
    cases b<;>rfl
   ·cases h
  ·cases h
 ·rw[if_neg hw]at h;injection h with h;exact .inr ⟨by simpa using hw,h.symm⟩
def zsU (md:Region.Mode) (ops:Array Oper) (l:Array Bool) (i:Nat) (o:Oper) (a:Act):Bool:=
 (Region.free md ops l i&&(Region.ready md ops l).contains i)||(Region.ready md ops l==[i]&&!Region.wanted o (yielded ops a.tmps))
def zqL (md:Region.Mode) (ops:Array Oper):List Nat->Array Bool->Act->Option (Array Bool×Act)
 |[],l,a=>some (l,a)
 |i::is,l,a=>match ops[i]?with
  |none=>none
  |some o=>match zum ops o a with
   |none=>none
   |some v=>if zsU md ops l i o a=true then zqL md ops is (l.setIfInBounds i true) (a.put o.dst v) else none
theorem zqW {P:Program} {md:Region.Mode} {ops:Array Oper} {Q:Exit->Act->World->Prop} {S:World->Prop} {w:World} (hs:Region.noSelect ops=true) (hQ:∀d v c a w,Q (.panic c) (Act.put a d v) w->Q (.panic c) a w) (hS:S w) {fuel:Nat} {l':Array Bool} {a':Act}
 (h:wpAnyH P md ops Q S fuel l' a' w):∀(is:List Nat) (l:Array Bool) (a:Act),zqL md ops is l a=some (l',a')->wpAnyH P md ops Q S (fuel+is.length) l a w
 |[],l,a,hc=>by
  injection hc with hc;injection hc with h1 h2;subst h1 h2;exact h
 |i::is,l,a,hc=>by
  unfold zqL at hc
  split at hc
  ·cases hc
  ·rename_i o ho
   split at hc
   ·cases hc
   ·rename_i v hv
    by_cases hok:zsU md ops l i o a=true
    ·rw[if_pos hok]at hc;have h1:=zqW hs hQ hS h is _ _ hc;unfold zsU at hok;rcases Bool.or_eq_true_iff.1 hok with hk|hk
     ·obtain⟨hf,hr⟩:=Bool.and_eq_true_iff.1 hk;exact wpAnyH_take ho hs hf hr (fun c a w=>hQ _ _ c a w) (zrh hv) hS h1
     ·obtain⟨hr,hw⟩:=Bool.and_eq_true_iff.1 hk;have hw':Region.wanted o (yielded ops a.tmps)=false:=by simpa using hw
      have hv':v=undef:=by
       unfold zum at hv;rw[hw']at hv;injection hv with hv;exact hv.symm
      subst hv';exact zf1 (i:=i) o.dst ho rfl (by simpa using hr) hw' hS h1
    ·rw[if_neg hok]at hc;cases hc
theorem zp4 {P:Program} {md:Region.Mode} {ops:Array Oper} {Q:Exit->Act->World->Prop} {S:World->Prop} {w:World} {n:Nat} {l:Array Bool} {a:Act} (is:List Nat) (fuel:Nat) (l':Array Bool) (f:Act->Act) (hn:n=fuel+is.length) (hs:Region.noSelect ops=true) (hc:zqL md ops is l a=some (l',f a))
 (hQ:∀d v c a w,Q (.panic c) (Act.put a d v) w->Q (.panic c) a w) (hS:S w) (h:wpAnyH P md ops Q S fuel l' (f a) w):wpAnyH P md ops Q S n l a w:=by
 subst hn;exact zqW hs hQ hS h is l a hc

theorem IntD.uniq {i:IV} {x y:Int} {n m:Nat} {w:World} (h:IntD i x n w) (h':IntD i y m w):x=y:=by
 obtain⟨l,hk,hrd,-,hv⟩:=h.ex;obtain⟨l',hk',hrd',-,hv'⟩:=h'.ex;have e:l=l':=zdT _ _ (by omega) fun t ht=>by
  have c1:=hrd.cell t ht;have c2:=hrd'.cell t (by omega);rw[c1]at c2;have c3:((nth l t:Nat):Int)=((nth l' t:Nat):Int):=by simpa using c2
  omega
 rw[<-hv,<-hv',e]
theorem RatD.uniq {r:RV} {p q:Rat} {n m:Nat} {w:World} (h:RatD r p n w) (h':RatD r q m w):p=q:=by
 obtain⟨x,d,hx,hd,e⟩:=h.ex;obtain⟨x',d',hx',hd',e'⟩:=h'.ex;rw[e,e',hx.uniq hx',hd.uniq hd']
theorem RatN.someD {r:RV} {q:Rat} {w:World} (h:RatN r q w):∃n,RatD r q n w:=
 ⟨q.num.natAbs+q.den,h.rat ⟨Nat.lt_of_lt_of_le (Nat.lt_pow_self (by decide)) (Nat.pow_le_pow_right (by decide) (Nat.le_add_right _ _)),Nat.lt_of_lt_of_le (Nat.lt_pow_self (by decide)) (Nat.pow_le_pow_right (by decide) (Nat.le_add_left _ _))⟩⟩
theorem RatN.uniq {r:RV} {p q:Rat} {n:Nat} {w:World} (h:RatD r p n w) (h':RatN r q w):p=q:=by
 obtain⟨m,hm⟩:=h'.someD;exact h.uniq hm
structure SameAt (t u:TeV) (m:Int) (w:World):Prop where
 pl:t.pl=u.pl
 lo:0<=t.pl
 hi:t.pl<m
 one:RatN t.r u.q w
theorem zvd {ts us:List TeV} (h:ts.map plq=us.map plq):ts.length=us.length:=by
 have:=congrArg List.length h
 rwa [List.length_map,List.length_map]at this
theorem zv7 {ts us:List TeV} (h:ts.map plq=us.map plq) (k:Nat) (h1:k<ts.length) (h2:k<us.length):ts[k].pl=us[k].pl/\ts[k].q=us[k].q:=by
 have e:=congrArg (fun l=>l[k]?) h;simp only[List.getElem?_map,List.getElem?_eq_getElem h1,List.getElem?_eq_getElem h2,Option.map_some]at e;injection e with e;unfold plq at e;injection e with e1 e2;exact⟨e1,e2⟩
theorem zs9 {n:Nat} {A:Option Addr} {ts us:List TeV} {m:Int} {w:World} (h:LsR 5 zw7 (teD n) A ts w) (hr:Rise us) (hz:∀t∈us,nzT t=true) (hg:∀a,getQ (us.map plq) a=getQ (ts.map plq) a):
 (RightP ts m w->ts.length=us.length/\∀k (h1:k<ts.length) (h2:k<us.length),SameAt ts[k] us[k] m w)/\
 (ts.length=us.length->(∀k (h1:k<ts.length) (h2:k<us.length),SameAt ts[k] us[k] m w)->RightP ts m w):=by
 constructor
 ·intro hR
  have e:ts.map plq=us.map plq:=zgX hR.rise.map hr.map (fun p hp=>by
   obtain⟨t,ht,rfl⟩:=List.mem_map.1 hp;exact hR.nz t ht) (fun p hp=>by
   obtain⟨t,ht,rfl⟩:=List.mem_map.1 hp;exact hz t ht) fun a=>(hg a).symm
  refine⟨zvd e,fun k h1 h2=>?_⟩;have e2:=zv7 e k h1 h2;have hm:=List.getElem_mem h1;exact⟨e2.1,(hR.rng _ hm).1,(hR.rng _ hm).2,by rw[<-e2.2];exact hR.one _ hm⟩
 ·intro hl hS;have hq:∀k (h1:k<ts.length) (h2:k<us.length),ts[k].q=us[k].q:=fun k h1 h2=>RatN.uniq (h.ok _ (List.getElem_mem h1)) (hS k h1 h2).one;have e:ts.map plq=us.map plq:=by
   apply List.ext_getElem (by rw[List.length_map,List.length_map];exact hl);intro k h1 h2;rw[List.length_map]at h1 h2;rw[List.getElem_map,List.getElem_map];unfold plq;rw[(hS k h1 h2).pl,hq k h1 h2]
  refine⟨fun t ht=>?_,?_,fun t ht=>?_,fun t ht=>?_⟩
  ·obtain⟨k,hk,rfl⟩:=List.mem_iff_getElem.1 ht;have:=hS k hk (by omega);exact⟨this.lo,this.hi⟩
  ·have h1:=hr.map;rw[<-e]at h1;exact(List.pairwise_map (f:=plq)).1 h1
  ·have h1:plq t∈us.map plq:=by rw[<-e];exact List.mem_map_of_mem (f:=plq) ht
   obtain⟨u,hu,e2⟩:=List.mem_map.1 h1;have h2:=hz u hu;unfold nzT at h2⊢;unfold plq at e2;injection e2 with e3 e4;rw[<-e4];exact h2
  ·obtain⟨k,hk,rfl⟩:=List.mem_iff_getElem.1 ht;have h2:k<us.length:=by omega
   rw[hq k hk h2];exact(hS k hk h2).one
theorem zu5 {a b:Bool} (h:a≠b):(a ^^ b)=true/\(a != b)=true/\(a==b)=false:=by cases a<;>cases b<;>simp at h⊢
theorem ztP {a b:Bool} (h:¬a≠b):(a ^^ b)=false/\(a != b)=false/\(a==b)=true:=by cases a<;>cases b<;>simp at h⊢
theorem zrU {W:World} {i j:IV} {l:List Nat} {z:Int} (B:Bool) (hk:i.k=l.length) (hl:l.length<=17592186044416) (ha:Rd W .u64 i.A l) (hz:IntN j z W) (hB:B=true↔l=digs B64 z.natAbs):
 Calls Tryz.prog 130 #[.slice i.A i.k i.c,.slice j.A j.k j.c] W fun e w'=>e=.returned (.bool B)/\Below W.heap.size W w':=by
 rw[hk,hz.k];refine(zuO W i.A j.A i.c j.c l (digs B64 z.natAbs) hl ha hz.rd).mono ?_;rintro e w' ⟨rfl,q,rfl⟩;have:decide (l=digs B64 z.natAbs)=B:=by rw[Bool.eq_iff_iff,decide_eq_true_iff,hB]
 rw[this];exact⟨rfl,Below.drewN (Below.refl _ _) q⟩
set_option maxRecDepth 100000 in
theorem zsD (w:World) (n N:Nat) (hN:N<=3000) (h1n:1<=n) (A:Option Addr) (c:Nat) (ts:List TeV) (m:Int) (h:LsR 5 zw7 (teD n) A ts w) (hl:ts.length<=1000) (hnN:n<=N) (hbd:1+ts.length*(n+1)<=N):
 Calls Tryz.prog 86 #[.slice A ts.length c,.int .i64 m] w fun e w'=>zaR (RightP ts m w) e/\Below w.heap.size w w':=by
 have sl1:=h.sl;have hszv:=zai;have hszt:=zbV;have hadd:=zaa;have Hw:=znd h;have HE:=znd (Env.start (h.old zah));clear h;go_enter Tryz.func86,Tryz.ntmps86;go_wp2_with fail;refine(zto _ n N hN h1n A c ts HE.out.o hl hnN hbd).mono ?_;intro e w1 hret;obtain⟨Au,cu,us,rfl,hres,hk,hb⟩:=RetC.open hret;replace HE:=znd ((Env.ret HE.out hk hb).imp (fun _ h=>h) (fun _ h=>h.1));have HL:=znd (zs9 (m:=m) Hw.out hres.1 (fun t ht=>(hres.2.1 t ht).1) hres.2.2.2);clear hret hk hb hres;have slu:=HE.out.n.sl;by_cases hlen:us.length=ts.length
 ·have hb0:((us.length:Int) != (ts.length:Int))=false:=by rw[hlen];simp
  have Hlen:=znd hlen;rw[hlen]at slu;go_wp2_with fail;clear hlen;go_loopw [6] (fun iv wr=>∃i:Nat,iv=.int .i64 (i:Int)/\i<=ts.length/\Hid (∀k (h1:k<ts.length) (h2:k<us.length),k<i->SameAt ts[k] us[k] m w)/\Hid (Env w [] (fun V=>LsR 5 zw7 (teD n) A ts V) (fun V=>LsR 5 zw7 teN Au us V) wr)) (fun iv _=>ts.length-(intOf iv).toNat)
  case atStart=>exact⟨0,rfl,Nat.zero_le _,znd (fun k _ _ h=>absurd h (Nat.not_lt_zero _)),HE⟩
  case round=>
   clear HE;obtain⟨i,rfl,hi,HP,HE⟩:=hrel;by_cases hlt:i<ts.length
   ·have hlu:i<us.length:=by rw[Hlen.out];exact hlt
    have hlt':(i:Int)<(ts.length:Int):=by omega
    have hlu':(i:Int)<(us.length:Int):=by omega
    have HTC:=znd (fun(V:World) (h:LsR 5 zw7 (teD n) A ts V)=>h.tc i hlt);have HUC:=znd (fun(V:World) (h:LsR 5 zw7 teN Au us V)=>h.tc i hlu);have HBad:=znd (show RightP ts m w->SameAt ts[i] us[i] m w from fun hr=>(HL.out.1 hr).2 i hlt hlu)
    have HNxt:=znd (show SameAt ts[i] us[i] m w->∀k (h1:k<ts.length) (h2:k<us.length),k<i+1->SameAt ts[k] us[k] m w from fun hs k h1 h2 hk=>by
     rcases Nat.lt_succ_iff_lt_or_eq.1 hk with e|e
     ·exact HP.out k h1 h2 e
     ·subst e;exact hs)
    obtain⟨t,ht⟩:∃t,t=ts[i]:=⟨_,rfl⟩;obtain⟨u,hu⟩:∃u,u=us[i]:=⟨_,rfl⟩;have Hmt:=znd (show t∈ts by rw[ht];exact List.getElem_mem hlt);have Hmu:=znd (show u∈us by rw[hu];exact List.getElem_mem hlu);rw[<-ht]at HTC HBad HNxt;rw[<-hu]at HUC HBad HNxt;clear ht hu HP;have HUE:=znd (show∀V,LsR 5 zw7 teN Au us V->RatN u.r u.q V from fun V h=>h.ok u Hmu.out);obtain⟨x,d,hx,hd,-⟩:=(Hw.out.ok t Hmt.out:RatD t.r t.q n w).ex;obtain⟨l1,hk1,hr1,-,-⟩:=hx.ex;obtain⟨l2,hk2,hr2,-,-⟩:=hd.ex;have HRd1:=znd (show t.r.num.k=l1.length/\l1.length<=17592186044416 from⟨hk1,by have:=hx.le;omega⟩);have HRd2:=znd (show t.r.den.k=l2.length/\l2.length<=17592186044416 from⟨hk2,by have:=hd.le;omega⟩);have HRd1V:=znd (fun(V:World) (hb:Below w.heap.size w V)=>hr1.below hb (Nat.le_refl _));have HRd2V:=znd (fun(V:World) (hb:Below w.heap.size w V)=>hr2.below hb (Nat.le_refl _))
    have HOne:=znd (show RatN t.r u.q w↔((t.r.num.neg=u.r.num.neg/\l1=digs B64 u.q.num.natAbs)/\(t.r.den.neg=u.r.den.neg/\l2=digs B64 (dn u.q).natAbs))from by
     have hu:=HUE.out _ HE.out.n;rw[hu.num.neg,hu.den.neg,<-zgL hk1 hr1 hx.cap,<-zgL hk2 hr2 hd.cap];exact⟨fun h=>⟨h.num,h.den⟩,fun h=>⟨h.1,h.2⟩⟩)
    clear hx hd hk1 hk2 hr1 hr2;have c:=And.intro (HTC.out _ HE.out.o) (HUC.out _ HE.out.n);go_upto_region 7 with fail;go_cut [7,8]from 16 to 97 (fun v7 v8 wx=>∃g7 g8,v7=.pointer (some ⟨g7,0,none⟩)/\v8=.pointer (some ⟨g8,0,none⟩)/\Hid (Env w [⟨g8,55,(cR u.r)⟩,⟨g7,55,(cR t.r)⟩] (fun V=>LsR 5 zw7 (teD n) A ts V) (fun V=>LsR 5 zw7 teN Au us V) wx))
    case first=>
     go_region_held3 (fun W=>TC A i t W/\TC Au i u W) (first|with_reducible exact c|((repeat' apply And.intro)<;>go_keep)|(refine⟨HTC.out _ ?_,HUC.out _ ?_⟩<;>first|with_reducible exact HE.out.o|with_reducible exact HE.out.n|with_reducible exact HE.out.drew.o|with_reducible exact HE.out.drew.n|with_reducible exact(HE.out.nn _ _).o|with_reducible exact(HE.out.nn _ _).n|with_reducible exact(HE.out.nd_ _ _).o|with_reducible exact(HE.out.nd_ _ _).n|with_reducible exact(HE.out.drew.nn _ _).o|with_reducible exact(HE.out.drew.nn _ _).n|with_reducible exact((HE.out.nn _ _).nn _ _).o|with_reducible exact((HE.out.nn _ _).nn _ _).n|with_reducible exact((HE.out.nd_ _ _).nn _ _).o|with_reducible exact((HE.out.nd_ _ _).nn _ _).n|with_reducible exact((HE.out.nd_ _ _).nd_ _ _).o|with_reducible exact((HE.out.nd_ _ _).nd_ _ _).n)) (fail)
     all_goals
      go_wp2_with fail
      go_meet
      case rel=>first|with_reducible exact⟨_,_,rfl,rfl,znd (((HE.out.new_ (g:=wr.heap.size) rfl 55 (cR t.r)).new_ (g:=wr.heap.size+1) (by simp) 55 (cR u.r)).drew)⟩|with_reducible exact⟨_,_,rfl,rfl,znd ((((HE.out.new_ (g:=wr.heap.size) rfl 55 (cR u.r)).new_ (g:=wr.heap.size+1) (by simp) 55 (cR t.r)).drew).perm (List.Perm.swap _ _ _))⟩
    case rest=>
     clear HE c;obtain⟨g7,g8,rfl,rfl,HE⟩:=hcut;have HC:=znd (fun(V:World) (h:Env w [⟨g8,55,(cR u.r)⟩,⟨g7,55,(cR t.r)⟩] (fun V=>LsR 5 zw7 (teD n) A ts V) (fun V=>LsR 5 zw7 teN Au us V) V)=>And.intro (HTC.out _ h.o) (And.intro (HUC.out _ h.n) (And.intro (Env.c2 h).1 (Env.c2 h).2)));have c:=HC.out _ HE.out;go_upto_region 8 with fail;clear c;refine wp_region_noPanic ?_;refine wp_region_held_drew (S:=(fun W=>TC A i t W/\TC Au i u W/\CB g8 (cR u.r) W/\CB g7 (cR t.r) W)) (by kernel_rfl) (HC.out _ HE.out.wd) (fun hHeld=>?_);replace HE:=znd HE.out.drew;refine hT 0 32 hHeld ?_;refine hT 1 33 hHeld ?_;refine hT 2 34 hHeld ?_;refine hT 3 35 hHeld ?_;refine hT 4 36 hHeld ?_;refine hT 5 37 hHeld ?_;refine hT 6 38 hHeld ?_;refine hT 7 39 hHeld ?_;refine hT 8 40 hHeld ?_;refine hT 9 41 hHeld ?_;by_cases ee:t.pl=u.pl
     ·have bb:(t.pl != u.pl)=false:=by simpa using ee
      have E1:=znd ee;clear ee;refine hT 10 42 hHeld ?_;refine hT 11 43 hHeld ?_;clear bb;refine hT 12 44 hHeld ?_;refine hT 13 45 hHeld ?_;refine hT 14 46 hHeld ?_;refine hT 15 47 hHeld ?_;refine hT 16 48 hHeld ?_;by_cases ee:t.pl<0
      ·have HNo:=znd (show¬SameAt t u m w from fun h=>absurd h.lo (by omega));have bb:decide (t.pl<0)=true:=decide_eq_true ee;refine hT 17 49 hHeld ?_;refine zp4 [18,19,20,21,22,23,24,25,26,27,28,29,30,31,32,33,34,35,36,37,38,39,40,41,42,43,44,45,46,47,48,49,50,51,52,53,54,55,56,57,58,59,60,61,62,63,64,65] 0 #[true,true,true,true,true,true,true,true,true,true,true,true,true,true,true,true,true,true,true,true,true,true,true,true,true,true,true,true,true,true,true,true,true,true,true,true,true,true,true,true,true,true,true,true,true,true,true,true,true,true,true,true,true,true,true,true,true,true,true,true,true,true,true,true,true,true] (fun a0=>((((((((((((((((((((((((((((((((((((((((((((((((a0.put (some 50) (.bool true)).put (some 51) (.bool true)).put (some 52) undef).put (some 53) undef).put (some 54) undef).put (some 55) undef).put (some 56) undef).put (some 57) undef).put (some 58) undef).put (some 59) (.bool true)).put (some 60) (.bool true)).put (some 61) undef).put (some 62) undef).put (some 63) undef).put (some 64) undef).put (some 65) undef).put (some 66) undef).put (some 67) undef).put (some 68) (.bool true)).put (some 69) (.bool true)).put (some 70) undef).put (some 71) undef).put (some 72) undef).put (some 73) undef).put (some 74) undef).put (some 75) undef).put (some 76) undef).put (some 77) (.bool true)).put (some 78) (.bool true)).put (some 79) undef).put (some 80) undef).put (some 81) undef).put (some 82) undef).put (some 83) undef).put (some 84) undef).put (some 85) undef).put (some 86) undef).put (some 87) (.bool true)).put (some 88) (.bool true)).put (some 89) undef).put (some 90) undef).put (some 91) undef).put (some 92) undef).put (some 93) undef).put (some 94) undef).put (some 95) undef).put (some 96) undef).put (some 97) (.bool true))) rfl (by kernel_rfl) (by kernel_rfl) (fun _ _ _ _ _ h=>h) hHeld ?_
       try simp only[p1,p2,p3,p4]
       refine wpAnyH_done (by kernel_rfl) ?_ _;refine NoPanic.normal ?_;go_wp2_with fail;go_ret;exact⟨za7 false ⟨fun h0=>absurd h0 (by decide),fun hr=>absurd (HBad.out hr) HNo.out⟩,HE.out.bel⟩
      ·skip
       have bb:decide (t.pl<0)=false:=decide_eq_false ee;refine hT 17 49 hHeld ?_;refine hT 18 50 hHeld ?_;refine hT 19 51 hHeld ?_;refine hT 20 52 hHeld ?_;refine hT 21 53 hHeld ?_;refine hT 22 54 hHeld ?_;refine hT 23 55 hHeld ?_;refine hT 24 56 hHeld ?_;refine hT 25 57 hHeld ?_;by_cases ee:m<=t.pl
       ·have HNo:=znd (show¬SameAt t u m w from fun h=>absurd h.hi (by omega));have bb:decide (m<=t.pl)=true:=decide_eq_true ee;have bb2:decide (t.pl≥m)=true:=decide_eq_true ee;refine hT 26 58 hHeld ?_;refine zp4 [27,28,29,30,31,32,33,34,35,36,37,38,39,40,41,42,43,44,45,46,47,48,49,50,51,52,53,54,55,56,57,58,59,60,61,62,63,64,65] 0 #[true,true,true,true,true,true,true,true,true,true,true,true,true,true,true,true,true,true,true,true,true,true,true,true,true,true,true,true,true,true,true,true,true,true,true,true,true,true,true,true,true,true,true,true,true,true,true,true,true,true,true,true,true,true,true,true,true,true,true,true,true,true,true,true,true,true] (fun a0=>(((((((((((((((((((((((((((((((((((((((a0.put (some 59) (.bool true)).put (some 60) (.bool true)).put (some 61) undef).put (some 62) undef).put (some 63) undef).put (some 64) undef).put (some 65) undef).put (some 66) undef).put (some 67) undef).put (some 68) (.bool true)).put (some 69) (.bool true)).put (some 70) undef).put (some 71) undef).put (some 72) undef).put (some 73) undef).put (some 74) undef).put (some 75) undef).put (some 76) undef).put (some 77) (.bool true)).put (some 78) (.bool true)).put (some 79) undef).put (some 80) undef).put (some 81) undef).put (some 82) undef).put (some 83) undef).put (some 84) undef).put (some 85) undef).put (some 86) undef).put (some 87) (.bool true)).put (some 88) (.bool true)).put (some 89) undef).put (some 90) undef).put (some 91) undef).put (some 92) undef).put (some 93) undef).put (some 94) undef).put (some 95) undef).put (some 96) undef).put (some 97) (.bool true))) rfl (by kernel_rfl) (by kernel_rfl) (fun _ _ _ _ _ h=>h) hHeld ?_
        try simp only[p1,p2,p3,p4]
        refine wpAnyH_done (by kernel_rfl) ?_ _;refine NoPanic.normal ?_;go_wp2_with fail;go_ret;exact⟨za7 false ⟨fun h0=>absurd h0 (by decide),fun hr=>absurd (HBad.out hr) HNo.out⟩,HE.out.bel⟩
       ·skip
        have bb:decide (m<=t.pl)=false:=decide_eq_false ee;have bb2:decide (t.pl≥m)=false:=decide_eq_false ee;refine hT 26 58 hHeld ?_;refine hT 27 59 hHeld ?_;refine hT 28 60 hHeld ?_;refine hT 29 61 hHeld ?_;refine hT 30 62 hHeld ?_;refine hT 31 63 hHeld ?_;refine hT 32 64 hHeld ?_;refine hT 33 65 hHeld ?_;refine hT 34 66 hHeld ?_;by_cases ee:t.r.num.neg≠u.r.num.neg
        ·have HNo:=znd (show¬SameAt t u m w from fun h=>absurd (HOne.out.1 h.one).1.1 ee);have bb:=zu5 ee;refine hT 35 67 hHeld ?_;refine zp4 [36,37,38,39,40,41,42,43,44,45,46,47,48,49,50,51,52,53,54,55,56,57,58,59,60,61,62,63,64,65] 0 #[true,true,true,true,true,true,true,true,true,true,true,true,true,true,true,true,true,true,true,true,true,true,true,true,true,true,true,true,true,true,true,true,true,true,true,true,true,true,true,true,true,true,true,true,true,true,true,true,true,true,true,true,true,true,true,true,true,true,true,true,true,true,true,true,true,true] (fun a0=>((((((((((((((((((((((((((((((a0.put (some 68) (.bool true)).put (some 69) (.bool true)).put (some 70) undef).put (some 71) undef).put (some 72) undef).put (some 73) undef).put (some 74) undef).put (some 75) undef).put (some 76) undef).put (some 77) (.bool true)).put (some 78) (.bool true)).put (some 79) undef).put (some 80) undef).put (some 81) undef).put (some 82) undef).put (some 83) undef).put (some 84) undef).put (some 85) undef).put (some 86) undef).put (some 87) (.bool true)).put (some 88) (.bool true)).put (some 89) undef).put (some 90) undef).put (some 91) undef).put (some 92) undef).put (some 93) undef).put (some 94) undef).put (some 95) undef).put (some 96) undef).put (some 97) (.bool true))) rfl (by kernel_rfl) (by kernel_rfl) (fun _ _ _ _ _ h=>h) hHeld ?_
         try simp only[p1,p2,p3,p4]
         refine wpAnyH_done (by kernel_rfl) ?_ _;refine NoPanic.normal ?_;go_wp2_with fail;go_ret;exact⟨za7 false ⟨fun h0=>absurd h0 (by decide),fun hr=>absurd (HBad.out hr) HNo.out⟩,HE.out.bel⟩
        ·skip
         have bb:=ztP ee;have E4:=znd (show t.r.num.neg=u.r.num.neg by simpa using ee);clear ee;refine hT 35 67 hHeld ?_;refine hT 36 68 hHeld ?_;refine hT 37 69 hHeld ?_;refine hT 38 70 hHeld ?_;refine hT 39 71 hHeld ?_;refine hT 40 72 hHeld ?_;refine hT 41 73 hHeld ?_;refine hT 42 74 hHeld ?_;refine hT 43 75 hHeld ?_;by_cases ee:t.r.den.neg≠u.r.den.neg
         ·have HNo:=znd (show¬SameAt t u m w from fun h=>absurd (HOne.out.1 h.one).2.1 ee);have bb:=zu5 ee;refine hT 44 76 hHeld ?_;refine zp4 [45,46,47,48,49,50,51,52,53,54,55,56,57,58,59,60,61,62,63,64,65] 0 #[true,true,true,true,true,true,true,true,true,true,true,true,true,true,true,true,true,true,true,true,true,true,true,true,true,true,true,true,true,true,true,true,true,true,true,true,true,true,true,true,true,true,true,true,true,true,true,true,true,true,true,true,true,true,true,true,true,true,true,true,true,true,true,true,true,true] (fun a0=>(((((((((((((((((((((a0.put (some 77) (.bool true)).put (some 78) (.bool true)).put (some 79) undef).put (some 80) undef).put (some 81) undef).put (some 82) undef).put (some 83) undef).put (some 84) undef).put (some 85) undef).put (some 86) undef).put (some 87) (.bool true)).put (some 88) (.bool true)).put (some 89) undef).put (some 90) undef).put (some 91) undef).put (some 92) undef).put (some 93) undef).put (some 94) undef).put (some 95) undef).put (some 96) undef).put (some 97) (.bool true))) rfl (by kernel_rfl) (by kernel_rfl) (fun _ _ _ _ _ h=>h) hHeld ?_
          try simp only[p1,p2,p3,p4]
          refine wpAnyH_done (by kernel_rfl) ?_ _;refine NoPanic.normal ?_;go_wp2_with fail;go_ret;exact⟨za7 false ⟨fun h0=>absurd h0 (by decide),fun hr=>absurd (HBad.out hr) HNo.out⟩,HE.out.bel⟩
         ·skip
          have bb:=ztP ee;have E5:=znd (show t.r.den.neg=u.r.den.neg by simpa using ee);clear ee;refine hT 44 76 hHeld ?_;refine hT 45 77 hHeld ?_;refine hT 46 78 hHeld ?_;refine hT 47 79 hHeld ?_;refine hT 48 80 hHeld ?_;refine hT 49 81 hHeld ?_;refine hT 50 82 hHeld ?_;refine hT 51 83 hHeld ?_;refine hT 52 84 hHeld ?_;by_cases ee:l1≠digs B64 u.q.num.natAbs
          ·have HNo:=znd (show¬SameAt t u m w from fun h=>absurd (HOne.out.1 h.one).1.2 ee);have HBnum:=znd (show false=true↔l1=digs B64 u.q.num.natAbs from⟨fun h=>absurd h (by decide),fun h=>absurd h ee⟩);clear ee;refine za8 (i:=53) rfl (by kernel_rfl) (by rfl) (fun K hK=>?_);clear hHeld;simp only[q1];go_simp;refine(zrU false HRd1.out.1 HRd1.out.2 (HRd1V.out _ HE.out.bel) (HUE.out _ HE.out.n).num (HBnum.out)).mono ?_;rintro e w2 ⟨rfl,hb⟩;replace HE:=znd (Env.call HE.out hb);clear hb;(try(go_wp2_with fail))
           refine hK.out _ _ (HC.out _ HE.out.wd) (fun hHeld=>?_);clear hK K
           try simp only[p1,p2,p3,p4]
           refine hT 54 86 hHeld ?_;refine zp4 [55,56,57,58,59,60,61,62,63,64,65] 0 #[true,true,true,true,true,true,true,true,true,true,true,true,true,true,true,true,true,true,true,true,true,true,true,true,true,true,true,true,true,true,true,true,true,true,true,true,true,true,true,true,true,true,true,true,true,true,true,true,true,true,true,true,true,true,true,true,true,true,true,true,true,true,true,true,true,true] (fun a0=>(((((((((((a0.put (some 87) (.bool true)).put (some 88) (.bool true)).put (some 89) undef).put (some 90) undef).put (some 91) undef).put (some 92) undef).put (some 93) undef).put (some 94) undef).put (some 95) undef).put (some 96) undef).put (some 97) (.bool true))) rfl (by kernel_rfl) (by kernel_rfl) (fun _ _ _ _ _ h=>h) hHeld ?_
           try simp only[p1,p2,p3,p4]
           refine wpAnyH_done (by kernel_rfl) ?_ _;refine NoPanic.normal ?_;go_wp2_with fail;go_ret;exact⟨za7 false ⟨fun h0=>absurd h0 (by decide),fun hr=>absurd (HBad.out hr) HNo.out⟩,HE.out.bel⟩
          ·skip
           have HBnum:=znd (show true=true↔l1=digs B64 u.q.num.natAbs from⟨fun _=>by simpa using ee,fun _=>rfl⟩);have E6:=znd (show l1=digs B64 u.q.num.natAbs by simpa using ee);clear ee;refine za8 (i:=53) rfl (by kernel_rfl) (by rfl) (fun K hK=>?_);clear hHeld;simp only[q1];go_simp;refine(zrU true HRd1.out.1 HRd1.out.2 (HRd1V.out _ HE.out.bel) (HUE.out _ HE.out.n).num (HBnum.out)).mono ?_;rintro e w2 ⟨rfl,hb⟩;replace HE:=znd (Env.call HE.out hb);clear hb;(try(go_wp2_with fail))
           refine hK.out _ _ (HC.out _ HE.out.wd) (fun hHeld=>?_);clear hK K
           try simp only[p1,p2,p3,p4]
           refine hT 54 86 hHeld ?_;refine hT 55 87 hHeld ?_;refine hT 56 88 hHeld ?_;refine hT 57 89 hHeld ?_;refine hT 58 90 hHeld ?_;refine hT 59 91 hHeld ?_;refine hT 60 92 hHeld ?_;refine hT 61 93 hHeld ?_;refine hT 62 94 hHeld ?_;by_cases ee:l2≠digs B64 (dn u.q).natAbs
           ·have HNo:=znd (show¬SameAt t u m w from fun h=>absurd (HOne.out.1 h.one).2.2 ee);have HBden:=znd (show false=true↔l2=digs B64 (dn u.q).natAbs from⟨fun h=>absurd h (by decide),fun h=>absurd h ee⟩);clear ee;refine za8 (i:=63) rfl (by kernel_rfl) (by rfl) (fun K hK=>?_);clear hHeld;simp only[q1];go_simp;refine(zrU false HRd2.out.1 HRd2.out.2 (HRd2V.out _ HE.out.bel) (HUE.out _ HE.out.n).den (HBden.out)).mono ?_;rintro e w2 ⟨rfl,hb⟩;replace HE:=znd (Env.call HE.out hb);clear hb;(try(go_wp2_with fail))
            refine hK.out _ _ (HC.out _ HE.out.wd) (fun hHeld=>?_);clear hK K
            try simp only[p1,p2,p3,p4]
            refine hT 64 96 hHeld ?_;refine zp4 [65] 0 #[true,true,true,true,true,true,true,true,true,true,true,true,true,true,true,true,true,true,true,true,true,true,true,true,true,true,true,true,true,true,true,true,true,true,true,true,true,true,true,true,true,true,true,true,true,true,true,true,true,true,true,true,true,true,true,true,true,true,true,true,true,true,true,true,true,true] (fun a0=>(a0.put (some 97) (.bool true))) rfl (by kernel_rfl) (by kernel_rfl) (fun _ _ _ _ _ h=>h) hHeld ?_
            try simp only[p1,p2,p3,p4]
            refine wpAnyH_done (by kernel_rfl) ?_ _;refine NoPanic.normal ?_;go_wp2_with fail;go_ret;exact⟨za7 false ⟨fun h0=>absurd h0 (by decide),fun hr=>absurd (HBad.out hr) HNo.out⟩,HE.out.bel⟩
           ·skip
            have HBden:=znd (show true=true↔l2=digs B64 (dn u.q).natAbs from⟨fun _=>by simpa using ee,fun _=>rfl⟩);have E7:=znd (show l2=digs B64 (dn u.q).natAbs by simpa using ee);clear ee;refine za8 (i:=63) rfl (by kernel_rfl) (by rfl) (fun K hK=>?_);clear hHeld;simp only[q1];go_simp;refine(zrU true HRd2.out.1 HRd2.out.2 (HRd2V.out _ HE.out.bel) (HUE.out _ HE.out.n).den (HBden.out)).mono ?_;rintro e w2 ⟨rfl,hb⟩;replace HE:=znd (Env.call HE.out hb);clear hb;(try(go_wp2_with fail))
            refine hK.out _ _ (HC.out _ HE.out.wd) (fun hHeld=>?_);clear hK K
            try simp only[p1,p2,p3,p4]
            refine hT 64 96 hHeld ?_;refine hT 65 97 hHeld ?_;refine wpAnyH_done (by kernel_rfl) ?_ _;refine NoPanic.normal ?_;have HNx:=znd (HNxt.out ⟨E1.out,by omega,by omega,HOne.out.2 ⟨⟨E4.out,E6.out⟩,E5.out,E7.out⟩⟩);go_wp2_with fail;go_roundw
            case rel=>exact⟨i+1,by go_num,by omega,HNx,znd HE.out.drop.drop⟩
            case measure=>(simp[intOf]<;>omega)
     ·have bb:(t.pl != u.pl)=true:=by simpa using ee
      have HNo:=znd (show¬SameAt t u m w from fun h=>absurd h.pl ee);refine hT 10 42 hHeld ?_;refine hT 11 43 hHeld ?_;refine zp4 [12,13,14,15,16,17,18,19,20,21,22,23,24,25,26,27,28,29,30,31,32,33,34,35,36,37,38,39,40,41,42,43,44,45,46,47,48,49,50,51,52,53,54,55,56,57,58,59,60,61,62,63,64,65] 0 #[true,true,true,true,true,true,true,true,true,true,true,true,true,true,true,true,true,true,true,true,true,true,true,true,true,true,true,true,true,true,true,true,true,true,true,true,true,true,true,true,true,true,true,true,true,true,true,true,true,true,true,true,true,true,true,true,true,true,true,true,true,true,true,true,true,true] (fun a0=>((((((((((((((((((((((((((((((((((((((((((((((((((((((a0.put (some 44) undef).put (some 45) undef).put (some 46) undef).put (some 47) undef).put (some 48) undef).put (some 49) undef).put (some 50) (.bool true)).put (some 51) (.bool true)).put (some 52) undef).put (some 53) undef).put (some 54) undef).put (some 55) undef).put (some 56) undef).put (some 57) undef).put (some 58) undef).put (some 59) (.bool true)).put (some 60) (.bool true)).put (some 61) undef).put (some 62) undef).put (some 63) undef).put (some 64) undef).put (some 65) undef).put (some 66) undef).put (some 67) undef).put (some 68) (.bool true)).put (some 69) (.bool true)).put (some 70) undef).put (some 71) undef).put (some 72) undef).put (some 73) undef).put (some 74) undef).put (some 75) undef).put (some 76) undef).put (some 77) (.bool true)).put (some 78) (.bool true)).put (some 79) undef).put (some 80) undef).put (some 81) undef).put (some 82) undef).put (some 83) undef).put (some 84) undef).put (some 85) undef).put (some 86) undef).put (some 87) (.bool true)).put (some 88) (.bool true)).put (some 89) undef).put (some 90) undef).put (some 91) undef).put (some 92) undef).put (some 93) undef).put (some 94) undef).put (some 95) undef).put (some 96) undef).put (some 97) (.bool true))) rfl (by kernel_rfl) (by kernel_rfl) (fun _ _ _ _ _ h=>h) hHeld ?_
      try simp only[p1,p2,p3,p4]
      refine wpAnyH_done (by kernel_rfl) ?_ _;refine NoPanic.normal ?_;go_wp2_with fail;go_ret;exact⟨za7 false ⟨fun h0=>absurd h0 (by decide),fun hr=>absurd (HBad.out hr) HNo.out⟩,HE.out.bel⟩
   ·obtain rfl:i=ts.length:=by omega
    have HR:=znd (HL.out.2 Hlen.out.symm (fun k h1 h2=>HP.out k h1 h2 h1));go_wp2_with fail;go_ret;exact⟨za7 true ⟨fun _=>HR.out,fun _=>rfl⟩,HE.out.bel⟩
 ·have hb0:((us.length:Int) != (ts.length:Int))=true:=by simp;omega
  have HNo:=znd (show¬RightP ts m w from fun hr=>hlen (HL.out.1 hr).1.symm);go_wp2_with fail;go_ret;exact⟨za7 false ⟨fun h0=>absurd h0 (by decide),fun hr=>absurd hr HNo.out⟩,HE.out.bel⟩

section
variable {P:Program} {ops:Array Oper} {Q:Exit->Act->World->Prop} {md:Region.Mode} {S:World->Prop} {s:Nat}

def zch (P:Program) (md:Region.Mode) (ops:Array Oper) (Q:Exit->Act->World->Prop) (S:World->Prop) (s:Nat):Nat->Array Bool->Act->World->Prop
 |0,listed,a,w=>Region.ready md ops listed=[]/\Q .normal a w
 |fuel+1,listed,a,w=>
  (Region.ready md ops listed=[]->Q .normal a w)/\
  ∀i∈Region.ready md ops listed,wpOp P ops Q i (fun a' w'=>(i=s\/S w')/\zch P md ops Q S s fuel (listed.setIfInBounds i true) a' w') a w
theorem zek:∀(fuel:Nat) (listed:Array Bool) (a:Act) (w:World),zch P md ops Q S s fuel listed a w->wpAny P md ops Q fuel listed a w
 |0,_,_,_,h=>h
 |fuel+1,_,_,_,h=>⟨h.1,fun i hi=>wpOp_mono (fun a' w' h'=>zek fuel _ a' w' h'.2) (h.2 i hi)⟩
def zey (md:Region.Mode) (ops:Array Oper) (s i:Nat):Bool:=
 match ops[s]?with
 |none=>true
 |some o=>o.after.any fun e=>Region.binds md e&&e.on==i
theorem zeX {i:Nat} {oi:Oper} {v:Value} (hi:ops[i]?=some oi) (hsel:∀(j:Nat) (o:Oper) cs b,ops[j]?=some o->o.op≠.select cs b)
 (hQ:∀c a w,Q (.panic c) (a.put oi.dst v) w->Q (.panic c) a w) (his:zey md ops s i=true):
 ∀(fuel:Nat) (listed:Array Bool) (a:Act) (w:World),
  (∀j oj,ops[j]?=some oj->j≠i->listed.getD j true=false->(∀e∈oj.after,Region.binds md e=true->e.on≠i)->oi.apart ops oj=true)->
  i∈Region.ready md ops listed->YieldsIf P ops S oi v a->S w->
  zch P md ops Q S s fuel (listed.setIfInBounds i true) (a.put oi.dst v) w->zch P md ops Q S s (fuel+1) listed a w:=by
 intro fuel
 induction fuel with
 |zero=>
  intro listed a w _ hr hy hS H;refine⟨fun h=>(by rw[h]at hr;cases hr),fun j hj=>?_⟩;by_cases hji:j=i
  ·subst hji;exact hy.wpOp hi hS ⟨.inr hS,H⟩
  ·have:=ready_mono hj hji;rw[H.1]at this
   cases this
 |succ fuel ih=>
  intro listed a w hfree hr hy hS H;refine⟨fun h=>(by rw[h]at hr;cases hr),fun j hj=>?_⟩;by_cases hji:j=i
  ·subst hji;exact hy.wpOp hi hS ⟨.inr hS,H⟩
  ·have h1:=H.2 j (ready_mono hj hji);obtain⟨hjun,oj,hoj,hall⟩:=mem_ready.1 hj;have hnot:∀e∈oj.after,Region.binds md e=true->e.on≠i:=fun e he hb heq=>by
    have h1:=hall e he hb;have h0:=(mem_ready.1 hr).1;rw[heq]at h1;rcases Nat.lt_or_ge i listed.size with h'|h'
    ·simp[h']at h0 h1;rw[h0]at h1;cases h1
    ·simp[Array.getElem?_eq_none h']at h1
   have hjs:j≠s:=fun e=>by
    subst e;unfold zey at his;rw[hoj]at his;obtain⟨e,he,hb⟩:=Array.any_eq_true'.1 his;simp only[Bool.and_eq_true,beq_iff_eq]at hb;exact hnot e he hb.1 hb.2
   have h2:=wpOp_putIf hoj (hfree j oj hoj hji hjun hnot) (fun cs b=>hsel i oi cs b hi) (fun cs b=>hsel j oj cs b hoj) hQ hy h1
   have hfree':∀k ok,ops[k]?=some ok->k≠i->(listed.setIfInBounds j true).getD k true=false->
    (∀e∈ok.after,Region.binds md e=true->e.on≠i)->oi.apart ops ok=true:=fun k ok hk hki hun hno=>by
    refine hfree k ok hk hki ?_ hno;by_cases hjk:j=k
    ·subst hjk;exact hjun
    ·rw[_root_.Go.getD_set_ne true hjk]at hun;exact hun
   refine wpOp_mono (fun a' w' h3=>?_) h2;have hS':S w':=h3.2.1.resolve_left hjs;refine⟨h3.2.1,ih (listed.setIfInBounds j true) a' w' hfree' (ready_mono hr (Ne.symm hji)) h3.1 hS' ?_⟩;rw[Array.setIfInBounds_comm _ _ hji];exact h3.2.2
def gOk (md:Region.Mode) (ops:Array Oper) (listed:Array Bool) (i s:Nat):Bool:=
 Region.noSelect ops&&Region.free md ops listed i&&(Region.ready md ops listed).contains i&&zey md ops s i
theorem gT (i:Nat) {oi:Oper} {v:Value} {fuel:Nat} {listed:Array Bool} {a:Act} {w:World} (d:Option Nat) (hi:ops[i]?=some oi) (hd:oi.dst=d) (hok:gOk md ops listed i s=true)
 (hQ:∀c a w,Q (.panic c) (a.put d v) w->Q (.panic c) a w) (hS:S w) (hy:Region.wanted oi (yielded ops a.tmps)=true/\∀w,S w->(execOp a.eval oi).run P w=.ok (.value v) w)
 (h:zch P md ops Q S s fuel (listed.setIfInBounds i true) (a.put d v) w):zch P md ops Q S s (fuel+1) listed a w:=by
 subst hd;unfold gOk at hok;obtain⟨h1,h4⟩:=Bool.and_eq_true_iff.1 hok;obtain⟨h1,h3⟩:=Bool.and_eq_true_iff.1 h1;obtain⟨h1,h2⟩:=Bool.and_eq_true_iff.1 h1;exact zeX hi (Region.noSelect_spec h1) hQ h4 fuel listed a w (Region.free_spec hi h2) (by simpa using h3) (.inl hy) hS h
theorem gTa (i d:Nat) {oi:Oper} {v:Value} {fuel:Nat} {listed l2:Array Bool} {a a2:Act} {w:World} (hS:S w)
 (h:zch P md ops Q S s fuel l2 a2 w) (hi:ops[i]?=some oi:=by rfl) (hd:oi.dst=some d:=by rfl) (hok:gOk md ops listed i s=true:=by kernel_rfl) (hw:Region.wanted oi (yielded ops a.tmps)=true:=by rfl)
 (hy:∀w,S w->(execOp a.eval oi).run P w=.ok (.value v) w:=by(intro w hSw;(try dsimp only at hSw);(first|(go_simp;done)|(go_simp;with_reducible rfl))))
 (hl:listed.setIfInBounds i true=l2:=by((try simp only[p2,p3,p4]);exact rfl)) (ha:a.put (some d) v=a2:=by((try simp only[p1,p2,p3,p4]);exact rfl))
 (hQ:∀c a w,Q (.panic c) (a.put (some d) v) w->Q (.panic c) a w:=by exact fun _ _ _ h=>h):zch P md ops Q S s (fuel+1) listed a w:=by
 subst hl ha;exact gT i (some d) hi hd hok hQ hS ⟨hw,hy⟩ h
theorem gC (i:Nat) {o:Oper} {fuel:Nat} {listed:Array Bool} {a:Act} {w:World} (hi:ops[i]?=some o) (hr:Region.ready md ops listed=[i]) (hw:Region.wanted o (yielded ops a.tmps)=true)
 (h:∀K:Act->World->Prop,Shut (∀a w,S w->(S w->zch P md ops Q S s fuel (listed.setIfInBounds i true) a w)->K a w)->Oper.wp P o a w K Q):zch P md ops Q S s (fuel+1) listed a w:=by
 refine⟨fun h0=>(by rw[hr]at h0;cases h0),fun j hj=>?_⟩;rw[hr]at hj;obtain rfl:=List.mem_singleton.1 hj
 exact wpOp_step hi (fun K' hK=>by
  rw[if_pos hw];exact h K' (fun a w hS hn=>hK a w ⟨.inr hS,hn hS⟩))
theorem gL {o:Oper} {fuel:Nat} {listed:Array Bool} {a:Act} {w:World} (hi:ops[s]?=some o) (hr:Region.ready md ops listed=[s]) (hr2:Region.ready md ops (listed.setIfInBounds s true)=[]) (hw:Region.wanted o (yielded ops a.tmps)=true)
 (h:∀K:Act->World->Prop,Shut (∀a w,Q .normal a w->K a w)->Oper.wp P o a w K Q):zch P md ops Q S s (fuel+1) listed a w:=by
 refine⟨fun h0=>(by rw[hr]at h0;cases h0),fun j hj=>?_⟩;rw[hr]at hj;obtain rfl:=List.mem_singleton.1 hj
 exact wpOp_step hi (fun K' hK=>by
  rw[if_pos hw]
  exact h K' (fun a w hn=>hK a w ⟨.inl rfl,by
   cases fuel with
   |zero=>exact⟨hr2,hn⟩
   |succ fuel=>exact⟨fun _=>hn,by rw[hr2];simp⟩⟩))
theorem zab {id:Nat} {a:Act} {w:World} (s:Nat) (S:World->Prop) (hm:P.follows .mixedOrders=true) (hS:S w.drew)
 (h:S w.drew->zch P .any ops Q S s ops.size (Array.replicate ops.size false) a w.drew):(Code.region id ops true).wp P Q a w:=
 wp_region_any hm (zek _ _ _ _ (h hS))
end

theorem zbH (p:RV×Rat):∀u∈(rtcells p).toList,u.oneCell'=true:=by
 intro u hu;simp only[rtcells,List.mem_cons,List.not_mem_nil,or_false]at hu;rcases hu with rfl|rfl|rfl|rfl<;>rfl
theorem zer:Tryz.prog.underlying 46=some (.slice 77):=by kernel_rfl
theorem zgx:(Tryz.prog.info? 77).map (fun i=>(i.zero,i.size,i.bytes))=some (some (.slice none 0 0),1,24):=by kernel_rfl
theorem zhH {z:Array Value} {sz:Nat} (hz:z.size=sz) (hsz:0<sz) (n:Nat):madeCells z (n*sz)=(zb1 (List.replicate n z)).toArray:=by
 have hs:∀c∈List.replicate n z,c.size=sz:=fun c hc=>by rw[List.eq_of_mem_replicate hc];exact hz
 have hl:=zbg hs;rw[List.length_replicate]at hl;apply Array.toList_inj.1;apply List.ext_getElem?;intro k;by_cases hk:k<n*sz
 ·obtain⟨a,b,rfl,hb⟩:∃a b,k=a*sz+b/\b<sz:=⟨k/sz,k%sz,by rw[Nat.mul_comm,Nat.div_add_mod],Nat.mod_lt _ hsz⟩;have ha:a<n:=by
   rcases Nat.lt_or_ge a n with h|h
   ·exact h
   ·have:=Nat.mul_le_mul_right sz h;omega
  rw[zbJ hs a b (by simpa using ha) hb,List.getElem_replicate];have e:(madeCells z (n*sz)).toList[a*sz+b]?=some (z[(a*sz+b)%z.size]!):=by
   simp[madeCells,hk]
  have e2:(a*sz+b)%z.size=b:=by
   rw[hz,Nat.add_comm,Nat.add_mul_mod_self_right,Nat.mod_eq_of_lt hb]
  rw[e,e2];simp[hz,hb]
 ·rw[List.getElem?_eq_none (by rw[Array.length_toList,size_madeCells];omega),List.getElem?_eq_none (by rw[List.toList_toArray,hl];omega)]
theorem OwnE.of_blk {W:World} {B:Nat} {e:TypeId} {sz g:Nat} {cs:List (Array Value)} (hB:B<=g) (hs:∀c∈cs,c.size=sz) (hl:cs.length<=maxLen) (hb:Blk W g e (zb1 cs).toArray):OwnE W B e sz (.slice (some ⟨g,0,none⟩) cs.length cs.length) cs:=by
 have h1:=zbg hs;exact⟨hs,by rw[h1],.inr ⟨g,cs.length,(zb1 cs).toArray,rfl,hB,hb,Nat.le_refl _,hl,by rw[List.size_toArray,h1],by rw[List.toList_toArray,List.take_of_length_le (Nat.le_of_eq h1)]⟩⟩
section
variable {w W W':World} {ls:List Ow} {bs:List Bo} {old new φ ψ:World->Prop}
theorem zjm {α:Type} {l:List α} {k:Nat} (hk:k<l.length):(l[k]::l.eraseIdx k).Perm l:=by
 conv=>rhs;rw[<-List.take_append_drop k l,List.drop_eq_getElem_cons hk]
 rw[List.eraseIdx_eq_take_drop_succ];exact List.perm_middle.symm
theorem GL.goAt {k:Nat} {o o':Ow} {X:World} (h:GL w ls old new W) (hk:ls[k]?=some o) (he:Rests X (fun n=>W.heap.size<=n) ψ) (hX:Below W.heap.size W X) (ho:OwnE W' w.heap.size o'.e o'.sz o'.v o'.cs) (hb:Below w.heap.size X W')
 (hkk:∀b,b<X.heap.size->o.v.ownBlock≠some b->W'.heap[b]?=X.heap[b]?) (hs:X.heap.size<=W'.heap.size) (hor:o'.v.ownBlock=o.v.ownBlock\/∃b,o'.v.ownBlock=some b/\X.heap.size<=b):
 GL w (ls.set k o') old (fun V=>ψ V/\new V) W':=by
 obtain⟨hk',rfl⟩:=List.getElem?_eq_some_iff.1 hk;have p1:(ls[k]::ls.eraseIdx k).Perm ls:=zjm hk';have p2:(ls.set k o').Perm (o'::ls.eraseIdx k):=by
  have:=(zjm (l:=ls.set k o') (k:=k) (by simpa using hk')).symm
  rwa [List.getElem_set_self,List.eraseIdx_set_eq]at this
 exact((h.perm p1).go he hX ho hb hkk hs hor).perm p2
theorem GL.call (h:GL w ls old new W) (hk:Rests W' (fun n=>W.heap.size<=n) ψ) (hb:Below W.heap.size W W'):GL w ls old (fun V=>ψ V/\new V) W':=h.keep hk hb
theorem GL.drew (h:GL w ls old new W):GL w ls old new W.drew:=⟨fun o ho=>(h.own o ho).drew,h.nd,h.rso.drew,h.rsn.drew,h.bel.drew⟩
theorem GL.wd {V:World} (h:GL w ls old new W) (e:V=W\/V=W.drew:=by first|with_reducible exact .inl rfl|with_reducible exact .inr rfl):GL w ls old new V:=by
 rcases e with rfl|rfl
 ·exact h
 ·exact h.drew
theorem GL.box (h:GL w ls old new W) (t:TypeId) (cs:Array Value):GL w ls old (fun V=>Blk V W.heap.size t cs/\new V) (W.alloc (.cells cs t)):=
 h.keep ⟨Blk.new W t cs,fun w' hw=>(hw W.heap.size (Nat.le_refl _) (by simp)).trans (Blk.new W t cs)⟩ ((Below.refl _ W).alloc (Nat.le_refl _) _)
theorem GL.setg {k i j:Nat} {e:TypeId} {sz g n cap:Nat} {cs:List (Array Value)} (h:GL w ls old new W) (hk:ls[k]?=some ⟨e,sz,.slice (some ⟨g,0,none⟩) n cap,cs⟩) (hi:i<cs.length) (hj:j<sz) (u:Value):
 GL w (ls.set k ⟨e,sz,.slice (some ⟨g,0,none⟩) n cap,cs.set i ((cs[i]).setIfInBounds j u)⟩) old new (W.setCell ⟨g,i*sz+j,none⟩ u):=by
 have ho:OwnE W w.heap.size e sz (.slice (some ⟨g,0,none⟩) n cap) cs:=h.own _ (List.mem_of_getElem? hk);have hg:=ho.lt g rfl;refine(GL.goAt (ψ:=fun _=>True) h hk (.pure trivial _ _) (Below.refl _ _) (o':=⟨e,sz,.slice (some ⟨g,0,none⟩) n cap,cs.set i ((cs[i]).setIfInBounds j u)⟩) (ho.set1 i j hi hj u) ((Below.refl _ W).setCell (show w.heap.size<=(⟨g,i*sz+j,none⟩:Addr).block from hg.1) u) (fun b _ hne=>?_) ?_ (.inl rfl)).imp (fun _ h=>h) fun _ h=>h.2
 ·exact Below.heap_setCell W _ u b fun e'=>hne (by rw[e'];rfl)
 ·simp[World.setCell]
theorem zaQ {α:Type} (l:List α) (k:Nat) (a b:α) (h:l[k]?=some a):(l.set k b)[k]?=some b:=by
 obtain⟨h1,-⟩:=List.getElem?_eq_some_iff.1 h;rw[List.getElem?_set_self h1]
theorem GL.set1 {k i:Nat} {e:TypeId} {g n cap:Nat} {A:Option Addr} (hA:A=some ⟨g,0,none⟩) {cs:List (Array Value)} (h:GL w ls old new W) (hk:ls[k]?=some ⟨e,1,.slice A n cap,cs⟩) (hi:i<cs.length) (u:Value):
 GL w (ls.set k ⟨e,1,.slice A n cap,cs.set i #[u]⟩) old new (W.setCell (adr A i) u):=by
 subst hA;obtain⟨x,hx⟩:∃x,x=cs[i]:=⟨_,rfl⟩;have hxs:x.size=1:=by rw[hx];exact(h.own _ (List.mem_of_getElem? hk)).1 _ (List.getElem_mem hi)
 have h0:=h.setg hk hi (j:=0) (by decide) u
 rw[<-hx,show x.setIfInBounds 0 u=#[u]from by
  obtain⟨l⟩:=x
  match l,hxs with
  |[_],_=>rfl]at h0
 rw[za6,Nat.zero_add];simpa using h0
theorem zks (x:Array Value) (hx:x.size=4) (a b c d:Value):(((x.setIfInBounds 0 a).setIfInBounds 1 b).setIfInBounds 2 c).setIfInBounds 3 d=#[a,b,c,d]:=by
 obtain⟨l⟩:=x
 match l,hx with
 |[_,_,_,_],_=>rfl
theorem GL.set4 {k i:Nat} {e:TypeId} {g n cap:Nat} {A:Option Addr} (hA:A=some ⟨g,0,none⟩) {cs:List (Array Value)} (h:GL w ls old new W) (hk:ls[k]?=some ⟨e,4,.slice A n cap,cs⟩) (hi:i<cs.length) (a b c d:Value):
 GL w (ls.set k ⟨e,4,.slice A n cap,cs.set i #[a,b,c,d]⟩) old new ((((W.setCell (adr A (i*4)) a).setCell (adr A (i*4+1)) b).setCell (adr A (i*4+2)) c).setCell (adr A (i*4+3)) d):=by
 subst hA;have e0:∀k,adr (some ⟨g,0,none⟩) k=⟨g,k,none⟩:=fun k=>by rw[za6,Nat.zero_add]
 simp only[e0];obtain⟨x,hx⟩:∃x,x=cs[i]:=⟨_,rfl⟩;have hxs:x.size=4:=by rw[hx];exact(h.own _ (List.mem_of_getElem? hk)).1 _ (List.getElem_mem hi)
 have h0:=h.setg hk hi (j:=0) (by decide) a;have h1:=h0.setg (zaQ _ _ _ _ hk) (i:=i) (by simpa using hi) (j:=1) (by decide) b;have h2:=h1.setg (zaQ _ _ _ _ (zaQ _ _ _ _ hk)) (i:=i) (by simpa using hi) (j:=2) (by decide) c;have h3:=h2.setg (zaQ _ _ _ _ (zaQ _ _ _ _ (zaQ _ _ _ _ hk))) (i:=i) (by simpa using hi) (j:=3) (by decide) d;simp only[List.getElem_set_self,List.set_set,<-hx]at h3;rw[zks x hxs]at h3;exact h3
theorem GL.cell {k i j:Nat} {e:TypeId} {sz n cap:Nat} {A:Option Addr} {cs:List (Array Value)} (h:GL w ls old new W) (hk:ls[k]?=some ⟨e,sz,.slice A n cap,cs⟩) (hi:i<cs.length) (hj:j<sz):W.cell? (adr A (i*sz+j))=(cs[i])[j]?:=
 ((h.own _ (List.mem_of_getElem? hk)).el).1.cell i hi j hj
theorem GL.free {k:Nat} {e:TypeId} {sz g n cap:Nat} {A:Option Addr} (hA:A=some ⟨g,0,none⟩) {cs:List (Array Value)} (h:GL w ls old new W) (hk:ls[k]?=some ⟨e,sz,.slice A n cap,cs⟩) (i:Nat):W.frozen? (adr A i)=false:=
 (h.own _ (List.mem_of_getElem? hk)).free hA i
theorem GL.add {e:TypeId} {sz:Nat} {cs:List (Array Value)} (h:GL w ls old new W) (hs:∀c∈cs,c.size=sz) (hl:cs.length<=maxLen):GL w (⟨e,sz,.slice (some ⟨W.heap.size,0,none⟩) cs.length cs.length,cs⟩::ls) old new (W.alloc (.cells (zb1 cs).toArray e)):=by
 refine(GL.go (X:=W) (ψ:=fun _=>True) (o':=⟨e,sz,.slice (some ⟨W.heap.size,0,none⟩) cs.length cs.length,cs⟩) (h.new_ e sz) (.pure trivial _ _) (Below.refl _ _) (OwnE.of_blk h.bel.size hs hl (Blk.new W e _)) ((Below.refl _ W).alloc h.bel.size _) (fun b hb _=>Below.heap_alloc W _ b hb) (by simp) (.inr ⟨W.heap.size,rfl,Nat.le_refl _⟩)).imp (fun _ h=>h) fun _ h=>h.2
theorem GL.addz {e:TypeId} {sz:Nat} {z:Array Value} (h:GL w ls old new W) (hz:z.size=sz) (hsz:0<sz) (L:Nat) (hl:L<=maxLen):GL w (⟨e,sz,.slice (some ⟨W.heap.size,0,none⟩) L L,List.replicate L z⟩::ls) old new (W.alloc (.cells (madeCells z (L*sz)) e)):=by
 have h1:=h.add (e:=e) (sz:=sz) (cs:=List.replicate L z) (fun c hc=>by rw[List.eq_of_mem_replicate hc];exact hz) (by simpa using hl);rw[<-zhH hz hsz L,List.length_replicate]at h1;exact h1
theorem GL.addb (h:GL w ls old new W) (e:TypeId) (c:Array Value):GL w (⟨e,c.size,.slice (some ⟨W.heap.size,0,none⟩) 1 1,[c]⟩::ls) old new (W.alloc (.cells c e)):=by
 have h1:=h.add (e:=e) (sz:=c.size) (cs:=[c]) (fun x hx=>by rw[List.mem_singleton.1 hx]) (by simp[maxLen]);rw[show(zb1 [c]).toArray=c from by simp[zb1]]at h1;exact h1
theorem GL.appAt {P:Program} {t e:TypeId} {k sz bytes:Nat} {z v:Value} {cs:List (Array Value)} (ht:P.underlying t=some (.slice e)) (hinfo:(P.info? e).map (fun i=>(i.zero,i.size,i.bytes))=some (some z,sz,bytes)) (hz:z.cells.size=sz) (hsz:0<sz)
 (h:GL w ls old new W) (hk:ls[k]?=some ⟨e,sz,v,cs⟩) {b of:Nat} {d:Array Value} {c:Nat} (hd:El W sz (some ⟨b,of,none⟩) [d]) (h1:∀u∈d.toList,u.oneCell'=true) (hlen:(cs.length+1)*bytes<=140737488355328) (hl:cs.length+1<=maxLen):
 ∃v' w',(Builtin.append_ #[t,t] t #[v,.slice (some ⟨b,of,none⟩) 1 c]).run P W=.ok v' w'/\GL w (ls.set k ⟨e,sz,v',cs++[d]⟩) old new w'/\Below w.heap.size W w'/\(∃A n cap,v'=.slice A n cap):=by
 have hown:OwnE W w.heap.size e sz v cs:=h.own _ (List.mem_of_getElem? hk)
 obtain⟨v',w',hrun,ho,hb,hkk,hs,hor⟩:=OwnE.apps ht hinfo hz hsz hown (c:=c) (ds:=[d]) hd (fun d' hd' u hu=>by
  rw[List.mem_singleton.1 hd']at hu;exact h1 u hu) hlen hl h.bel.size
 obtain⟨A,cap,hv,-⟩:=ho.form;refine⟨v',w',hrun,(GL.goAt (ψ:=fun _=>True) (o':=⟨e,sz,v',cs++[d]⟩) h hk (.pure trivial _ _) (Below.refl _ _) ho hb hkk hs ?_).imp (fun _ h=>h) (fun _ h=>h.2),hb,A,_,cap,hv⟩;rcases hor with e|e
 ·exact .inl e
 ·exact .inr ⟨_,e,Nat.le_refl _⟩
@[reducible] def bow (g:Nat) (t:TypeId) (sz:Nat) (c:Array Value):Ow:=⟨t,sz,.slice (some ⟨g,0,none⟩) 1 1,[c]⟩
theorem Env.made {W0:World} (h:Env W0 bs old new W):Rests W (fun n=>W0.heap.size<=n) (fun V=>(∀b∈bs,Blk V b.g b.t b.cs)/\new V):=
 Rests.and (Rests.all (φ:=fun(b:Bo) V=>Blk V b.g b.t b.cs) fun b hb=>⟨h.bx b hb,fun _w' hw=>(hw b.g (h.own b hb) (h.bx b hb).lt).trans (h.bx b hb)⟩) h.fresh
theorem GL.sink (h:GL w ls old new W):GL w ls (fun V=>new V/\old V) (fun _=>True) W:=⟨h.own,h.nd,(h.rsn.mono fun _ h=>h.2).and h.rso,.pure trivial _ _,h.bel⟩
theorem OwnE.blk {B:Nat} {t:TypeId} {sz g:Nat} {c:Array Value} (h:OwnE W B t sz (.slice (some ⟨g,0,none⟩) 1 1) [c]):Blk W g t c:=by
 obtain⟨hs,hl,h1|⟨g',cap',cur,hv,hg,hh,hn,hm,hsz,ht⟩⟩:=h
 ·cases h1.1
 ·obtain⟨rfl,-,rfl⟩:g=g'/\1=[c].length/\1=cap':=by simpa using hv
  have e:cur=c:=by
   apply Array.toList_inj.1;rw[List.take_of_length_le (by rw[Array.length_toList,hsz];simp)]at ht;rw[ht];simp[zb1]
  rw[<-e];exact hh
theorem GL.drop_ {t:TypeId} {sz g:Nat} {c:Array Value} (h:GL w (⟨t,sz,.slice (some ⟨g,0,none⟩) 1 1,[c]⟩::ls) old new W):GL w ls old (fun V=>Blk V g t c/\new V) W:=by
 have ho:OwnE W w.heap.size t sz (.slice (some ⟨g,0,none⟩) 1 1) [c]:=h.own _ (List.mem_cons_self ..);have hB:=ho.blk;have hg:=ho.lt g rfl;have hnd:=List.pairwise_cons.1 h.nd;refine⟨fun o ho=>h.own o (List.mem_cons_of_mem _ ho),hnd.2,h.rso.mono fun n hn o ho=>hn o (List.mem_cons_of_mem _ ho),Rests.and ⟨hB,fun w' hw=>(hw g ⟨hg.1,fun o ho e=>?_⟩ hg.2).trans hB⟩ (h.rsn.mono fun n hn=>⟨hn.1,fun o ho=>hn.2 o (List.mem_cons_of_mem _ ho)⟩),h.bel⟩;exact hnd.1 o ho g rfl e
theorem GL.cb {k g:Nat} {t:TypeId} {sz:Nat} {c:Array Value} (h:GL w ls old new W) (hk:ls[k]?=some (bow g t sz c)):CB g c W:=(OwnE.blk (h.own _ (List.mem_of_getElem? hk))).cb
theorem GL.put4 {k:Nat} {e:TypeId} {g:Nat} {c0:Array Value} (h:GL w ls old new W) (hk:ls[k]?=some (bow g e 4 c0)) (u0 u1 u2 u3:Value):
 GL w (ls.set k (bow g e 4 #[u0,u1,u2,u3])) old new ((((W.setCell ⟨g,0,none⟩ u0).setCell ⟨g,1,none⟩ u1).setCell ⟨g,2,none⟩ u2).setCell ⟨g,3,none⟩ u3):=by
 have h0:=h.set4 (i:=0) rfl hk (by simp) u0 u1 u2 u3;simp only[Nat.zero_mul,Nat.zero_add,za6,List.set_cons_zero]at h0;exact h0
theorem GL.al (h:GL w ls old new W) (t:TypeId) (cs:Array Value):∃W' g,W.alloc (.cells cs t)=W'/\W.heap.size=g/\Hid (GL w ls old (fun V=>Blk V g t cs/\new V) W'):=⟨_,_,rfl,rfl,znd (h.box t cs)⟩
theorem zdD {P:Program} {w w':World} {o:Oper} {a:Act} {K:Act->World->Prop} {Q:Exit->Act->World->Prop} (s x:Operand) (t:TypeId) (v y v':Value)
 (ho:o.op=.call {callee:=.builtin .append,args:=#[s,x],argTypes:=#[t,t]}) (hs:a.eval s=v) (hx:a.eval x=y)
 (hrun:(Builtin.append_ #[t,t] o.type #[v,y]).run P w=.ok v' w')
 (h:K (a.put o.dst v') w'):Oper.wp P o a w K Q:=by
 unfold Oper.wp execOp;simp only[ho,resolve,invoke,builtin,Sem.run_bind,Sem.run_pure,Result.andThen_ok,List.map_toArray,List.map_cons,List.map_nil,hs,hx,hrun];exact h
@[reducible] def colOw (v:VeV):Ow:=⟨80,5,.slice v.A v.ts.length v.c,v.ts.map zw7⟩
theorem GL.rc {k i:Nat} {e:TypeId} {n cap:Nat} {A:Option Addr} {l:List (RV×Rat)} (h:GL w ls old new W) (hk:ls[k]?=some ⟨e,4,.slice A n cap,l.map rtcells⟩) (hi:i<l.length):RC A i l[i] W:=by
 have hc:=fun j hj=>h.cell (i:=i) (j:=j) hk (by simpa using hi) hj;rw[List.getElem_map]at hc;exact⟨hc 0 (by decide),hc 1 (by decide),hc 2 (by decide),hc 3 (by decide)⟩
theorem GL.vc {k i:Nat} {e:TypeId} {n cap:Nat} {A:Option Addr} {l:List VeV} (h:GL w ls old new W) (hk:ls[k]?=some ⟨e,1,.slice A n cap,l.map za3⟩) (hi:i<l.length):W.cell? (adr A i)=some (.slice (l[i]).A (l[i]).ts.length (l[i]).c):=by
 have hc:=h.cell (i:=i) (j:=0) hk (by simpa using hi) (by decide);rw[List.getElem_map,Nat.mul_one,Nat.add_zero]at hc;exact hc
end
end Go.Proofs.YtegfiemlnnpidaaGreatDoor
