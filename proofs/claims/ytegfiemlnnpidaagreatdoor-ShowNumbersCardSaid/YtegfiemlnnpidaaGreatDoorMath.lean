/-
 Plain facts on digits: lists of digits to a base, the least first, and the numbers that they say.
-/
namespace Go.Proofs.YtegfiemlnnpidaaGreatDoor

def B64:Nat:=18446744073709551616
theorem za4:0<B64:=by decide

def val (b:Nat):List Nat->Nat
 |[]=>0
 |x::xs=>x+b*val b xs

def zeF (b:Nat):Nat->Nat->List Nat
 |0,_=>[]
 |f+1,n=>if n=0 then[] else n%b::zeF b f (n/b)
def digs (b n:Nat):List Nat:=zeF b n n

theorem zbA (b:Nat) (xs ys:List Nat):val b (xs++ys)=val b xs+b^xs.length*val b ys:=by
 induction xs with
 |nil=>simp[val]
 |cons x xs ih=>
  simp only[List.cons_append,val,ih,List.length_cons,Nat.pow_succ];rw[Nat.mul_add,Nat.add_assoc,Nat.mul_comm (b^_) b,Nat.mul_assoc]

theorem zdo {b:Nat} {xs:List Nat} (h:∀x∈xs,x<b):val b xs<b^xs.length:=by
 induction xs with
 |nil=>simp[val]
 |cons x xs ih=>
  have h1:=ih (fun y hy=>h y (List.mem_cons_of_mem _ hy));have h2:=h x (List.mem_cons_self ..);simp only[val,List.length_cons,Nat.pow_succ];have h3:b*(val b xs+1)<=b*b^xs.length:=Nat.mul_le_mul_left _ h1;rw[Nat.mul_add,Nat.mul_one]at h3;rw[Nat.mul_comm (b^_) b];omega

theorem zbd (b n:Nat):val b (List.replicate n 0)=0:=by
 induction n with
 |zero=>rfl
 |succ n ih=>simp[List.replicate_succ,val,ih]

def Tidy (l:List Nat):Prop:=l=[]\/∃x,l.getLast?=some x/\x≠0

theorem zeH {b:Nat} (hb:1<b):∀(f n:Nat),n<=f->val b (zeF b f n)=n/\(∀x∈zeF b f n,x<b)/\Tidy (zeF b f n)/\(n≠0->zeF b f n≠[]):=by
 intro f
 induction f with
 |zero=>intro n h;obtain rfl:n=0:=by omega
        exact⟨rfl,fun x hx=>by simp[zeF]at hx,.inl rfl,fun h=>absurd rfl h⟩
 |succ f ih=>
  intro n h;by_cases h0:n=0
  ·subst h0;simp[zeF,val,Tidy]
  ·have hlt:n/b<n:=Nat.div_lt_self (by omega) hb;obtain⟨h1,h2,h3,h4⟩:=ih (n/b) (by omega);simp only[zeF,if_neg h0,val,h1];refine⟨?_,?_,?_,fun _=>by simp⟩
   ·have:=Nat.div_add_mod n b;omega
   ·intro x hx;rcases List.mem_cons.1 hx with rfl|hx
    ·exact Nat.mod_lt _ (by omega)
    ·exact h2 x hx
   ·right;rcases h3 with h3|⟨x,hx,hx0⟩
    ·rw[h3];refine⟨n%b,by simp,?_⟩;have hz:n/b=0:=by
      rcases Nat.eq_zero_or_pos (n/b)with hz|hz
      ·exact hz
      ·exact absurd h3 (h4 (by omega))
     have:=Nat.div_add_mod n b;rw[hz]at this;omega
    ·refine⟨x,?_,hx0⟩;rw[List.getLast?_cons,hx];rfl

theorem zar {b:Nat} (hb:1<b) (n:Nat):val b (digs b n)=n:=(zeH hb n n (Nat.le_refl _)).1
theorem zbi {b:Nat} (hb:1<b) (n:Nat):∀x∈digs b n,x<b:=(zeH hb n n (Nat.le_refl _)).2.1
theorem digs_tidy {b:Nat} (hb:1<b) (n:Nat):Tidy (digs b n):=(zeH hb n n (Nat.le_refl _)).2.2.1

theorem Tidy.tail {x:Nat} {l:List Nat} (h:Tidy (x::l)):Tidy l:=by
 rcases h with h|⟨y,hy,h0⟩
 ·cases h
 ·cases l with
  |nil=>exact .inl rfl
  |cons z l=>exact .inr ⟨y,by rw[List.getLast?_cons_cons]at hy;exact hy,h0⟩

theorem Tidy.pos {b:Nat} (hb:1<b) {l:List Nat} (h:Tidy l) (hl:l≠[]):0<val b l:=by
 induction l with
 |nil=>exact absurd rfl hl
 |cons x l ih=>
  cases l with
  |nil=>
   rcases h with h|⟨y,hy,h0⟩
   ·cases h
   ·simp at hy;subst hy;simp[val];omega
  |cons z l=>
   have:=ih h.tail (by simp);simp only[val]at this⊢;have h2:0<b*(z+b*val b l):=Nat.mul_pos (by omega) this;omega

theorem zjv {b:Nat} (hb:1<b):∀{xs ys:List Nat},(∀x∈xs,x<b)->(∀y∈ys,y<b)->Tidy xs->Tidy ys->val b xs=val b ys->xs=ys:=by
 intro xs
 induction xs with
 |nil=>
  intro ys _ _ _ ty he
  cases ys with
  |nil=>rfl
  |cons y ys=>have:=ty.pos hb (by simp);rw[<-he]at this;simp[val]at this
 |cons x xs ih=>
  intro ys hx hy tx ty he
  cases ys with
  |nil=>have:=tx.pos hb (by simp);rw[he]at this;simp[val]at this
  |cons y ys=>
   have e1:=hx x (List.mem_cons_self ..);have e2:=hy y (List.mem_cons_self ..);simp only[val]at he;have m1:(x+b*val b xs)%b=x:=by rw[Nat.add_mul_mod_self_left];exact Nat.mod_eq_of_lt e1
   have m2:(y+b*val b ys)%b=y:=by rw[Nat.add_mul_mod_self_left];exact Nat.mod_eq_of_lt e2
   have exy:x=y:=by rw[<-m1,he,m2]
   subst exy;have hv:val b xs=val b ys:=by
    have:b*val b xs=b*val b ys:=by omega
    exact Nat.eq_of_mul_eq_mul_left (by omega) this
   rw[ih (fun z hz=>hx z (List.mem_cons_of_mem _ hz)) (fun z hz=>hy z (List.mem_cons_of_mem _ hz)) tx.tail ty.tail hv]

theorem zfp {b:Nat} (hb:1<b) {l:List Nat} (h:∀x∈l,x<b) (t:Tidy l):l=digs b (val b l):=
 zjv hb h (zbi hb _) t (digs_tidy hb _) (zar hb _).symm

theorem zbF (b:Nat):digs b 0=[]:=rfl
theorem zaT {b:Nat} (hb:1<b) {n:Nat}:digs b n=[]↔n=0:=
 ⟨fun h=>by have:=zar hb n;rw[h]at this;exact this.symm,fun h=>by subst h;rfl⟩

def nth (l:List Nat) (i:Nat):Nat:=l.getD i 0

def zbI (l:List Nat):Nat->Nat
 |0=>0
 |n+1=>if nth l n=0 then zbI l n else n+1
theorem zkG (l:List Nat) (n:Nat):zbI l n<=n:=by
 induction n with
 |zero=>simp[zbI]
 |succ n ih=>simp only[zbI];split<;>omega
def used (l:List Nat):Nat:=zbI l l.length
theorem zay (l:List Nat):used l<=l.length:=zkG _ _
def trim (l:List Nat):List Nat:=l.take (used l)

theorem zei (b:Nat) (l:List Nat):∀n,n<=l.length->val b (l.take (zbI l n))=val b (l.take n)/\Tidy (l.take (zbI l n)):=by
 intro n
 induction n with
 |zero=>intro _;simp[zbI,Tidy]
 |succ n ih=>
  intro h;simp only[zbI];have e:l.take (n+1)=l.take n++[nth l n]:=by
   rw[List.take_succ_eq_append_getElem (by omega)];simp[nth,List.getD,List.getElem?_eq_getElem (show n<l.length by omega)]
  split
  ·rename_i hz
   obtain⟨h1,h2⟩:=ih (by omega);refine⟨?_,h2⟩;rw[h1,e,zbA,hz];simp[val]
  ·rename_i hz
   refine⟨rfl,.inr ⟨nth l n,?_,hz⟩⟩;rw[e];simp

theorem zaz (b:Nat) (l:List Nat):val b (trim l)=val b l:=by
 have:=(zei b l l.length (Nat.le_refl _)).1;simpa[trim,used] using this
theorem zbt (l:List Nat):Tidy (trim l):=by
 have:=(zei 2 l l.length (Nat.le_refl _)).2;simpa[trim,used] using this
theorem zbp {b:Nat} {l:List Nat} (h:∀x∈l,x<b):∀x∈trim l,x<b:=fun x hx=>h x (List.mem_of_mem_take hx)
theorem zb5 {b:Nat} (hb:1<b) {l:List Nat} (h:∀x∈l,x<b):trim l=digs b (val b l):=by
 rw[zfp hb (zbp h) (zbt l),zaz]
theorem za5 (l:List Nat):(trim l).length=used l:=by
 have:=zay l;simp[trim];omega
theorem zlW {b:Nat} (hb:1<b) {l:List Nat} (h:∀x∈l,x<b):used l=(digs b (val b l)).length:=by
 rw[<-zb5 hb h,za5]

theorem zav {b:Nat} {l:List Nat} (h:used l=0):val b l=0:=by
 rw[<-zaz,trim,h];simp[val]

def cmpN (a b:Nat):Int:=if a<b then -1 else if a=b then 0 else 1
theorem zcS (a:Nat):cmpN a a=0:=by simp[cmpN]
theorem zcJ {a b:Nat} (h:a<b):cmpN a b=-1:=by simp[cmpN,h]
theorem zcN {a b:Nat} (h:b<a):cmpN a b=1:=by simp[cmpN,show¬a<b by omega,show¬a=b by omega]

theorem zcB {b:Nat} (hb:1<b):∀{ys:List Nat},Tidy ys->ys≠[]->b^(ys.length-1)<=val b ys:=by
 intro ys
 induction ys with
 |nil=>intro _ h;exact absurd rfl h
 |cons y ys ih=>
  intro t _
  cases ys with
  |nil=>have:=t.pos hb (by simp);simp;omega
  |cons z ys=>
   have h:=ih t.tail (by simp);have h2:b*b^((z::ys).length-1)<=b*val b (z::ys):=Nat.mul_le_mul_left _ h;have e:(y::z::ys).length-1=((z::ys).length-1)+1:=by simp
   rw[e,Nat.pow_succ,Nat.mul_comm,show val b (y::z::ys)=y+b*val b (z::ys)from rfl];omega
theorem zaP {b:Nat} (hb:1<b) {xs ys:List Nat} (hx:∀x∈xs,x<b) (ty:Tidy ys) (h:xs.length<ys.length):val b xs<val b ys:=by
 have h1:=zdo hx;have h2:=zcB hb ty (by intro e;subst e;simp at h);have h3:b^xs.length<=b^(ys.length-1):=Nat.pow_le_pow_right (by omega) (by omega);omega
theorem zh6 {b:Nat} (hb:1<b) {xs ys:List Nat} (hx:∀x∈xs,x<b) (hy:∀y∈ys,y<b) (h:used xs≠used ys):cmpN (used xs) (used ys)=cmpN (val b xs) (val b ys):=by
 rw[<-zaz b xs,<-zaz b ys];rcases Nat.lt_or_gt_of_ne h with h|h
 ·rw[zcJ h,zcJ (zaP hb (zbp hx) (zbt ys) (by rw[za5,za5];exact h))]
 ·rw[zcN h,zcN (zaP hb (zbp hy) (zbt xs) (by rw[za5,za5];exact h))]

def valT (b:Nat) (l:List Nat):Nat->Nat
 |0=>0
 |n+1=>valT b l n+b^n*nth l n
theorem zbf (b:Nat) (l:List Nat):∀n,n<=l.length->valT b l n=val b (l.take n):=by
 intro n
 induction n with
 |zero=>intro _;simp[valT,val]
 |succ n ih=>
  intro h;have e:l.take (n+1)=l.take n++[nth l n]:=by
   rw[List.take_succ_eq_append_getElem (by omega)];simp[nth,List.getD,List.getElem?_eq_getElem (show n<l.length by omega)]
  rw[valT,ih (by omega),e,zbA];have hl:(l.take n).length=n:=by simp;omega
  rw[hl];simp[val]
theorem zaD (b:Nat) (l:List Nat):valT b l l.length=val b l:=by rw[zbf b l _ (Nat.le_refl _),List.take_length]
theorem ze4 (b:Nat) (l:List Nat):∀n,(∀k,n<=k->nth l k=0)->∀m,n<=m->valT b l m=valT b l n:=by
 intro n hz m
 induction m with
 |zero=>intro h;obtain rfl:n=0:=by omega
        rfl
 |succ m ih=>
  intro h;by_cases e:n=m+1
  ·rw[e]
  ·rw[valT,ih (by omega),hz m (by omega),Nat.mul_zero,Nat.add_zero]
theorem zhD (l:List Nat):∀n k,zbI l n<=k->k<n->nth l k=0:=by
 intro n
 induction n with
 |zero=>intro k _ h;omega
 |succ n ih=>
  intro k h1 h2;simp only[zbI]at h1;by_cases hz:nth l n=0
  ·rw[if_pos hz]at h1;by_cases e:k=n
   ·rw[e];exact hz
   ·exact ih k h1 (by omega)
  ·rw[if_neg hz]at h1;omega
theorem zfu (l:List Nat) (k:Nat) (h:used l<=k):nth l k=0:=by
 by_cases hk:k<l.length
 ·exact zhD l l.length k h hk
 ·simp[nth,List.getD,show l.length<=k by omega]
theorem zbl (b:Nat) (l:List Nat) (n:Nat) (h:used l<=n):valT b l n=val b l:=by
 rw[ze4 b l (used l) (zfu l) n h,<-zaD b l,ze4 b l (used l) (zfu l) l.length (zay l)]
theorem zaq (l:List Nat) (i x:Nat) (h:i<l.length):nth (l.set i x) i=x:=by simp[nth,List.getD,h]
theorem getD_set_ne (l:List Nat) (i j x:Nat) (h:i≠j):nth (l.set i x) j=nth l j:=by simp[nth,List.getD,h]
theorem zbx (b:Nat) (l:List Nat) (i x:Nat):∀n,n<=i->valT b (l.set i x) n=valT b l n:=by
 intro n
 induction n with
 |zero=>intro _;rfl
 |succ n ih=>intro h;rw[valT,valT,ih (by omega),getD_set_ne _ _ _ _ (by omega)]
theorem zbq (b:Nat) (l l':List Nat):∀n,(∀k,k<n->nth l k=nth l' k)->valT b l n=valT b l' n:=by
 intro n
 induction n with
 |zero=>intro _;rfl
 |succ n ih=>intro h;rw[valT,valT,ih (fun k hk=>h k (by omega)),h n (by omega)]
theorem zak {b:Nat} (hb:0<b) {l:List Nat} (h:∀x∈l,x<b) (i:Nat):nth l i<b:=by
 by_cases hi:i<l.length
 ·simp only[nth,List.getD,List.getElem?_eq_getElem hi];exact h _ (List.getElem_mem hi)
 ·simp[nth,List.getD,show l.length<=i by omega,hb]
theorem zcr {b:Nat} {l:List Nat} (h:∀x∈l,x<b) (i x:Nat) (hx:x<b):∀y∈l.set i x,y<b:=fun y hy=>by
 rcases List.mem_or_eq_of_mem_set hy with hy|rfl
 ·exact h y hy
 ·exact hx
theorem zc3 {b:Nat} {l:List Nat} (hb:0<b) (h:∀x∈l,x<b):∀n,valT b l n<b^n:=by
 intro n
 induction n with
 |zero=>simp[valT]
 |succ n ih=>
  have hx:=zak hb h n;have h2:b^n*(nth l n+1)<=b^n*b:=Nat.mul_le_mul_left _ hx;rw[valT,Nat.pow_succ];rw[Nat.mul_add,Nat.mul_one]at h2;omega

theorem zmm {b:Nat} (hb:0<b) {xs ys:List Nat} (hx:∀x∈xs,x<b) (hy:∀y∈ys,y<b):∀(n k:Nat),k<n->(∀j,k<j->j<n->nth xs j=nth ys j)->nth xs k≠nth ys k->
 cmpN (nth xs k) (nth ys k)=cmpN (valT b xs n) (valT b ys n):=by
 intro n
 induction n with
 |zero=>intro k h;omega
 |succ n ih=>
  intro k hk hs hne;have h1:=zc3 hb hx n;have h2:=zc3 hb hy n;rw[valT,valT];by_cases e:k=n
  ·subst e;rcases Nat.lt_or_gt_of_ne hne with h|h
   ·have h3:b^k*(nth xs k+1)<=b^k*nth ys k:=Nat.mul_le_mul_left _ h;rw[Nat.mul_add,Nat.mul_one]at h3;rw[zcJ h,zcJ (by omega)]
   ·have h3:b^k*(nth ys k+1)<=b^k*nth xs k:=Nat.mul_le_mul_left _ h;rw[Nat.mul_add,Nat.mul_one]at h3;rw[zcN h,zcN (by omega)]
  ·rw[ih k (by omega) (fun j h h'=>hs j h (by omega)) hne,hs n (by omega) (by omega)];rcases Nat.lt_trichotomy (valT b xs n) (valT b ys n)with h|h|h
   ·rw[zcJ h,zcJ (by omega)]
   ·rw[h,zcS,zcS]
   ·rw[zcN h,zcN (by omega)]

end Go.Proofs.YtegfiemlnnpidaaGreatDoor
