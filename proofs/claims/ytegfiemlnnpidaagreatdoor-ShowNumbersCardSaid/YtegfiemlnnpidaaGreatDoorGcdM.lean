/-
 Plain facts on long division: a guess that is not too small, digits taken off, shifts. Plain facts on shifts and common divisors.
-/
import Derived.Test.YtegfiemlnnpidaaGreatDoorMath
namespace Go.Proofs.YtegfiemlnnpidaaGreatDoor

theorem zaj (b:Nat) (l:List Nat) (n:Nat):valT b l (n+1)=valT b l n+b^n*nth l n:=rfl
theorem zaS (l:List Nat) (j i:Nat):nth (l.drop j) i=nth l (j+i):=by simp[nth,List.getD]
theorem zhP {P U V T t q:Nat} (hV:t*P<=V) (hU:U<(T+1)*P) (hq:q*V<=U):q*t<=T:=by
 have h1:q*(t*P)<=q*V:=Nat.mul_le_mul_left _ hV;rw[<-Nat.mul_assoc]at h1;have h2:q*t*P<(T+1)*P:=by omega
 have:=Nat.lt_of_mul_lt_mul_right h2;omega

theorem top2 {b:Nat} (hb:0<b) {l:List Nat} (hl:∀x∈l,x<b) (n:Nat):∃r,r<b^n/\valT b l (n+2)=(nth l (n+1)*b+nth l n)*b^n+r:=by
 refine⟨valT b l n,zc3 hb hl n,?_⟩;rw[zaj,zaj,Nat.pow_succ];generalize valT b l n=r;generalize b^n=p;grind
theorem top1 {b:Nat} (hb:0<b) {l:List Nat} (hl:∀x∈l,x<b) (n:Nat):∃r,r<b^n/\valT b l (n+1)=nth l n*b^n+r:=by
 refine⟨valT b l n,zc3 hb hl n,?_⟩;rw[zaj,Nat.mul_comm,Nat.add_comm]
theorem top3 {b:Nat} (hb:0<b) {l:List Nat} (hl:∀x∈l,x<b) (n:Nat):∃r,r<b^n/\valT b l (n+3)=((nth l (n+2)*b+nth l (n+1))*b+nth l n)*b^n+r:=by
 refine⟨valT b l n,zc3 hb hl n,?_⟩;rw[zaj,zaj,zaj];simp only[Nat.pow_succ];generalize valT b l n=r;generalize b^n=p;grind

theorem zjf {b:Nat} (hb:0<b) {u v:List Nat} (hu:∀x∈u,x<b) (hv:∀x∈v,x<b) (n q:Nat) (hq:q*valT b v (n+1)<=valT b u (n+2)):q*nth v n<=nth u (n+1)*b+nth u n:=by
 obtain⟨r,hr,e⟩:=top2 hb hu n;obtain⟨r',hr',e'⟩:=top1 hb hv n;refine zhP (P:=b^n) (V:=valT b v (n+1)) (U:=valT b u (n+2)) (by omega) ?_ hq;rw[e,Nat.add_one_mul];omega
theorem zfK {b:Nat} (hb:0<b) {u v:List Nat} (hu:∀x∈u,x<b) (hv:∀x∈v,x<b) (n q:Nat) (hq:q*valT b v (n+2)<=valT b u (n+3)):q*(nth v (n+1)*b+nth v n)<=(nth u (n+2)*b+nth u (n+1))*b+nth u n:=by
 obtain⟨r,hr,e⟩:=top3 hb hu n;obtain⟨r',hr',e'⟩:=top2 hb hv n;refine zhP (P:=b^n) (V:=valT b v (n+2)) (U:=valT b u (n+3)) (by omega) ?_ hq;rw[e,Nat.add_one_mul];omega
theorem zh0 {b q g top next u2 u0 rest:Nat} (h3:q*(top*b+next)<=u2*b+u0) (hr:u2=g*top+rest) (hgt:rest*b+u0<g*next):q<g:=by
 apply Nat.lt_of_mul_lt_mul_right (a:=top*b+next);have e:g*(top*b+next)=g*top*b+g*next:=by rw[Nat.mul_add,Nat.mul_assoc]
 have e2:u2*b=g*top*b+rest*b:=by rw[hr,Nat.add_mul]
 omega

theorem zjE {b s v times p s' x y hi lo c cy bw bw' lo' r:Nat} (h:s'+times*v=s+p*(cy+bw)) (hm:hi*b+lo=y*times) (hlo:c*b+lo'=lo+cy) (hs:r+(lo'+bw)=x+b*bw'):
 (s'+p*r)+times*(v+p*y)=(s+p*x)+p*b*(hi+c+bw'):=by
 have h1:times*(v+p*y)=times*v+p*(y*times):=by grind
 rw[h1,<-hm];have h2:p*(hi*b+lo)=p*hi*b+p*lo:=by grind
 have h3:p*(c*b+lo')=p*(lo+cy):=by rw[hlo]
 have h4:p*(r+(lo'+bw))=p*(x+b*bw'):=by rw[hs]
 grind
theorem zk0 {U V r g:Nat} (hV:0<V) (hle:U/V<=g) (e:r+g*V=U):g=U/V/\r=U%V:=by
 have h1:g<=U/V:=(Nat.le_div_iff_mul_le hV).2 (by omega);have h2:g=U/V:=by omega
 refine⟨h2,?_⟩;have:=Nat.div_add_mod U V;rw[Nat.mul_comm,<-h2]at this;omega
theorem zjU {U V r g p:Nat} (hV:0<V) (hr:r<p) (e:r+g*V=U+p):U/V<g:=(Nat.div_lt_iff_lt_mul hV).2 (by omega)
theorem zkb {U V r r' g p cy bw:Nat} (hg:0<g) (e:r+g*V=U+p*bw) (e':r'+p*cy=r+V) (hc:cy<=bw):r'+(g-1)*V=U+p*(bw-cy):=by
 obtain⟨k,rfl⟩:∃k,g=k+1:=⟨g-1,by omega⟩;obtain⟨d,rfl⟩:=Nat.exists_eq_add_of_le hc;rw[Nat.add_mul,Nat.one_mul,Nat.mul_add]at e;rw[Nat.add_sub_cancel,Nat.add_sub_cancel_left];omega
theorem zmC {b g n rest u:Nat} (_hb:0<b) (h:rest<g*n/b\/g*n/b=rest/\u<g*n%b) (hu:u<b):rest*b+u<g*n:=by
 have e:=Nat.div_add_mod (g*n) b;rcases h with h|⟨h,h'⟩
 ·have:(rest+1)*b<=g*n/b*b:=Nat.mul_le_mul_right _ h;rw[Nat.add_one_mul,Nat.mul_comm (g*n/b)]at this;omega
 ·have e2:rest*b=b*(g*n/b):=by rw[h,Nat.mul_comm]
  omega

theorem zdV (t y:Nat) (hy:y%2=1):Nat.Coprime (2^t) y:=by
 apply Nat.Coprime.pow_left;unfold Nat.Coprime;rw[Nat.gcd_rec,hy];simp
theorem zdU (t m y:Nat) (hy:y%2=1):Nat.gcd (2^t*m) y=Nat.gcd m y:=
 Nat.Coprime.gcd_mul_left_cancel m (zdV t y hy)
theorem zcP (p q x y:Nat) (hx:x%2=1) (h:p<=q):Nat.gcd (2^p*x) (2^q*y)=2^p*Nat.gcd x y:=by
 obtain⟨d,rfl⟩:=Nat.exists_eq_add_of_le h;rw[Nat.pow_add,Nat.mul_assoc,Nat.gcd_mul_left,Nat.gcd_comm x,zdU _ _ _ hx,Nat.gcd_comm]
theorem zhF (p q x y:Nat) (hx:x%2=1) (hy:y%2=1):Nat.gcd (2^p*x) (2^q*y)=2^(min p q)*Nat.gcd x y:=by
 rcases Nat.le_total p q with h|h
 ·rw[zcP p q x y hx h,Nat.min_eq_left h]
 ·rw[Nat.gcd_comm,zcP q p y x hy h,Nat.min_eq_right h,Nat.gcd_comm]
theorem zjz (x y:Nat) (h:y<=x):Nat.gcd (x-y) y=Nat.gcd x y:=by
 have e:x=(x-y)+y:=by omega
 conv=>rhs;rw[e]
 simp

theorem alg1 (v p y lo b hi:Nat):v+p*(y+lo)+p*b*hi=v+p*y+p*(lo+b*hi):=by grind
theorem alg2 {vs m r0 v0 p rx qx ry m' b x:Nat} (he:vs*m+r0=v0+p*rx) (e:b=m*m') (hd:m*qx+rx=x):(vs+p*(qx+ry*m'))*m+r0=v0+p*x+p*b*ry:=by
 subst e hd;have e1:(vs+p*(qx+ry*m'))*m=vs*m+p*(m*qx)+p*(m*m')*ry:=by grind
 have e2:p*(m*qx+rx)=p*(m*qx)+p*rx:=by grind
 omega
theorem ziV {x part:Nat} (hp:part<64):x*2^part%B64=x%2^(64-part)*2^part/\x*2^part=x*2^part%B64+B64*(x/2^(64-part)):=by
 have e:B64=2^(64-part)*2^part:=by rw[<-Nat.pow_add,show 64-part+part=64 by omega];rfl
 have h1:x*2^part%B64=x%2^(64-part)*2^part:=by rw[e,Nat.mul_mod_mul_right]
 refine⟨h1,?_⟩;have h2:x*2^part/B64=x/2^(64-part):=by rw[e,Nat.mul_div_mul_right _ _ (Nat.two_pow_pos _)]
 have:=Nat.div_add_mod (x*2^part) B64;rw[h2]at this;omega
theorem zmS {x part:Nat} (hp:part<64) (hx:x<B64):x/2^(64-part)<2^part:=by
 rw[Nat.div_lt_iff_lt_mul (Nat.two_pow_pos _),<-Nat.pow_add,show part+(64-part)=64 by omega];exact hx
theorem zkR {t x part:Nat} (ht:t<2^part):t|||(x*2^part)=t+x*2^part:=by
 rw[Nat.or_comm,Nat.mul_comm,<-Nat.two_pow_add_eq_or_of_lt ht,Nat.add_comm]

structure UpM (whole part k:Nat) (l t:List Nat):Prop where
 lt:∀x∈t,x<B64
 zero:∀i,k+whole<i->nth t i=0
 small:nth t (k+whole)<2^part
 eq:valT B64 t (k+whole+1)=valT B64 l k*(B64^whole*2^part)
theorem UpM.next {whole part k x:Nat} {l t:List Nat} (h:UpM whole part k l t) (hp:part<64) (hx:x=nth l k) (hxl:x<B64) (hk:k+whole+1<t.length):
 UpM whole part (k+1) l ((t.set (k+whole) (nth t (k+whole)|||(x*2^part%B64))).set (k+whole+1) (x/2^(64-part))):=by
 obtain⟨e1,e2⟩:=ziV (x:=x) hp;have hlo:x*2^part%B64<B64:=Nat.mod_lt _ za4;have hor:nth t (k+whole)|||(x*2^part%B64)=nth t (k+whole)+x*2^part%B64:=by rw[e1];exact zkR h.small
 have hhi:=zmS hp hxl;have hpw:2^part<=B64:=by show 2^part<=2^64;exact Nat.pow_le_pow_right (by decide) (by omega)
 have horl:nth t (k+whole)|||(x*2^part%B64)<B64:=by
  show _<2^64
  exact Nat.or_lt_two_pow (zak za4 h.lt _) hlo
 refine⟨zcr (zcr h.lt _ _ horl) _ _ (by omega),?_,?_,?_⟩
 ·intro i hi;rw[getD_set_ne _ _ _ _ (by omega),getD_set_ne _ _ _ _ (by omega)];exact h.zero i (by omega)
 ·rw[show k+1+whole=k+whole+1 by omega,zaq _ _ _ (by simpa using hk)];exact hhi
 ·rw[show k+1+whole+1=k+whole+1+1 by omega,zaj,zaj,zbx _ _ _ _ _ (by omega),zbx _ _ _ _ _ (by omega),zaq _ _ _ (by simpa using hk),getD_set_ne _ _ _ _ (by omega),zaq _ _ _ (by omega),hor];have he:=h.eq;rw[zaj]at he;rw[zaj,<-hx,Nat.add_mul,<-he];have e3:B64^k*x*(B64^whole*2^part)=B64^(k+whole)*(x*2^part):=by rw[Nat.pow_add];grind
  rw[e3,Nat.pow_succ]
  conv=>rhs;rw[e2]
  exact alg1 _ _ _ _ _ _
theorem UpM.start (whole part n:Nat) (l:List Nat):UpM whole part 0 l (List.replicate n 0):=by
 have hz:∀j,nth (List.replicate n 0) j=0:=fun j=>by by_cases h:j<n<;>simp[nth,List.getD,h]
 refine⟨fun x hx=>by rw[(List.mem_replicate.1 hx).2];exact za4,fun i _=>hz i,by rw[hz];exact Nat.two_pow_pos _,?_⟩;have key:∀k,valT B64 (List.replicate n 0) k=0:=fun k=>by
  induction k with
  |zero=>rfl
  |succ k ih=>rw[zaj,ih,hz];simp
 rw[key,valT,Nat.zero_mul]
theorem UpM.done {whole part n:Nat} {l t:List Nat} (h:UpM whole part n l t) (hn:used l<=n) (ht:t.length=n+whole+1):val B64 t=val B64 l*2^(64*whole+part):=by
 rw[<-zaD,ht,h.eq,zbl _ _ _ hn,Nat.pow_add,Nat.pow_mul];rfl

theorem zkF {x y part:Nat} (hp:part<64) (hx:x<B64):(x/2^part|||y*2^(64-part)%B64)=x/2^part+y%2^part*2^(64-part)/\x/2^part+y%2^part*2^(64-part)<B64:=by
 have e:B64=2^part*2^(64-part):=by rw[<-Nat.pow_add,show part+(64-part)=64 by omega];rfl
 have h1:y*2^(64-part)%B64=y%2^part*2^(64-part):=by rw[e,Nat.mul_mod_mul_right]
 have h2:x/2^part<2^(64-part):=by
  rw[Nat.div_lt_iff_lt_mul (Nat.two_pow_pos _),Nat.mul_comm,<-e];exact hx
 refine⟨by rw[h1];exact zkR h2,?_⟩;have h3:y%2^part<2^part:=Nat.mod_lt _ (Nat.two_pow_pos _);have h4:(y%2^part+1)*2^(64-part)<=B64:=by rw[e];exact Nat.mul_le_mul_right _ h3
 rw[Nat.add_mul,Nat.one_mul]at h4;omega
structure DownM (whole part k:Nat) (s0 s:List Nat):Prop where
 len:s.length=s0.length
 lt:∀x∈s,x<B64
 far:∀i,k<=i->nth s i=nth s0 i
 eq:valT B64 s k*2^part+nth s0 whole%2^part=valT B64 (s0.drop whole) k+B64^k*(nth s0 (whole+k)%2^part)
theorem DownM.start {whole part:Nat} {s0:List Nat} (h:∀x∈s0,x<B64):DownM whole part 0 s0 s0:=⟨rfl,h,fun _ _=>rfl,by simp[valT]⟩
theorem DownM.next {whole part k x y:Nat} {s0 s:List Nat} (h:DownM whole part k s0 s) (hp:part<64) (hk:k<s.length) (hx:x=nth s (k+whole)) (hy:y=nth s (k+whole+1)):
 DownM whole part (k+1) s0 (s.set k (x/2^part|||y*2^(64-part)%B64)):=by
 have hxl:x<B64:=by rw[hx];exact zak za4 h.lt _
 obtain⟨e1,e2⟩:=zkF (x:=x) (y:=y) hp hxl;rw[h.far _ (by omega)]at hx hy;rw[e1];refine⟨by simp[h.len],zcr h.lt _ _ e2,fun i hi=>by rw[getD_set_ne _ _ _ _ (by omega)];exact h.far i (by omega),?_⟩;have he:=h.eq;rw[show whole+k=k+whole by omega,<-hx]at he;rw[zaj,zbx _ _ _ _ _ (Nat.le_refl _),zaq _ _ _ hk,zaj,zaS,show whole+k=k+whole by omega,<-hx,show whole+(k+1)=k+whole+1 by omega,<-hy,Nat.pow_succ];have e:B64=2^part*2^(64-part):=by rw[<-Nat.pow_add,show part+(64-part)=64 by omega];rfl
 have hd:=Nat.div_add_mod x (2^part);exact alg2 he e hd
theorem zev (l:List Nat) (j k:Nat) (h:l.length<=j+k):valT B64 (l.drop j) k=val B64 (l.drop j):=by
 rw[<-zaD,List.length_drop];exact ze4 B64 _ _ (fun i hi=>by rw[zaS];simp[nth,List.getD,show l.length<=j+i by omega]) _ (by omega)
theorem zdl (l:List Nat) (h:∀x∈l,x<B64) (j:Nat) (hj:j<=l.length):val B64 (l.drop j)=val B64 l/B64^j:=by
 have e:l=l.take j++l.drop j:=(List.take_append_drop j l).symm;have h1:val B64 l=val B64 (l.take j)+B64^j*val B64 (l.drop j):=by
  conv=>lhs;rw[e]
  rw[zbA];congr 3;simp;omega
 have h2:val B64 (l.take j)<B64^j:=by
  have:=zdo (b:=B64) (xs:=l.take j) (fun x hx=>h x (List.mem_of_mem_take hx))
  rwa [show(l.take j).length=j by simp;omega]at this
 rw[h1,Nat.add_mul_div_left _ _ (Nat.pow_pos za4),Nat.div_eq_of_lt h2,Nat.zero_add]
theorem DownM.done {whole part k:Nat} {s0 s:List Nat} (h:DownM whole part k s0 s) (h0:∀x∈s0,x<B64) (hk:k+whole=s0.length):valT B64 s k=val B64 s0/2^(64*whole+part):=by
 have he:=h.eq;have hz:nth s0 (whole+k)=0:=by simp[nth,List.getD,show s0.length<=whole+k by omega]
 rw[hz,Nat.zero_mod,Nat.mul_zero,Nat.add_zero,zev _ _ _ (by omega),zdl _ h0 _ (by omega)]at he;have hr:nth s0 whole%2^part<2^part:=Nat.mod_lt _ (Nat.two_pow_pos _);rw[Nat.pow_add,Nat.pow_mul,<-Nat.div_div_eq_div_mul,show 2^64=B64 from rfl,<-he,Nat.mul_comm,Nat.mul_add_div (Nat.two_pow_pos _),Nat.div_eq_of_lt hr,Nat.add_zero]
end Go.Proofs.YtegfiemlnnpidaaGreatDoor
