/-
 Plain facts for math/bits.Div64: one digit of a quotient to the base 2^32, found by a guess that is lowered. math/bits.Div64.
-/
import Derived.Test.YtegfiemlnnpidaaGreatDoorMath
import Derived.Test.YtegfiemlnnpidaaGreatDoorLimD
import Derived.Lib.BitFns
import Derived.Laws.BitsAllLaws
import Derived.Deep.DeepCutAuto
import Derived.Deep.CutBlock
namespace Go.Proofs.YtegfiemlnnpidaaGreatDoor
set_option maxHeartbeats 4000000

def B32:Nat:=4294967296

structure QInv (u32 u1 v1 v0 q r:Nat):Prop where
 eq:q*v1+r=u32
 le:(u32*B32+u1)/(v1*B32+v0)<=q
 one:u1<B32
 v0l:v0<B32
 v1p:0<v1
 lt:u32<v1*B32+v0

theorem QInv.start {u32 u1 v1 v0:Nat} (h1:u1<B32) (h2:v0<B32) (h3:0<v1) (h4:u32<v1*B32+v0):QInv u32 u1 v1 v0 (u32/v1) (u32%v1):=by
 refine⟨by rw[Nat.mul_comm];exact Nat.div_add_mod u32 v1,?_,h1,h2,h3,h4⟩;rw[Nat.le_div_iff_mul_le h3];have hv:0<v1*B32+v0:=by omega
 have h5:=Nat.div_mul_le_self (u32*B32+u1) (v1*B32+v0);generalize (u32*B32+u1)/(v1*B32+v0)=k at*;have h6:k*v1*B32<=k*(v1*B32+v0):=by rw[Nat.mul_assoc];exact Nat.mul_le_mul_left _ (by omega)
 have h7:k*v1*B32<(u32+1)*B32:=by rw[Nat.add_mul,Nat.one_mul];omega
 have:=Nat.lt_of_mul_lt_mul_right h7;omega
theorem QInv.exact {u32 u1 v1 v0 q r:Nat} (h:QInv u32 u1 v1 v0 q r) (hq:q*v0<=B32*r+u1):q=(u32*B32+u1)/(v1*B32+v0):=by
 apply Nat.le_antisymm _ h.le;have hv:0<v1*B32+v0:=by have:=h.lt;omega
 rw[Nat.le_div_iff_mul_le hv,<-h.eq];have e:q*(v1*B32+v0)=q*v1*B32+q*v0:=by rw[Nat.mul_add,Nat.mul_assoc]
 rw[e,Nat.add_mul,Nat.mul_comm r];omega
theorem QInv.next {u32 u1 v1 v0 q r:Nat} (h:QInv u32 u1 v1 v0 q r) (hq:B32<=q\/B32*r+u1<q*v0):1<=q/\QInv u32 u1 v1 v0 (q-1) (r+v1):=by
 have hv:0<v1*B32+v0:=by have:=h.lt;omega
 have hlt:(u32*B32+u1)/(v1*B32+v0)<q:=by
  rw[Nat.div_lt_iff_lt_mul hv];rcases hq with hq|hq
  ·have h1:B32*(v1*B32+v0)<=q*(v1*B32+v0):=Nat.mul_le_mul_right _ hq;have h2:(u32+1)*B32<=(v1*B32+v0)*B32:=Nat.mul_le_mul_right _ h.lt;have h3:=h.one;rw[Nat.add_mul,Nat.one_mul]at h2;rw[Nat.mul_comm B32]at h1;omega
  ·rw[<-h.eq];have e:q*(v1*B32+v0)=q*v1*B32+q*v0:=by rw[Nat.mul_add,Nat.mul_assoc]
   rw[e,Nat.add_mul,Nat.mul_comm r];omega
 have hq1:1<=q:=Nat.lt_of_le_of_lt (Nat.zero_le _) hlt;refine⟨hq1,?_,Nat.le_sub_one_of_lt hlt,h.one,h.v0l,h.v1p,h.lt⟩;clear hlt;obtain⟨k,rfl⟩:∃k,q=k+1:=⟨q-1,by omega⟩;have:=h.eq;rw[Nat.add_mul,Nat.one_mul]at this;simp only[Nat.add_sub_cancel];omega
theorem QInv.small {u32 u1 v1 v0 q r:Nat} (h:QInv u32 u1 v1 v0 q r) (hr:B32<=r):q<B32:=by
 have h1:=h.eq;have h2:=h.lt;have h3:=h.v0l;rcases Nat.lt_or_ge q B32 with hq|hq
 ·exact hq
 ·have:B32*v1<=q*v1:=Nat.mul_le_mul_right _ hq;rw[Nat.mul_comm]at this;omega
theorem QInv.broke {u32 u1 v1 v0 q r:Nat} (h:QInv u32 u1 v1 v0 q r) (hr:B32<=r):q=(u32*B32+u1)/(v1*B32+v0):=by
 apply h.exact;have hq:=h.small hr;have h1:q*v0<=B32*B32:=Nat.mul_le_mul (Nat.le_of_lt hq) (Nat.le_of_lt h.v0l);have h2:B32*B32<=B32*r:=Nat.mul_le_mul_left _ hr;omega
theorem QInv.quot_lt {u32 u1 v1 v0:Nat} (h1:u1<B32) (h4:u32<v1*B32+v0):(u32*B32+u1)/(v1*B32+v0)<B32:=by
 rw[Nat.div_lt_iff_lt_mul (by omega)];have h2:(u32+1)*B32<=(v1*B32+v0)*B32:=Nat.mul_le_mul_right _ h4;rw[Nat.add_mul,Nat.one_mul]at h2;rw[Nat.mul_comm B32];omega

theorem zhv {u32 u1 u0 v:Nat} (hv:0<v) (_:u0<B32):
 ((u32*B32+u1)/v)*B32+(((u32*B32+u1)%v)*B32+u0)/v=(u32*(B32*B32)+(u1*B32+u0))/v/\
 (((u32*B32+u1)%v)*B32+u0)%v=(u32*(B32*B32)+(u1*B32+u0))%v:=by
 have e:=Nat.div_add_mod (u32*B32+u1) v;generalize (u32*B32+u1)/v=q at*;generalize (u32*B32+u1)%v=r at*;have e2:u32*(B32*B32)+(u1*B32+u0)=(r*B32+u0)+v*(q*B32):=by grind
 rw[e2,Nat.add_mul_div_left _ _ hv,Nat.add_mul_mod_self_left];exact⟨by omega,rfl⟩

theorem zc5 (x:Nat) (h0:0<x) (h:x<2^64):1<=Lib.bitLen x/\Lib.bitLen x<=64/\2^(Lib.bitLen x-1)<=x/\x<2^Lib.bitLen x:=by
 have key:∀(f x:Nat),0<x->x<2^f->1<=Lib.bitLenAux f x/\Lib.bitLenAux f x<=f/\2^(Lib.bitLenAux f x-1)<=x/\x<2^Lib.bitLenAux f x:=by
  intro f
  induction f with
  |zero=>intro x h0 h;simp at h;omega
  |succ f ih=>
   intro x h0 h;simp only[Lib.bitLenAux,if_neg (show¬x=0 by omega)];by_cases h1:x/2=0
   ·have e:Lib.bitLenAux f (x/2)=0:=by rw[h1];cases f<;>simp[Lib.bitLenAux]
    rw[e];simp;omega
   ·obtain⟨a,b,c,d⟩:=ih (x/2) (by omega) (by rw[Nat.pow_succ]at h;omega);generalize Lib.bitLenAux f (x/2)=k at*;refine⟨by omega,by omega,?_,?_⟩
    ·obtain⟨j,rfl⟩:∃j,k=j+1:=⟨k-1,by omega⟩;rw[show 1+(j+1)-1=j+1 by omega,Nat.pow_succ];simp at c;omega
    ·rw[Nat.add_comm,Nat.pow_succ];omega
 exact key 64 x h0 h

theorem zlG (hi lo y:Nat) (h1:hi<y) (h2:y<2^64) (h3:lo<2^64):
 64-Lib.bitLen y<=63/\Lib.bitLen y<=64/\y*2^(64-Lib.bitLen y)<2^64/\2^63<=y*2^(64-Lib.bitLen y)/\hi*2^(64-Lib.bitLen y)<2^64/\lo/2^(64-(64-Lib.bitLen y))<2^64/\
 (hi*2^(64-Lib.bitLen y)|||lo/2^(64-(64-Lib.bitLen y)))=hi*2^(64-Lib.bitLen y)+lo/2^(64-(64-Lib.bitLen y))/\
 hi*2^(64-Lib.bitLen y)+lo/2^(64-(64-Lib.bitLen y))<y*2^(64-Lib.bitLen y)/\
 (hi*2^(64-Lib.bitLen y)+lo/2^(64-(64-Lib.bitLen y)))*2^64+lo*2^(64-Lib.bitLen y)%2^64=(hi*2^64+lo)*2^(64-Lib.bitLen y):=by
 obtain⟨b1,b2,b3,b4⟩:=zc5 y (by omega) h2;generalize Lib.bitLen y=n at*;obtain⟨s,hs⟩:∃s,s=64-n:=⟨_,rfl⟩;rw[<-hs];have hn:n=64-s:=by omega
 subst hn;have e64:(2:Nat)^64=2^(64-s)*2^s:=by rw[<-Nat.pow_add];congr 1;omega
 have e63:(2:Nat)^63=2^(64-s-1)*2^s:=by rw[<-Nat.pow_add];congr 1;omega
 have p0:0<2^s:=Nat.two_pow_pos s;have p1:0<2^(64-s):=Nat.two_pow_pos _;have c1:y*2^s<2^64:=by rw[e64];exact Nat.mul_lt_mul_of_pos_right b4 p0
 have c2:2^63<=y*2^s:=by rw[e63];exact Nat.mul_le_mul_right _ b3
 have c3:lo/2^(64-s)<2^s:=by rw[Nat.div_lt_iff_lt_mul p1,Nat.mul_comm,<-e64];exact h3
 have c4:(hi+1)*2^s<=y*2^s:=Nat.mul_le_mul_right _ h1;rw[Nat.add_mul,Nat.one_mul]at c4;have c5:lo*2^s/2^64=lo/2^(64-s):=by rw[e64,Nat.mul_div_mul_right _ _ p0]
 have c6:=Nat.div_add_mod (lo*2^s) (2^64);rw[c5]at c6;refine⟨by omega,by omega,c1,c2,by omega,by have:=Nat.pow_le_pow_right (show 0<2 by omega) (show s<=64 by omega);omega,?_,by omega,?_⟩
 ·rw[Nat.mul_comm hi,<-Nat.two_pow_add_eq_or_of_lt c3]
 ·rw[Nat.add_mul,Nat.add_mul,Nat.mul_right_comm];omega

theorem zl0 {x y k:Nat} (hk:0<k):(x*k)/(y*k)=x/y/\(x*k)%(y*k)/k=x%y:=by
 refine⟨Nat.mul_div_mul_right _ _ hk,?_⟩;rw[Nat.mul_mod_mul_right,Nat.mul_div_cancel _ hk]

open Go.RowKit

theorem w64 (n:Nat) (h:n<B64):IntKind.u64.wrap (n:Int)=(n:Int):=by
 simp only[B64]at h;rw[IntKind.wrap_u64];omega
theorem zkZ:B32*B32=B64:=by decide

structure DivNums (hi lo y s v v1 v0 a b u32 u10 u1 u0:Nat):Prop where
 e1:IntKind.u64.wrap (64-(Lib.bitLen y:Int))=(s:Int)
 e2:min s 64=s
 e3:IntKind.u64.wrap ((y:Int)*2^s)=(v:Int)
 e4:(v:Int)/4294967296=(v1:Int)
 e5:bits .and .u64 (v:Int) 4294967295=(v0:Int)
 e6:IntKind.u64.wrap ((hi:Int)*2^s)=(a:Int)
 e7:IntKind.u64.wrap (64-(s:Int))=((64-s:Nat):Int)
 e8:min (64-s) 64=64-s
 e9:(lo:Int)/2^(64-s)=(b:Int)
 e10:bits .or .u64 (a:Int) (b:Int)=(u32:Int)
 e11:IntKind.u64.wrap ((lo:Int)*2^s)=(u10:Int)
 e12:(u10:Int)/4294967296=(u1:Int)
 e13:bits .and .u64 (u10:Int) 4294967295=(u0:Int)
 e14:(u32:Int).tdiv (v1:Int)=((u32/v1:Nat):Int)
 e15:IntKind.u64.wrap ((u32/v1:Nat):Int)=((u32/v1:Nat):Int)
 e16:IntKind.u64.wrap (((u32/v1:Nat):Int)*(v1:Int))=((u32/v1*v1:Nat):Int)
 e17:IntKind.u64.wrap ((u32:Int)-((u32/v1*v1:Nat):Int))=((u32%v1:Nat):Int)
 v1p:(((v1:Int))==0)=false
theorem zkO (n:Nat) (h:n<B64):bits .and .u64 (n:Int) 4294967295=((n%B32:Nat):Int):=by
 have:=u64_and_nat n 4294967295 h (by decide);rw[show((4294967295:Nat):Int)=4294967295 from rfl]at this;rw[this];congr 1;rw[show(4294967295:Nat)=2^32-1 by decide,Nat.and_two_pow_sub_one_eq_mod];rfl
theorem zjG (hi lo y:Nat) (h1:hi<y) (h2:y<B64) (h3:lo<B64):
 ∃s v v1 v0 a b u32 u10 u1 u0:Nat,DivNums hi lo y s v v1 v0 a b u32 u10 u1 u0/\v=v1*B32+v0/\v0<B32/\0<v1/\v1<B32/\v<B64/\u32<v/\u1<B32/\u0<B32/\v=y*2^s/\u32*B64+(u1*B32+u0)=(hi*B64+lo)*2^s/\s<=63:=by
 obtain⟨n1,n2,n3,n4,n5,n6,n7,n8,n9⟩:=zlG hi lo y h1 h2 h3;generalize hs:64-Lib.bitLen y=s at*;obtain⟨v,hv⟩:∃v,v=y*2^s:=⟨_,rfl⟩;obtain⟨b,hb⟩:∃b,b=lo/2^(64-s):=⟨_,rfl⟩;obtain⟨a,ha⟩:∃a,a=hi*2^s:=⟨_,rfl⟩;obtain⟨t,ht⟩:∃t,t=lo*2^s:=⟨_,rfl⟩;have c:∀x k:Nat,(x:Int)*2^k=((x*2^k:Nat):Int):=fun x k=>by simp
 have c':∀x k:Nat,(x:Int)/2^k=((x/2^k:Nat):Int):=fun x k=>by simp
 rw[<-hv]at n3 n4 n8;rw[<-ha]at n5 n7 n8 n9;rw[<-hb]at n6 n7 n8 n9;have hv64:v<B64:=n3;have hu:(a+b)<B64:=Nat.lt_trans n8 hv64;have ht2:t%B64<B64:=Nat.mod_lt _ za4;have p:2147483648<=v/B32:=by simp only[B32];omega
 have hvp:0<v/B32:=by omega
 have q1:(a+b)/(v/B32)<=a+b:=Nat.div_le_self _ _;have q2:(a+b)/(v/B32)*(v/B32)<=a+b:=Nat.div_mul_le_self _ _;have q3:=Nat.div_add_mod (a+b) (v/B32);rw[Nat.mul_comm]at q3;refine⟨s,v,v/B32,v%B32,a,b,a+b,t%B64,t%B64/B32,t%B64%B32,?_,?_,?_,hvp,?_,hv64,n8,?_,?_,hv,?_,n1⟩
 ·refine⟨?_,by omega,?_,?_,zkO v hv64,?_,?_,by omega,?_,?_,?_,?_,zkO _ ht2,?_,?_,?_,?_,?_⟩
  ·rw[IntKind.wrap_u64];omega
  ·rw[c,<-hv];exact w64 v hv64
  ·simp only[B32];omega
  ·rw[c,<-ha];exact w64 a n5
  ·rw[IntKind.wrap_u64];omega
  ·rw[c',<-hb]
  ·rw[u64_or_nat a b n5 n6,n7]
  ·rw[c,<-ht,IntKind.wrap_u64];simp only[B64];omega
  ·simp only[B32];omega
  ·rw[Int.tdiv_eq_ediv_of_nonneg (by omega)];rfl
  ·exact w64 _ (by omega)
  ·rw[<-Int.natCast_mul];exact w64 _ (by omega)
  ·rw[<-Int.ofNat_sub q2];rw[show a+b-(a+b)/(v/B32)*(v/B32)=(a+b)%(v/B32) by omega];exact w64 _ (by have:=Nat.mod_le (a+b) (v/B32);omega)
  ·simp only[beq_eq_false_iff_ne];omega
 ·have:=Nat.div_add_mod v B32;rw[Nat.mul_comm]at this;omega
 ·exact Nat.mod_lt _ (by decide)
 ·simp only[B32,B64]at*;omega
 ·simp only[B32,B64]at*;omega
 ·exact Nat.mod_lt _ (by decide)
 ·have e:=Nat.div_add_mod (t%B64) B32;rw[Nat.mul_comm]at e;rw[e,ht];exact n9

-- THE WALK

theorem zd4 (q v0 r u1:Nat) (h1:q<B32) (h2:v0<B32) (h3:r<B32) (h4:u1<B32):
 ∃z1 z2 z3:Nat,IntKind.u64.wrap ((q:Int)*(v0:Int))=(z1:Int)/\IntKind.u64.wrap (4294967296*(r:Int))=(z2:Int)/\IntKind.u64.wrap ((z2:Int)+(u1:Int))=(z3:Int)/\z1=q*v0/\z3=B32*r+u1:=by
 have h5:q*v0<=(B32-1)*(B32-1):=Nat.mul_le_mul (by omega) (by omega);simp only[B32]at*;refine⟨q*v0,4294967296*r,4294967296*r+u1,?_,?_,?_,rfl,rfl⟩
 ·rw[<-Int.natCast_mul];exact w64 _ (by simp only[B64];omega)
 ·rw[show(4294967296:Int)*(r:Int)=((4294967296*r:Nat):Int) by simp];exact w64 _ (by simp only[B64];omega)
 ·rw[<-Int.natCast_add];exact w64 _ (by simp only[B64];omega)
theorem zfc (u32 u1 v q r:Nat) (hv:0<v) (hv2:v<B64) (hq:q=(u32*B32+u1)/v) (hr:r=(u32*B32+u1)%v):
 ∃M1 M2 M3:Nat,IntKind.u64.wrap ((u32:Int)*4294967296)=(M1:Int)/\IntKind.u64.wrap ((M1:Int)+(u1:Int))=(M2:Int)/\IntKind.u64.wrap ((q:Int)*(v:Int))=(M3:Int)/\IntKind.u64.wrap ((M2:Int)-(M3:Int))=(r:Int):=by
 have e:=Nat.div_add_mod (u32*B32+u1) v;have l:r<v:=by rw[hr];exact Nat.mod_lt _ hv
 rw[<-hq,<-hr,Nat.mul_comm]at e;refine⟨u32*B32%B64,(u32*B32+u1)%B64,q*v%B64,?_,?_,?_,?_⟩
 ·rw[IntKind.wrap_u64];simp only[B32,B64];omega
 ·rw[IntKind.wrap_u64];simp only[B32,B64];omega
 ·rw[<-Int.natCast_mul,IntKind.wrap_u64];simp only[B64];omega
 ·rw[IntKind.wrap_u64];generalize q*v=z at*;generalize u32*B32=x at*;simp only[B64]at*;omega
theorem zeq (u v1:Nat) (_:0<v1) (hu:u<B64):
 ∃Q P R:Nat,(u:Int)/(v1:Int)=(Q:Int)/\(u:Int).tdiv (v1:Int)=(Q:Int)/\IntKind.u64.wrap (Q:Int)=(Q:Int)/\IntKind.u64.wrap ((Q:Int)*(v1:Int))=(P:Int)/\IntKind.u64.wrap ((u:Int)-(P:Int))=(R:Int)/\Q=u/v1/\R=u%v1:=by
 have q1:u/v1<=u:=Nat.div_le_self _ _;have q2:u/v1*v1<=u:=Nat.div_mul_le_self _ _;have q3:=Nat.div_add_mod u v1;have q4:=Nat.mod_le u v1;rw[Nat.mul_comm]at q3;refine⟨u/v1,u/v1*v1,u%v1,rfl,?_,w64 _ (by omega),?_,?_,rfl,rfl⟩
 ·rw[Int.tdiv_eq_ediv_of_nonneg (by omega)];rfl
 ·rw[<-Int.natCast_mul];exact w64 _ (by omega)
 ·rw[<-Int.ofNat_sub q2,show u-u/v1*v1=u%v1 by omega];exact w64 _ (by omega)

set_option maxRecDepth 100000 in
theorem zhQ (hi lo y:Nat) (w:World) (h1:hi<y) (h2:y<B64) (h3:lo<B64) (h4:0<hi):
 Calls Tryz.prog 228 #[.int .u64 hi,.int .u64 lo,.int .u64 y] w fun e w'=>e=.returned (.tuple #[.int .u64 (((hi*B64+lo)/y:Nat):Int),.int .u64 (((hi*B64+lo)%y:Nat):Int)])/\w=w':=by
 have g1:((y:Int)==0)=false:=by simp;omega
 have g2:((hi:Int)==0)=false:=by simp;omega
 have g3:¬y<=hi:=by omega
 have hlz:=znd (Tryz.bits_LeadingZeros64 y w (by omega) (by simp only[B64]at h2;omega));obtain⟨s,v,v1,v0,a,b,u32,u10,u1,u0,hN,hv,hv0l,hv1p,hv1l,hv64,hult,hu1l,hu0l,hvs,hU,hs63⟩:=zjG hi lo y h1 h2 h3;obtain⟨e1,e2,e3,e4,e5,e6,e7,e8,e9,e10,e11,e12,e13,-,-,-,-,e18⟩:=hN;have hs0:0<=(s:Int):=by omega
 have hs1:0<=((64-s:Nat):Int):=by omega
 have hvp:0<v:=by omega
 have hu64:u32<B64:=by omega
 have hlt1:u32<v1*B32+v0:=by omega
 obtain⟨Q1,hQ1⟩:∃Q,Q=(u32*B32+u1)/v:=⟨_,rfl⟩;obtain⟨R1,hR1⟩:∃R,R=(u32*B32+u1)%v:=⟨_,rfl⟩;obtain⟨Q0,hQ0⟩:∃Q,Q=(R1*B32+u0)/v:=⟨_,rfl⟩;obtain⟨R0,hR0⟩:∃R,R=(R1*B32+u0)%v:=⟨_,rfl⟩;have hR1v:R1<v:=by rw[hR1];exact Nat.mod_lt _ hvp
 have hR0v:R0<v:=by rw[hR0];exact Nat.mod_lt _ hvp
 have hlt0:R1<v1*B32+v0:=by omega
 obtain⟨M1,M2,M3,m1,m2,m3,m4⟩:=zfc u32 u1 v Q1 R1 hvp hv64 hQ1 hR1;obtain⟨N1,N2,N3,n1,n2,n3,n4⟩:=zfc R1 u0 v Q0 R0 hvp hv64 hQ0 hR0;obtain⟨A1,P1,C1,a1,a1',a2,a3,a4,A1e,C1e⟩:=zeq u32 v1 hv1p hu64;obtain⟨A0,P0,C0,b1,b1',b2,b3,b4,A0e,C0e⟩:=zeq R1 v1 hv1p (by omega);have hq1l:Q1<B32:=by rw[hQ1,hv];exact QInv.quot_lt hu1l hlt1
 have hq0l:Q0<B32:=by rw[hQ0,hv];exact QInv.quot_lt hu0l hlt0
 obtain⟨td1,td2⟩:=zhv (u32:=u32) (u1:=u1) (u0:=u0) hvp hu0l;rw[<-hQ1,<-hR1,<-hQ0,zkZ,hU,hvs,(zl0 (Nat.two_pow_pos s)).1]at td1;rw[<-hR1,<-hR0,zkZ,hU,hvs]at td2;have hrem:R0/2^s=(hi*B64+lo)%y:=by rw[td2,(zl0 (Nat.two_pow_pos s)).2]
 have f1:IntKind.u64.wrap ((Q1:Int)*4294967296)=((Q1*B32:Nat):Int):=by
  rw[show(Q1:Int)*4294967296=((Q1*B32:Nat):Int) by simp[B32]];exact w64 _ (by simp only[B32,B64]at*;omega)
 have f2:IntKind.u64.wrap (((Q1*B32:Nat):Int)+(Q0:Int))=(((hi*B64+lo)/y:Nat):Int):=by
  rw[<-Int.natCast_add,td1];exact w64 _ (by rw[<-td1];simp only[B32,B64]at*;omega)
 have f3:(R0:Int)/2^s=(((hi*B64+lo)%y:Nat):Int):=by rw[<-hrem];simp
 have I1:Hid (A1<B64/\QInv u32 u1 v1 v0 A1 C1):=⟨by rw[A1e];exact Nat.lt_of_le_of_lt (Nat.div_le_self _ _) hu64,by rw[A1e,C1e];exact QInv.start hu1l hv0l hv1p hlt1⟩;have I0:Hid (A0<B64/\QInv R1 u0 v1 v0 A0 C0):=⟨by rw[A0e];exact Nat.lt_of_le_of_lt (Nat.div_le_self _ _) (by omega),by rw[A0e,C0e];exact QInv.start hu0l hv0l hv1p hlt0⟩;have hC1:C1<B32:=by rw[C1e];exact Nat.lt_trans (Nat.mod_lt _ hv1p) hv1l
 have hC0:C0<B32:=by rw[C0e];exact Nat.lt_trans (Nat.mod_lt _ hv1p) hv1l
 rw[hv]at hQ1 hQ0;have HQ1:=znd hQ1;have HQ0:=znd hQ0;clear hv hvs hU hQ1 hQ0 hR1 hR0 A1e C1e A0e C0e td1 td2 hrem;generalize (hi*B64+lo)/y=RQ at*;generalize (hi*B64+lo)%y=RR at*;generalize Q1*B32=T1 at*;go_enter Tryz.func228,Tryz.ntmps228;go_wp2_with fail;refine hlz.out.mono ?_;rintro e w' ⟨rfl,hw'⟩;have hw2:=hw'.symm;subst hw2;rw[Int.toNat_natCast];clear hlz
 go_upto_block 0 with fail
 go_cut [15] (fun qv wx=>qv=.int .u64 (Q1:Nat)/\w=wx)
 case first=>
  go_wp2_with fail
  go_loop [15,16] (fun qv rv=>∃(q r:Nat),qv=.int .u64 q/\rv=.int .u64 r/\r<B32/\Hid (q<B64)/\QInv u32 u1 v1 v0 q r) (fun qv _=>(intOf qv).toNat)
  case atStart=>exact⟨_,_,rfl,rfl,hC1,I1.out.1,I1.out.2⟩
  case round=>
   obtain⟨q,r,rfl,rfl,hr,hq64,hI⟩:=hrel;by_cases hbig:B32<=q\/B32*r+u1<q*v0
   ·obtain⟨hq1,hN⟩:=hI.next hbig;have hw1:IntKind.u64.wrap ((q:Int)-1)=((q-1:Nat):Int):=by
     rw[show(q:Int)-1=((q-1:Nat):Int) by omega];exact w64 _ (by have:=hq64.out;omega)
    have hw2:IntKind.u64.wrap ((r:Int)+(v1:Int))=((r+v1:Nat):Int):=by
     rw[<-Int.natCast_add];exact w64 _ (by simp only[B32,B64]at*;omega)
    have hfin:Hid (B32<=r+v1->q-1=Q1):=fun h=>(hN.broke h).trans HQ1.out.symm;have HN:=znd hN;have hq2:Hid (q-1<B64):=by have:=hq64.out;show _<_;omega
    have Hm:=znd (show(intOf (.int .u64 ((q-1:Nat):Int))).toNat<(intOf (.int .u64 (q:Int))).toNat by simp[intOf];omega);by_cases hge:B32<=q
    focus
     have ht1:decide ((4294967296:Int)<=(q:Int))=true:=by simp only[B32]at hge;simp;omega
     clear hbig hge hI hN
    rotate_left
    focus
     have ht1:decide ((4294967296:Int)<=(q:Int))=false:=by simp only[B32]at hge;simp;omega
     have hgt:B32*r+u1<q*v0:=by omega
     obtain⟨z1,z2,z3,n1,n2,n3,z1e,z3e⟩:=zd4 q v0 r u1 (by omega) hI.v0l hr hI.one;have ht3:z3<z1:=by rw[z1e,z3e];exact hgt
     clear hbig hge hgt z1e z3e hI hN
    rotate_left
    all_goals
     by_cases hbr:B32<=r+v1
     ·have Hq:=znd (hfin.out hbr);have ht2:decide ((4294967296:Int)<=((r+v1:Nat):Int))=true:=by simp only[B32]at hbr;simp;omega
      clear hbr;generalize r+v1=r1 at*;generalize q-1=q1 at*;go_wp2_with fail
      go_meet
      exact⟨by rw[Hq.out],rfl⟩
     ·have ht2:decide ((4294967296:Int)<=((r+v1:Nat):Int))=false:=by simp only[B32]at hbr;simp;omega
      have hr1:r+v1<B32:=by omega
      clear hbr;generalize r+v1=r1 at*;generalize q-1=q1 at*;go_wp2_with fail
      go_round
      case rel=>exact⟨q1,r1,rfl,rfl,hr1,hq2,HN.out⟩
      case measure=>exact Hm.out
   ·have ht1:decide ((4294967296:Int)<=(q:Int))=false:=by simp only[B32]at hbig;simp;omega
    obtain⟨z1,z2,z3,n1,n2,n3,z1e,z3e⟩:=zd4 q v0 r u1 (by omega) hI.v0l hr hI.one;have ht3:¬z3<z1:=by rw[z1e,z3e];omega
    have Hq:=znd ((hI.exact (by omega)).trans HQ1.out.symm);clear hbig z1e z3e hI;go_wp2_with fail
    go_meet
    exact⟨by rw[Hq.out],rfl⟩
 case rest=>
  obtain⟨rfl,rfl⟩:=hcut
  go_upto_block 2 with fail
  go_cut [18] (fun qv wx=>qv=.int .u64 (Q0:Nat)/\w=wx)
  case first=>
   go_wp2_with fail
   go_loop [18,16] (fun qv rv=>∃(q r:Nat),qv=.int .u64 q/\rv=.int .u64 r/\r<B32/\Hid (q<B64)/\QInv R1 u0 v1 v0 q r) (fun qv _=>(intOf qv).toNat)
   case atStart=>exact⟨_,_,rfl,rfl,hC0,I0.out.1,I0.out.2⟩
   case round=>
    obtain⟨q,r,rfl,rfl,hr,hq64,hI⟩:=hrel;by_cases hbig:B32<=q\/B32*r+u0<q*v0
    ·obtain⟨hq1,hN⟩:=hI.next hbig;have hw1:IntKind.u64.wrap ((q:Int)-1)=((q-1:Nat):Int):=by
      rw[show(q:Int)-1=((q-1:Nat):Int) by omega];exact w64 _ (by have:=hq64.out;omega)
     have hw2:IntKind.u64.wrap ((r:Int)+(v1:Int))=((r+v1:Nat):Int):=by
      rw[<-Int.natCast_add];exact w64 _ (by simp only[B32,B64]at*;omega)
     have hfin:Hid (B32<=r+v1->q-1=Q0):=fun h=>(hN.broke h).trans HQ0.out.symm;have HN:=znd hN;have hq2:Hid (q-1<B64):=by have:=hq64.out;show _<_;omega
     have Hm:=znd (show(intOf (.int .u64 ((q-1:Nat):Int))).toNat<(intOf (.int .u64 (q:Int))).toNat by simp[intOf];omega);by_cases hge:B32<=q
     focus
      have ht1:decide ((4294967296:Int)<=(q:Int))=true:=by simp only[B32]at hge;simp;omega
      clear hbig hge hI hN
     rotate_left
     focus
      have ht1:decide ((4294967296:Int)<=(q:Int))=false:=by simp only[B32]at hge;simp;omega
      have hgt:B32*r+u0<q*v0:=by omega
      obtain⟨z1,z2,z3,n1,n2,n3,z1e,z3e⟩:=zd4 q v0 r u0 (by omega) hI.v0l hr hI.one;have ht3:z3<z1:=by rw[z1e,z3e];exact hgt
      clear hbig hge hgt z1e z3e hI hN
     rotate_left
     all_goals
      by_cases hbr:B32<=r+v1
      ·have Hq:=znd (hfin.out hbr);have ht2:decide ((4294967296:Int)<=((r+v1:Nat):Int))=true:=by simp only[B32]at hbr;simp;omega
       clear hbr;generalize r+v1=r1 at*;generalize q-1=q1 at*;go_wp2_with fail
       go_meet
       exact⟨by rw[Hq.out],rfl⟩
      ·have ht2:decide ((4294967296:Int)<=((r+v1:Nat):Int))=false:=by simp only[B32]at hbr;simp;omega
       have hr1:r+v1<B32:=by omega
       clear hbr;generalize r+v1=r1 at*;generalize q-1=q1 at*;go_wp2_with fail
       go_round
       case rel=>exact⟨q1,r1,rfl,rfl,hr1,hq2,HN.out⟩
       case measure=>exact Hm.out
    ·have ht1:decide ((4294967296:Int)<=(q:Int))=false:=by simp only[B32]at hbig;simp;omega
     obtain⟨z1,z2,z3,n1,n2,n3,z1e,z3e⟩:=zd4 q v0 r u0 (by omega) hI.v0l hr hI.one;have ht3:¬z3<z1:=by rw[z1e,z3e];omega
     have Hq:=znd ((hI.exact (by omega)).trans HQ0.out.symm);clear hbig z1e z3e hI;go_wp2_with fail
     go_meet
     exact⟨by rw[Hq.out],rfl⟩
  case rest=>
   obtain⟨rfl,rfl⟩:=hcut;go_wp2_with fail;go_ret2;exact⟨rfl,rfl⟩

end Go.Proofs.YtegfiemlnnpidaaGreatDoor
