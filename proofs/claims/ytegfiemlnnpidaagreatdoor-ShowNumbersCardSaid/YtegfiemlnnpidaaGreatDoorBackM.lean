/-
 digits.numeral. digits.Parse: its closure. digits.Parse. Plain facts: a number's text is read as that number; a numeral is the text of what it says; a digit more.
-/
import Derived.Test.YtegfiemlnnpidaaGreatDoorText
import Derived.Lib.OthersKept
import Derived.Deep.DeepMust
namespace Go.Proofs.YtegfiemlnnpidaaGreatDoor
open Go.RowKit

def zph (c:UInt8):Bool:=48<=c.toNat&&c.toNat<=57
def numB (l:List UInt8) (neg:Bool):Bool:=!l.isEmpty&&l.all zph&&(l.headD 0 != 48||(l.length==1&&!neg))

theorem zuI {W:World} {B x:Nat} (h:W.cell? ⟨B,0,none⟩=some (.int .u64 (x:Int))):Rd W .u64 (some ⟨B,0,none⟩) [x]:=
 ⟨Sl.some_ _ _ _,fun i hi=>by
  have:i=0:=by simpa using hi
  subst this;exact h⟩
theorem zuJ {x:Nat} (h:x<B64):∀y∈[x],y<B64:=by intro y hy;simp at hy;omega
theorem ztA (b x:Nat):val b [x]=x:=by simp[val]

def decVal (l:List UInt8):Nat:=l.foldl (fun v c=>10*v+(c.toNat-48)) 0

def parseN (s:List UInt8):Nat×Bool×Nat:=
 let neg:=Lib.hasPrefix s [45]
 let body:=Lib.trimPrefix s [45]
 if numB body neg=false then(11,false,0) else if 600<body.length then(3,false,0) else(0,neg,decVal body)

def zuK (r:Nat×Bool×Nat) (w:World) (e:Ending) (w':World):Prop:=
 ∃A c,e=.returned (.tuple #[.agg #[.bool r.2.1,.slice A (digs B64 r.2.2).length c],.int .i64 (r.1:Nat)])/\(digs B64 r.2.2).length<=c/\Rd w' .u64 A (digs B64 r.2.2)/\Below w.heap.size w w'

theorem zte {n:Nat} (k:Nat) (hk:0<k) (h:n<=6*k):10^n<B64^k:=by
 have h1:10^n<=10^(6*k):=Nat.pow_le_pow_right (by omega) h;rw[Nat.pow_mul]at h1;exact Nat.lt_of_le_of_lt h1 (Nat.pow_lt_pow_left (by decide) (by omega))
theorem zps (l:List UInt8) (c:UInt8):decVal (l++[c])=10*decVal l+(c.toNat-48):=by simp[decVal,List.foldl_append]
theorem zqU:∀(l:List UInt8),(∀c∈l,zph c=true)->decVal l<10^l.length:=by
 intro l h;have key:∀(l:List UInt8) (n:Nat),(∀c∈l,zph c=true)->l.length=n->decVal l<10^n:=by
  intro l n
  induction n generalizing l with
  |zero=>intro _ hl;rw[List.eq_nil_of_length_eq_zero hl];simp[decVal]
  |succ n ih=>
   intro h hl;obtain⟨a,c,rfl⟩:∃a c,l=a++[c]:=by
    have hne:l≠[]:=by intro e;rw[e]at hl;simp at hl
    exact⟨l.dropLast,l.getLast hne,(List.dropLast_concat_getLast hne).symm⟩
   have h1:=ih a (fun x hx=>h x (by simp[hx])) (by simpa using hl);have h2:48<=c.toNat/\c.toNat<=57:=by simpa[zph] using h c (by simp)
   rw[zps,Nat.pow_succ];omega
 exact key l l.length h rfl

theorem zsd {v k:Nat} (h:v<10^k) (hk:0<k):(Lib.decDigits v).length<=k:=by
 induction k generalizing v with
 |zero=>omega
 |succ k ih=>
  by_cases h10:v<10
  ·rw[Lib.decDigits_one h10];simp
  ·rw[zqI h10];rcases Nat.eq_zero_or_pos k with rfl|hk'
   ·simp at h;omega
   ·have:=ih (v:=v/10) (by rw[Nat.pow_succ]at h;omega) hk';simp;omega
theorem zvL:∀(l:List UInt8),(∀c∈l,zph c=true)->l≠[]->(l.headD 0≠48\/l.length=1)->Lib.decDigits (decVal l)=l:=by
 intro l;generalize hn:l.length=n
 induction n generalizing l with
 |zero=>intro _ h _;exact absurd (List.eq_nil_of_length_eq_zero hn) h
 |succ n ih=>
  intro hd hne hh;obtain⟨a,c,rfl⟩:∃a c,l=a++[c]:=⟨l.dropLast,l.getLast hne,(List.dropLast_concat_getLast hne).symm⟩;have hc:48<=c.toNat/\c.toNat<=57:=by simpa[zph] using hd c (by simp)
  have hcc:UInt8.ofNat (48+(c.toNat-48))=c:=by rw[show 48+(c.toNat-48)=c.toNat by omega];simp
  rw[zps];by_cases ha:a=[]
  ·subst ha;have e0:decVal ([]:List UInt8)=0:=rfl;rw[e0,Nat.mul_zero,Nat.zero_add,Lib.decDigits_one (by omega),hcc];rfl
  ·have hal:a.length=n:=by simpa using hn
   have hh':a.headD 0≠48:=by
    rcases hh with h|h
    ·cases a with
     |nil=>exact absurd rfl ha
     |cons x xs=>simpa using h
    ·have:a.length≠0:=fun e=>ha (List.eq_nil_of_length_eq_zero e);omega
   have hi:=ih a hal (fun x hx=>hd x (by simp[hx])) ha (.inl hh');have hpos:0<decVal a:=by
    rcases Nat.eq_zero_or_pos (decVal a)with h0|h0
    ·rw[h0,Lib.decDigits_one (by omega)]at hi;rw[<-hi]at hh';exact absurd rfl hh'
    ·exact h0
   rw[zqI (by omega),show(10*decVal a+(c.toNat-48))/10=decVal a by omega,hi,show(10*decVal a+(c.toNat-48))%10=c.toNat-48 by omega,hcc]
theorem ztF (t:List UInt8):Lib.hasPrefix (45::t) [45]=true/\Lib.trimPrefix (45::t) [45]=t:=by
 constructor<;>simp[Lib.trimPrefix,Lib.hasPrefix]
end Go.Proofs.YtegfiemlnnpidaaGreatDoor
