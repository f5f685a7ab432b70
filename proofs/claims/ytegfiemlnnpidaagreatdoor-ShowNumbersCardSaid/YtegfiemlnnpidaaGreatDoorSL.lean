/-
 Fractions: how long what is told of them can be; SameRat; what a law's walk keeps. What a law over three fractions keeps at each of its steps.
-/
import Derived.Test.YtegfiemlnnpidaaGreatDoorRQ
import Derived.Test.YtegfiemlnnpidaaGreatDoorLowB
import Derived.Test.YtegfiemlnnpidaaGreatDoorText
namespace Go.Proofs.YtegfiemlnnpidaaGreatDoor
open Go.RowKit

theorem zeh {x n m:Nat} (h:x<B64^n) (hm:n<=m):x<B64^m:=Nat.lt_of_lt_of_le h (Nat.pow_le_pow_right za4 hm)
theorem Sz.up {q:Rat} {n m:Nat} (h:Sz q n) (hm:n<=m):Sz q m:=⟨zeh h.1 hm,zeh h.2 hm⟩
theorem zkW {x d:Int} {n:Nat} (hd:0<d) (hx:x.natAbs<B64^n) (h:d.natAbs<B64^n):Sz (Rat.divInt x d) n:=by
 obtain⟨a,b⟩:=zfY (x:=x) hd;refine⟨?_,?_⟩
 ·rw[a];exact Nat.lt_of_le_of_lt (Int.natAbs_ediv_le_natAbs _ _) hx
 ·have h1:(d/(Nat.gcd x.natAbs d.natAbs:Int)).natAbs<=d.natAbs:=Int.natAbs_ediv_le_natAbs _ _;omega
theorem zen {n:Nat} (h:1<=n):1<B64^n:=zeh (n:=1) (by decide) h
theorem zgE {x d:Int} {n:Nat} (h1:1<=n) (hx:x.natAbs<B64^n) (h:d.natAbs<B64^n):Sz (Rat.divInt x d) n:=by
 rcases Int.lt_trichotomy d 0 with hd|hd|hd
 ·have:=zkW (x:=-x) (d:=-d) (n:=n) (by omega) (by omega) (by omega);rw[Rat.neg_divInt_neg]at this;exact this
 ·subst hd;rw[Rat.divInt_zero];exact⟨Nat.pow_pos za4,zen h1⟩
 ·exact zkW hd hx h
theorem RatD.sz {r:RV} {q:Rat} {n:Nat} {w:World} (h:RatD r q n w) (h1:1<=n):Sz q n:=by
 obtain⟨x,d,hx,hd,hq⟩:=h.ex;rw[hq]
 split
 ·exact zgE h1 hx.lt (zen h1)
 ·exact zgE h1 hx.lt hd.lt
theorem RatD.mono {r:RV} {q:Rat} {n m:Nat} {w:World} (h:RatD r q n w) (hm:n<=m):RatD r q m w:=by
 obtain⟨x,d,hx,hd,hq⟩:=h.ex;exact⟨x,d,hx.mono hm,hd.mono hm,hq⟩
theorem ze1 {a b n m:Nat} (h:a<B64^n) (h':b<B64^m):a*b<B64^(n+m):=by
 rw[Nat.pow_add];exact Nat.mul_lt_mul_of_lt_of_lt h h'
theorem Sz.add {a b:Rat} {n m:Nat} (h:Sz a n) (h':Sz b m):Sz (a+b) (n+m+1):=by
 have e:a+b=Rat.divInt (a.num*b.den+b.num*a.den) (a.den*b.den):=by
  have:=Rat.divInt_add_divInt a.num b.num (d₁:=a.den) (d₂:=b.den) (by have:=a.den_pos;omega) (by have:=b.den_pos;omega);rw[Rat.num_divInt_den,Rat.num_divInt_den]at this;exact this
 rw[e];have p1:=ze1 h.1 h'.2;have p2:=ze1 h'.1 h.2;have p3:=ze1 h.2 h'.2;rw[Nat.add_comm m n]at p2;have q1:(a.num*b.den).natAbs=a.num.natAbs*b.den:=by rw[Int.natAbs_mul];rfl
 have q2:(b.num*a.den).natAbs=b.num.natAbs*a.den:=by rw[Int.natAbs_mul];rfl
 have q3:((a.den:Int)*b.den).natAbs=a.den*b.den:=by rw[Int.natAbs_mul];rfl
 have k:B64^(n+m)*2<=B64^(n+m+1):=by rw[Nat.pow_succ];exact Nat.mul_le_mul_left _ (by decide)
 refine zgE (by omega) ?_ ?_
 ·have:=Int.natAbs_add_le (a.num*b.den) (b.num*a.den);omega
 ·rw[q3];exact zeh p3 (by omega)
theorem Sz.neg {a:Rat} {n:Nat} (h:Sz a n):Sz (-a) n:=⟨by rw[Rat.neg_num,Int.natAbs_neg];exact h.1,by rw[Rat.neg_den];exact h.2⟩
theorem Sz.sub {a b:Rat} {n m:Nat} (h:Sz a n) (h':Sz b m):Sz (a-b) (n+m+1):=by rw[Rat.sub_eq_add_neg];exact h.add h'.neg
theorem Sz.mul {a b:Rat} {n m:Nat} (h:Sz a n) (h':Sz b m):Sz (a*b) (n+m+1):=by
 have e:a*b=Rat.divInt (a.num*b.num) (a.den*b.den):=by
  have:=Rat.divInt_mul_divInt a.num b.num (d₁:=a.den) (d₂:=b.den);rw[Rat.num_divInt_den,Rat.num_divInt_den]at this;exact this
 rw[e];refine zgE (by omega) ?_ ?_
 ·rw[Int.natAbs_mul];exact zeh (ze1 h.1 h'.1) (by omega)
 ·rw[Int.natAbs_mul];exact zeh (ze1 h.2 h'.2) (by omega)
theorem Sz.inv {a:Rat} {n:Nat} (h:Sz a n):Sz a⁻¹ n:=by
 refine⟨?_,?_⟩
 ·rw[Rat.num_inv,Int.natAbs_mul];refine Nat.lt_of_le_of_lt ?_ h.2;have h1:a.num.sign.natAbs<=1:=by rw[Int.natAbs_sign];split<;>omega
  calc a.num.sign.natAbs*(a.den:Int).natAbs<=1*a.den:=Nat.mul_le_mul_right _ h1
   _=a.den:=Nat.one_mul _
 ·rw[Rat.den_inv]
  split
  ·exact Nat.lt_of_le_of_lt a.den_pos h.2
  ·exact h.1
theorem Sz.quo {a b:Rat} {n m:Nat} (h:Sz a n) (h':Sz b m):Sz (a/b) (n+m+1):=by rw[Rat.div_def];exact h.mul h'.inv
theorem zaM:Sz 0 1:=⟨by decide,by decide⟩
theorem RatN.below {r:RV} {q:Rat} {w w':World} (h:RatN r q w) (hb:Below w.heap.size w w'):RatN r q w':=(h.old.below hb).now
theorem RatN.drew {r:RV} {q:Rat} {w:World} (h:RatN r q w):RatN r q w.drew:=h.old.drew.now
theorem RatD.below {r:RV} {q:Rat} {n:Nat} {w w':World} (h:RatD r q n w) (hb:Below w.heap.size w w'):RatD r q n w':=(h.old.below hb).now
theorem RatD.drew {r:RV} {q:Rat} {n:Nat} {w:World} (h:RatD r q n w):RatD r q n w.drew:=h.old.drew.now
theorem zbX (w:World):RatN za9 0 w:=⟨(zmO w (fun _=>True)).now,(zmO w (fun _=>True)).now⟩

theorem Tab.old {w:World} (h:Tab w):Rests w (·<w.heap.size) Tab:=⟨h,fun _ hw=>h.block (hw _ h.lt h.lt)⟩
section
variable {w W W':World} {ra rb rc:RV} {a b c:Rat} {n:Nat}
end

end Go.Proofs.YtegfiemlnnpidaaGreatDoor
