/-
 Tokens of a text, in plain Lean: over any reader of numbers; two texts one behind the other; tokens that are written. tokens.letter, digit, end by each of its closures, skip. tokens.token.
-/
import Derived.Test.YtegfiemlnnpidaaGreatDoorMath
import Derived.Test.YtegfiemlnnpidaaGreatDoorVal
import Derived.Test.YtegfiemlnnpidaaGreatDoorQP
import Derived.Deep.DeepMust
import Derived.Deep.DeepCutAuto
namespace Go.Proofs.YtegfiemlnnpidaaGreatDoor
structure Tk where
 kind:Nat
 s:List UInt8
 x:Rat
 line:Nat
def zm0 (b:UInt8):Bool:=decide (97<=b)&&decide (b<=122)
def zfd (b:UInt8):Bool:=decide (48<=b)&&decide (b<=57)||b==45||b==47
def zmi (b:UInt8):Bool:=b==123||b==125||b==91||b==93||b==58||b==44
def zl3 (b:UInt8):Bool:=b==32||b==9||b==13
def skipG:Bool->List UInt8->Nat->List UInt8×Nat
 |_,[],n=>([],n)
 |r,b::t,n=>if b=10 then skipG false t (n+1) else if r||zl3 b||b==35 then skipG (r||b==35) t n else(b::t,n)
def tok1 (P:List UInt8->Nat×Rat) (b:UInt8) (t:List UInt8) (n:Nat):Nat×Tk×List UInt8:=
 if zm0 b then(0,⟨2,b::t.takeWhile zm0,0,n⟩,t.dropWhile zm0)
 else if zfd b&&b != 47 then
  ((if(P (b::t.takeWhile zfd)).1=11 then 20 else(P (b::t.takeWhile zfd)).1),⟨3,[],(P (b::t.takeWhile zfd)).2,n⟩,t.dropWhile zfd)
 else if zmi b then(0,⟨4,[b],0,n⟩,t)
 else(20,⟨0,[],0,n⟩,t)
def zn1 (k:Tk) (r:Nat×Nat×List Tk):Nat×Nat×List Tk:=if r.1=0 then(0,0,k::r.2.2) else r
def toks (P:List UInt8->Nat×Rat):Nat->List UInt8->Nat->Nat×Nat×List Tk
 |0,_,_=>(0,0,[])
 |f+1,l,n=>
  match skipG false l n with
  |([],m)=>(0,0,[⟨1,[],0,m⟩])
  |(b::t,m)=>if(tok1 P b t m).1=0 then zn1 (tok1 P b t m).2.1 (toks P f (tok1 P b t m).2.2 m) else((tok1 P b t m).1,m,[])
def zdR (P:List UInt8->Nat×Rat) (l:List UInt8):Nat×Nat×List Tk:=if 262144<l.length then(3,0,[]) else toks P (l.length+1) l 1

variable {P:List UInt8->Nat×Rat}
theorem zqP (r:Bool) (l:List UInt8) (n:Nat):(skipG r l n).1.length<=l.length:=by
 induction l generalizing r n with
 |nil=>simp[skipG]
 |cons b t ih=>
  unfold skipG
  split
  ·exact Nat.le_succ_of_le (ih _ _)
  ·split
   ·exact Nat.le_succ_of_le (ih _ _)
   ·simp
theorem zrN (p:UInt8->Bool) (l:List UInt8):(l.dropWhile p).length<=l.length:=(List.dropWhile_sublist p).length_le
theorem zue (b:UInt8) (t:List UInt8) (n:Nat):(tok1 P b t n).2.2.length<=t.length:=by
 unfold tok1
 split
 ·exact zrN _ _
 ·split
  ·exact zrN _ _
  ·split<;>simp
theorem zpQ (f g:Nat) (l:List UInt8) (n:Nat) (hf:l.length<f) (hg:l.length<g):toks P f l n=toks P g l n:=by
 induction f generalizing g l n with
 |zero=>omega
 |succ f ih=>
  match g,hg with
  |g+1,hg=>
   simp only[toks];have h1:=zqP false l n
   split
   ·rfl
   ·rename_i b t m e
    rw[e]at h1;have h2:=zue (P:=P) b t m;simp only[List.length_cons]at h1;rw[ih g _ m (by omega) (by omega)]
def upT (k:Nat) (t:Tk):Tk:={t with line:=t.line+k}
theorem zt2 (b:UInt8) (t:List UInt8) (n k:Nat):tok1 P b t (n+k)=((tok1 P b t n).1,upT k (tok1 P b t n).2.1,(tok1 P b t n).2.2):=by
 unfold tok1
 split
 ·rfl
 ·split
  ·rfl
  ·split<;>rfl
theorem zu9 (r:Bool) (l:List UInt8) (n:Nat):(skipG r l n).2+(skipG r l n).1.count 10=n+l.count 10:=by
 induction l generalizing r n with
 |nil=>simp[skipG]
 |cons b t ih=>
  unfold skipG
  split
  ·rename_i h;rw[ih,h];simp;omega
  ·rename_i h
   split
   ·rw[ih,List.count_cons_of_ne h]
   ·rfl
def glue (a:List Tk) (r:Nat×Nat×List Tk):Nat×Nat×List Tk:=if r.1=0 then(0,0,a++r.2.2) else r
theorem zrF (k:Tk) (r:Nat×Nat×List Tk):(zn1 k r).1=r.1:=by unfold zn1;split<;>simp_all
theorem zr6 (f:Nat) (l:List UInt8) (n:Nat) (h:(toks P f l n).1=0):(toks P f l n).2.1=0:=by
 cases f with
 |zero=>rfl
 |succ f=>
  simp only[toks]at h⊢;generalize skipG false l n=s at*;obtain⟨s1,m⟩:=s
  match s1,h with
  |[],h=>rfl
  |b::t,h=>
   simp only at h⊢;by_cases h0:(tok1 P b t m).1=0
   ·simp only[h0,if_pos,zrF]at h⊢;unfold zn1;rw[if_pos h]
   ·simp only[if_neg h0]at h;exact absurd h h0
open Go.RowKit

theorem zvi (b:UInt8):zm0 b=(decide (97<=b.toNat)&&decide (b.toNat<=122)):=rfl
def digB (b:UInt8):Bool:=decide (48<=b)&&decide (b<=57)
theorem ztI (b:UInt8) (n:Nat) (hn:n<256):decide (b=UInt8.ofNat n)=decide ((b.toNat:Int)=n):=by
 rw[decide_eq_decide,<-UInt8.toNat_inj,UInt8.toNat_ofNat',Nat.mod_eq_of_lt (show n<2^8 from hn)];omega
def endF (f:UInt8->Bool) (s:ByteArray) (p:Nat):Nat:=p+((s.data.toList.drop p).takeWhile f).length
theorem zpX {f:UInt8->Bool} {s:ByteArray} {p:Nat} (h:p<s.size):endF f s p=if f s[p]=true then endF f s (p+1) else p:=by
 unfold endF;have h':p<s.data.toList.length:=by simpa using h
 rw[List.drop_eq_getElem_cons h',List.takeWhile_cons];have e:s.data.toList[p]=s[p]:=rfl;rw[e]
 split<;>simp<;>omega
theorem zrW {f:UInt8->Bool} {s:ByteArray} {p:Nat} (h:¬p<s.size):endF f s p=p:=by
 unfold endF;have h':s.data.toList.length<=p:=by simpa using h
 rw[List.drop_eq_nil_of_le h'];simp
theorem zpN (b:UInt8):zfd b=(digB b||decide ((b.toNat:Int)=45)||decide ((b.toNat:Int)=47)):=by
 have h1:=ztI b 45 (by decide);have h2:=ztI b 47 (by decide);unfold zfd digB;rw[show(b==45)=decide (b=UInt8.ofNat 45)from rfl,show(b==47)=decide (b=UInt8.ofNat 47)from rfl,h1,h2];rfl
theorem zrS (r:Bool) (l:List UInt8) (n:Nat):(skipG r l n).1 <:+l:=by
 induction l generalizing r n with
 |nil=>simp[skipG]
 |cons b t ih=>
  unfold skipG
  split
  ·exact(ih _ _).trans (List.suffix_cons _ _)
  ·split
   ·exact(ih _ _).trans (List.suffix_cons _ _)
   ·exact List.suffix_refl _
def zpJ (s:ByteArray) (p n:Nat):Nat:=s.size-(skipG false (s.data.toList.drop p) n).1.length
def zsm (s:ByteArray) (p n:Nat):Nat:=(skipG false (s.data.toList.drop p) n).2
theorem zqK (s:ByteArray) (p n:Nat):zpJ s p n<=s.size:=by unfold zpJ;omega
theorem zsA (s:ByteArray) (p n:Nat) (_hp:p<=s.size):s.data.toList.drop (zpJ s p n)=(skipG false (s.data.toList.drop p) n).1:=by
 unfold zpJ;obtain⟨t,ht⟩:=(zrS false (s.data.toList.drop p) n).trans (List.drop_suffix p s.data.toList);have hl:s.size=t.length+(skipG false (s.data.toList.drop p) n).1.length:=by
  rw[<-List.length_append,ht];simp
 generalize (skipG false (s.data.toList.drop p) n).1=r at*;rw[hl,Nat.add_sub_cancel,<-ht];simp
theorem zpC {s:ByteArray} {k:Nat} (h:k<s.size):s.data.toList.drop k=s[k]::s.data.toList.drop (k+1):=by
 have h':k<s.data.toList.length:=by simpa using h
 rw[List.drop_eq_getElem_cons h'];rfl
theorem zvk (b:UInt8) (n:Nat) (hn:n<256):b=UInt8.ofNat n↔(b.toNat:Int)=n:=by
 have:=ztI b n hn;exact decide_eq_decide.1 this
theorem zrR (f:UInt8->Bool) (s:ByteArray) (p:Nat):(s.extract p (endF f s p)).data.toList=(s.data.toList.drop p).takeWhile f:=by
 rw[ByteArray.data_extract,Array.toList_extract];unfold List.extract endF;rw[Nat.add_sub_cancel_left];generalize s.data.toList.drop p=l;have h:=List.takeWhile_append_dropWhile (p:=f) (l:=l)
 conv=>lhs;arg 2;rw[<-h]
 exact List.take_left
theorem zrJ (f:UInt8->Bool) (s:ByteArray) (p:Nat):s.data.toList.drop (endF f s p)=(s.data.toList.drop p).dropWhile f:=by
 unfold endF;rw[<-List.drop_drop];generalize s.data.toList.drop p=l;have h:=List.takeWhile_append_dropWhile (p:=f) (l:=l)
 conv=>lhs;arg 2;rw[<-h]
 exact List.drop_left
theorem zuQ (s:ByteArray) (p:Nat) (h:p<s.size):s.extract p (p+1)=⟨#[s[p]]⟩:=by
 apply ByteArray.ext;apply Array.toList_inj.1;rw[ByteArray.data_extract,Array.toList_extract];unfold List.extract;rw[Nat.add_sub_cancel_left,zpC h];rfl
def zq6 (k:Tk) (r:RV):Array Value:=#[.int .u8 (k.kind:Nat),.string ⟨k.s.toArray⟩,.bool r.num.neg,.slice r.num.A r.num.k r.num.c,.bool r.den.neg,.slice r.den.A r.den.k r.den.c,.int .i64 (k.line:Nat)]
def zp0 (s:ByteArray) (p:Nat) (h:p<s.size):Nat×Tk×List UInt8:=tok1 parseR s[p] (s.data.toList.drop (p+1)) 0
theorem zs2 {s:ByteArray} {p:Nat} (h:p<s.size) (hf:zm0 s[p]=true):zp0 s p h=(0,⟨2,(s.extract p (endF zm0 s p)).data.toList,0,0⟩,s.data.toList.drop (endF zm0 s p)):=by
 rw[zrR,zrJ,zpC h,List.takeWhile_cons,List.dropWhile_cons,if_pos hf,if_pos hf];unfold zp0 tok1;rw[if_pos hf]
theorem zt0 {s:ByteArray} {p:Nat} (h:p<s.size) (h0:zm0 s[p]=false) (hf:(digB s[p]||decide ((s[p].toNat:Int)=45))=true):
 zp0 s p h=((if(parseR (s.extract p (endF zfd s p)).data.toList).1=11 then 20 else(parseR (s.extract p (endF zfd s p)).data.toList).1),⟨3,[],(parseR (s.extract p (endF zfd s p)).data.toList).2,0⟩,s.data.toList.drop (endF zfd s p)):=by
 have hp:zfd s[p]=true:=by rw[zpN,hf];rfl
 have hn:(s[p] != 47)=true:=by
  refine bne_iff_ne.2 fun e=>?_;rw[e]at hf;exact absurd hf (by decide)
 rw[zrR,zrJ,zpC h,List.takeWhile_cons,List.dropWhile_cons,if_pos hp,if_pos hp];unfold zp0 tok1;rw[if_neg (by rw[h0];decide),hp,hn,if_pos (by rfl)]
theorem ztp {s:ByteArray} {p:Nat} (h:p<s.size) (hf:(digB s[p]||decide ((s[p].toNat:Int)=45))=false):(zfd s[p]&&s[p] != 47)=false:=by
 rw[zpN,hf,Bool.false_or];by_cases e:s[p]=47
 ·rw[e];rfl
 ·rw[decide_eq_false fun e'=>e ((zvk s[p] 47 (by decide)).2 e')];rfl
theorem zu8 {s:ByteArray} {p:Nat} (h:p<s.size) (h0:zm0 s[p]=false) (hf:(digB s[p]||decide ((s[p].toNat:Int)=45))=false) (hs:zmi s[p]=true):
 zp0 s p h=(0,⟨4,(s.extract p (p+1)).data.toList,0,0⟩,s.data.toList.drop (p+1)):=by
 rw[zuQ s p h];unfold zp0 tok1;rw[if_neg (by rw[h0];decide),if_neg (by rw[ztp h hf];decide),if_pos hs]
theorem zq8 {s:ByteArray} {p:Nat} (h:p<s.size) (h0:zm0 s[p]=false) (hf:(digB s[p]||decide ((s[p].toNat:Int)=45))=false) (hs:zmi s[p]=false):
 zp0 s p h=(20,⟨0,[],0,0⟩,s.data.toList.drop (p+1)):=by
 unfold zp0 tok1;rw[if_neg (by rw[h0];decide),if_neg (by rw[ztp h hf];decide),if_neg (by rw[hs];decide)]
theorem Blk.c7 {w:World} {g:Nat} {t:TypeId} {a b c d e f h:Value} (H:Blk w g t #[a,b,c,d,e,f,h]):w.cell? ⟨g,0,none⟩=some a/\w.cell? ⟨g,1,none⟩=some b/\w.cell? ⟨g,2,none⟩=some c/\w.cell? ⟨g,3,none⟩=some d/\w.cell? ⟨g,4,none⟩=some e/\w.cell? ⟨g,5,none⟩=some f/\w.cell? ⟨g,6,none⟩=some h:=⟨H.cell 0,H.cell 1,H.cell 2,H.cell 3,H.cell 4,H.cell 5,H.cell 6⟩
section
variable {w:World} {g:Nat} {a b c d e f h u0 u1 u2 u3 u4 u5 u6:Value} {t:TypeId}
end
end Go.Proofs.YtegfiemlnnpidaaGreatDoor
