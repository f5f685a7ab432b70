/-
 Networks and queries as texts (plain law): what their bytes are. Strings as lists of bytes: sums; strings.Join, strings.Builder, strconv.Itoa in these words.
-/
import Derived.Test.YtegfiemlnnpidaaGreatDoorNA
import Derived.Test.YtegfiemlnnpidaaGreatDoorQP
import Derived.Test.YtegfiemlnnpidaaGreatDoorText
import Derived.Test.YtegfiemlnnpidaaGreatDoorPG
import Derived.Lib.Join
import Derived.Lib.ItoaNum
import Derived.Lib.AppendIntMem
namespace Go.Proofs.YtegfiemlnnpidaaGreatDoor
open Go.RowKit

/-! the bytes -/
def brS (sep:List UInt8) (l:List (List UInt8)):List UInt8:=91::(Lib.join l sep++[93])
def nuS (l:List Rat):List UInt8:=brS [32] (l.map zoT)
def inS (l:List Int):List UInt8:=brS [32] (l.map Lib.itoa)
def teS (p:Int×Rat):List UInt8:=Lib.itoa p.1++58::32::zoT p.2
def tsS (l:List (Int×Rat)):List UInt8:=brS [44,32] (l.map teS)
def rwS (b:Rat) (ts:List (Int×Rat)):List UInt8:=[32,32,32,32,114,111,119,32]++(zoT b++(32::(tsS ts++[10])))
def rwsS (bs:List Rat) (rs:List (List (Int×Rat))):List UInt8:=((bs.zip rs).map fun p=>rwS p.1 p.2).flatten
def grT (g:List Int):List UInt8:=[32,32,32,32]++(inS g++[10])
def endS:List UInt8:=[32,32,125,10]
def affS (l:LQ):List UInt8:=[32,32,97,102,102,105,110,101,32,123,10]++(rwsS l.bias l.rows++endS)
def cnvS (l:LQ):List UInt8:=
 [32,32,99,111,110,118,32]++(inS (l.dims.take 3)++(32::(inS ((l.dims.drop 3).take 3)++
  ([32,115,116,114,105,100,101,32]++(Lib.itoa ((l.dims[6]?).getD 0)++([32,112,97,100,32]++(Lib.itoa ((l.dims[7]?).getD 0)++
   ([32,107,101,114,110,101,108,32]++(nuS l.kern++([32,98,105,97,115,32]++(nuS l.bias++[10])))))))))))
def relS:List UInt8:=[32,32,114,101,108,117,10]
def zyx (l:LQ):List UInt8:=[32,32,112,111,111,108,32,123,10]++((l.grs.map grT).flatten++endS)
def layS (l:LQ):List UInt8:=if l.kind=1 then affS l else if l.kind=2 then cnvS l else if l.kind=3 then relS else if l.kind=4 then zyx l else[]
def netS (inputs:Int) (las:List LQ):List UInt8:=[110,101,116,32]++(Lib.itoa inputs++([32,123,10]++((las.map layS).flatten++[125,10])))
structure QQ where
 x0:List Rat
 label:Int
 lo:List Rat
 hi:List Rat
 norm:Int
def quS (q:QQ):List UInt8:=
 [113,117,101,114,121,32,123,32,97,116,32]++(nuS q.x0++([32,108,97,98,101,108,32]++(Lib.itoa q.label++([32,108,111,32]++(nuS q.lo++
  ([32,104,105,32]++(nuS q.hi++([32,110,111,114,109,32]++((if q.norm=2 then[109,97,120] else[115,117,109])++[32,125,10])))))))))

/-! texts that grow thing by thing -/
theorem zwL (sep:List UInt8) (r:List (List UInt8)) (x:List UInt8):Lib.joinTail sep (r++[x])=Lib.joinTail sep r++(sep++x):=by
 simp[Lib.joinTail]
theorem zwU {l:List (List UInt8)} {sep:List UInt8} {k:Nat} (hk:k<l.length):Lib.join (l.take (k+1)) sep=Lib.join (l.take k) sep++((if k=0 then[] else sep)++l[k]):=by
 match l,hk with
 |x::r,hk=>
  match k,hk with
  |0,_=>simp[Lib.join_one,Lib.join_nil]
  |k+1,hk=>
   have hk':k<r.length:=by simpa using hk
   rw[if_neg (by omega),List.take_succ_cons,List.take_succ_cons,Lib.join_cons,Lib.join_cons,List.take_succ_eq_append_getElem hk',zwL,List.append_assoc];rfl
def bA (l:List UInt8):ByteArray:=⟨l.toArray⟩
theorem zwE (l:List UInt8):(bA l).size=l.length:=by simp[bA,ByteArray.size]
theorem zyO (a b:List UInt8):bA a++bA b=bA (a++b):=by
 apply ByteArray.ext;simp[bA,ByteArray.data_append]
def TxR (l:List UInt8) (w:World) (e:Ending) (w':World):Prop:=e=.returned (.string (bA l))/\Below w.heap.size w w'
theorem catM (a b:List UInt8) (h:a.length+b.length<=9223372036854775807):∃s,Hid (s=a++b)/\s.length=a.length+b.length/\∀W:World,(Op.stringOp .add (bA a) (bA b)).run Tryz.prog W=.ok (.string (bA s)) W:=
 ⟨_,znd rfl,List.length_append,fun W=>by rw[run_string_add_sum (P:=Tryz.prog) W (bA a) (bA b) (by rw[zwE,zwE];exact h),zyO]⟩
theorem catL (k b:List UInt8) (n:Nat) (hn:k.length=n) (h:n+b.length<=9223372036854775807):∃s,Hid (s=k++b)/\s.length=n+b.length/\∀W:World,(Op.stringOp .add ⟨k.toArray⟩ (bA b)).run Tryz.prog W=.ok (.string (bA s)) W:=by subst hn;exact catM k b h
theorem catR (a k:List UInt8) (n:Nat) (hn:k.length=n) (h:a.length+n<=9223372036854775807):∃s,Hid (s=a++k)/\s.length=a.length+n/\∀W:World,(Op.stringOp .add (bA a) ⟨k.toArray⟩).run Tryz.prog W=.ok (.string (bA s)) W:=by subst hn;exact catM a k h
def IsB (B b:Nat) (l:List UInt8) (w:World):Prop:=Lib.IsBuilder 89 5 B b (Lib.byteCells l) w
theorem IsB.below {B b:Nat} {l:List UInt8} {w w':World} (h:IsB B b l w) (hb:Below w.heap.size w w'):IsB B b l w':=isBuilder_below h hb
theorem IsB.new_ (w:World):IsB w.heap.size w.heap.size [] (w.alloc (.cells #[.pointer none,.slice none 0 0] 89)):=isBuilder_new w _ _
theorem zyi (l:List UInt8):Lib.strCells (bA l)=Lib.byteCells l:=by simp[Lib.strCells,Lib.byteCells,bA]
theorem zxW (B b:Nat) (l k:List UInt8) (w:World) (h:IsB B b l w) (hlen:l.length+k.length<=140737488355328) (hB:B<=w.heap.size):
 Calls Tryz.prog 45 #[.pointer (some ⟨b,0,none⟩),.string (bA k)] w fun e w'=>(∃v,e=.returned v)/\IsB B b (l++k) w'/\Below B w w':=
 (writeString_any B b (Lib.byteCells l) (bA k) w h (by rw[zwE,Lib.byteCells_length];exact hlen) hB).mono fun e w' h=>by
  refine⟨⟨_,h.1⟩,?_,h.2.2⟩;have h1:=h.2.1;rw[zyi]at h1;unfold IsB;rw[show Lib.byteCells (l++k)=Lib.byteCells l++Lib.byteCells k from List.map_append];exact h1
theorem zwu (B b:Nat) (l:List UInt8) (w:World) (h:IsB B b l w) (hB:B<=w.heap.size):
 Calls Tryz.prog 48 #[.pointer (some ⟨b,0,none⟩)] w fun e w'=>e=.returned (.string (bA l))/\Below B w w':=Tryz.Builder_String_any B b l w h hB
theorem zwl (n:Int) (h0:-9223372036854775808<=n) (h1:n<=9223372036854775807) (w:World) (ht:Tab w):
 Calls Tryz.prog 46 #[.int .i64 n] w (TxR (Lib.itoa n) w):=
 (Tryz.strconv_Itoa n h0 h1 w ht).mono fun e w' h=>⟨h.1,by obtain⟨k,os,rfl⟩:=h.2;exact Lib.below_grow _ w (Nat.le_refl _) k os⟩
theorem zwJ (w:World) (r:RV) (q:Rat) (n:Nat) (hn:n<=1048576) (h1n:1<=n) (h:RatD r q n w) (hT:Tz w) (ht:Tab w):
 Calls Tryz.prog 83 #[.agg (cR r)] w (TxR (zoT q) w):=zxu w r q n hn h1n h hT ht
theorem GL.cl {w W W':World} {ls:List Ow} {old new:World->Prop} (h:GL w ls old new W) (hb:Below W.heap.size W W'):GL w ls old new W':=(h.keep (.pure trivial _ _) hb).imp (fun _ h=>h) fun _ h=>h.2
def zwe (l:List UInt8):Value:=.string (bA l)
theorem zk6 {w w0:World} {ls:List Ow} {old new:World->Prop} {k g c:Nat} {A:Option Addr} (hA:A=some ⟨g,0,none⟩) {ts:List (List UInt8)} {n:Nat} (hn:n=ts.length) (h:GL w0 ls old new w) (hk:ls[k]?=some ⟨9,1,.slice A n c,ts.map fun x=>#[zwe x]⟩) (sep:List UInt8) (hN:n<=140737488355328) (hlen:(Lib.join ts sep).length<=140737488355328):
 Calls Tryz.prog 140 #[.slice A n c,.string (bA sep)] w (TxR (Lib.join ts sep) w):=by
 subst hn;have ho:OwnE w w0.heap.size 9 1 (.slice A ts.length c) (ts.map fun x=>#[zwe x]):=h.own _ (List.mem_of_getElem? hk);subst hA;obtain⟨A',c',hv,hc,-,hel,-⟩:=ho.form;rw[List.length_map]at hv hc;obtain⟨rfl,rfl⟩:some ⟨g,0,none⟩=A'/\c=c':=by simpa using hv
 have e1:(ts.map bA).map (·.data.toList)=ts:=by
  rw[List.map_map];exact(List.map_congr_left fun x _=>by simp[bA]).trans (List.map_id _)
 have e2:(bA sep).data.toList=sep:=by simp[bA]
 have h1:=Tryz.strings_Join g 0 c (ts.map bA) (bA sep) w (fun j x hx=>?_) (ho.lt g rfl).2 (by rw[List.length_map];exact hN) (by rw[List.length_map];exact hc) (by rw[e1,e2];exact hlen)
 ·rw[List.length_map,e1,e2]at h1;exact h1
 ·obtain⟨t,ht,rfl⟩:∃t,ts[j]?=some t/\bA t=x:=by simpa using hx
  obtain⟨hj,rfl⟩:=List.getElem?_eq_some_iff.1 ht;have h2:=hel.cell j (by simpa using hj) 0 (by decide);rw[List.getElem_map,Nat.mul_one,Nat.add_zero,za6]at h2;exact h2
end Go.Proofs.YtegfiemlnnpidaaGreatDoor
