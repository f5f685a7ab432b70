/-
 What a text says, by the document (plain law): a reader of tokens; the first fault ends all. What a reader does (plain law): it goes on; how much it tells.
-/
import Derived.Test.YtegfiemlnnpidaaGreatDoorUB
import Derived.Test.YtegfiemlnnpidaaGreatDoorTK
namespace Go.Proofs.YtegfiemlnnpidaaGreatDoor
open Go.RowKit

structure Rz where
 i:Nat
 e:Nat
 ln:Nat
def tkA (ts:List Tk) (i:Nat):Tk:=(ts[i]?).getD ⟨1,[],0,0⟩
section
variable (ts:List Tk)
def Rz.fail (s:Rz) (e:Nat):Rz:=if s.e=0 then⟨s.i,e,(tkA ts s.i).line⟩ else s
def Rz.sees (s:Rz) (k:List UInt8):Bool:=decide (s.e=0)&&((tkA ts s.i).kind==2||(tkA ts s.i).kind==4)&&(tkA ts s.i).s==k
def Rz.num (s:Rz):Bool:=decide (s.e=0)&&(tkA ts s.i).kind==3
def Rz.step (s:Rz):Rz:=if s.e=0/\s.i+1<ts.length then⟨s.i+1,s.e,s.ln⟩ else s
def Rz.take (s:Rz) (k:List UInt8):Rz:=if s.sees ts k then s.step ts else s.fail ts 21
def Rz.rat (s:Rz):Rat×Rz:=if s.num ts then((tkA ts s.i).x,s.step ts) else(0,s.fail ts 21)
def zwh (q:Rat):Bool:=decide (q.den=1)&&decide (0<=q.num)&&decide (q.num<=65535)
def Rz.small (s:Rz):Int×Rz:=if s.num ts&&zwh (tkA ts s.i).x then((tkA ts s.i).x.num,s.step ts) else(0,s.fail ts 21)
def Rz.rats:Nat->Rz->List Rat×Rz
 |0,s=>([],s)
 |f+1,s=>if s.num ts then((tkA ts s.i).x::(rats f (s.step ts)).1,(rats f (s.step ts)).2) else([],s)
def Rz.list (s:Rz) (b:Bool):List Rat×Rz:=
 let r:=rats ts ts.length (s.take ts [91])
 (r.1,((if b&&r.2.sees ts [102,114,101,101] then r.2.fail ts 23 else r.2).take ts [93]))
def Rz.terms:Nat->Rz->List (Int×Rat)×Rz
 |0,s=>([],s)
 |f+1,s=>
  let a:=s.small ts
  let x:=(a.2.take ts [58]).rat ts
  if x.2.sees ts [44] then((a.1,x.1)::(terms f (x.2.step ts)).1,(terms f (x.2.step ts)).2) else([(a.1,x.1)],x.2)
def Rz.row (s:Rz):List (Int×Rat)×Rz:=
 let s1:=s.take ts [91]
 let r:=if s1.num ts then terms ts ts.length s1 else([],s1)
 (r.1,r.2.take ts [93])
def Rz.rows:Nat->Rz->(List Rat×List (List (Int×Rat)))×Rz
 |0,s=>(([],[]),s)
 |f+1,s=>
  if s.sees ts [114,111,119] then
   let b:=(s.step ts).rat ts
   let r:=b.2.row ts
   let m:=rows f r.2
   ((b.1::m.1.1,r.1::m.1.2),m.2)
  else(([],[]),s)
def Rz.ints:Nat->Rz->List Int×Rz
 |0,s=>([],s)
 |f+1,s=>if s.num ts then((s.small ts).1::(ints f (s.small ts).2).1,(ints f (s.small ts).2).2) else([],s)
def Rz.groups:Nat->Rz->List (List Int)×Rz
 |0,s=>([],s)
 |f+1,s=>
  if s.sees ts [91] then
   let g:=ints ts ts.length (s.step ts)
   let m:=groups f (g.2.take ts [93])
   (g.1::m.1,m.2)
  else([],s)
def noL (k:Int):LQ:=⟨k,[],[],[0,0,0,0,0,0,0,0],[],[]⟩
def Rz.affine (s:Rz):LQ×Rz:=
 let r:=rows ts ts.length (s.take ts [123])
 ({noL 1 with bias:=r.1.1,rows:=r.1.2},r.2.take ts [125])
def Rz.pool (s:Rz):LQ×Rz:=
 let r:=groups ts ts.length (s.take ts [123])
 ({noL 4 with grs:=r.1},r.2.take ts [125])
def Rz.conv (s:Rz):LQ×Rz:=
 let a:=(s.take ts [91]).small ts
 let b:=a.2.small ts
 let c:=b.2.small ts
 let d:=((c.2.take ts [93]).take ts [91]).small ts
 let e:=d.2.small ts
 let f:=e.2.small ts
 let g:=((f.2.take ts [93]).take ts [115,116,114,105,100,101]).small ts
 let h:=(g.2.take ts [112,97,100]).small ts
 let k:=(h.2.take ts [107,101,114,110,101,108]).list ts false
 let l:=(k.2.take ts [98,105,97,115]).list ts false
 (⟨2,[],l.1,[a.1,b.1,c.1,d.1,e.1,f.1,g.1,h.1],k.1,[]⟩,l.2)
def Rz.layer (s:Rz):LQ×Rz:=
 if s.sees ts [97,102,102,105,110,101] then(s.step ts).affine ts
 else if s.sees ts [99,111,110,118] then(s.step ts).conv ts
 else if s.sees ts [114,101,108,117] then(noL 3,s.step ts)
 else if s.sees ts [112,111,111,108] then(s.step ts).pool ts
 else(noL 0,s.fail ts 21)
def Rz.layers:Nat->Rz->List LQ×Rz
 |0,s=>([],s)
 |f+1,s=>if s.e=0/\s.sees ts [125]=false then((s.layer ts).1::(layers f (s.layer ts).2).1,(layers f (s.layer ts).2).2) else([],s)
def Rz.net (s:Rz):(Int×List LQ)×Rz:=
 let a:=(s.take ts [110,101,116]).small ts
 let l:=layers ts (ts.length+1) (a.2.take ts [123])
 ((a.1,l.1),l.2.take ts [125])
def Rz.query (s:Rz):QQ×Rz:=
 let a:=(((s.take ts [113,117,101,114,121]).take ts [123]).take ts [97,116]).list ts false
 let b:=(a.2.take ts [108,97,98,101,108]).small ts
 let c:=(b.2.take ts [108,111]).list ts true
 let d:=(c.2.take ts [104,105]).list ts true
 let n:=d.2.take ts [110,111,114,109]
 let m:Int×Rz:=if n.sees ts [109,97,120] then(2,n.step ts) else(1,n.take ts [115,117,109])
 let z:=m.2.take ts [125]
 (⟨a.1,b.1,c.1,d.1,m.1⟩,if z.e=0/\(tkA ts z.i).kind≠1 then z.fail ts 21 else z)
end

variable {ts:List Tk}
theorem Rz.fail_i (s:Rz) (e:Nat):(s.fail ts e).i=s.i:=by unfold Rz.fail;split<;>rfl
theorem Rz.step_i (s:Rz):s.i<=(s.step ts).i:=by unfold Rz.step;split<;>simp
theorem Rz.take_i (s:Rz) (k:List UInt8):s.i<=(s.take ts k).i:=by
 unfold Rz.take
 split
 ·exact s.step_i
 ·exact Nat.le_of_eq (s.fail_i 21).symm
theorem Rz.rat_i (s:Rz):s.i<=(s.rat ts).2.i:=by
 unfold Rz.rat
 split
 ·exact s.step_i
 ·exact Nat.le_of_eq (s.fail_i 21).symm
theorem Rz.small_i (s:Rz):s.i<=(s.small ts).2.i:=by
 unfold Rz.small
 split
 ·exact s.step_i
 ·exact Nat.le_of_eq (s.fail_i 21).symm
theorem Rz.rats_i:∀(f:Nat) (s:Rz),s.i<=(Rz.rats ts f s).2.i/\(Rz.rats ts f s).1.length<=f
 |0,s=>⟨Nat.le_refl _,Nat.le_refl _⟩
 |f+1,s=>by
  have h:=Rz.rats_i f (s.step ts);have:=s.step_i (ts:=ts);unfold Rz.rats
  split
  ·exact⟨by show s.i<=(Rz.rats ts f (s.step ts)).2.i;omega,by simp[h.2]⟩
  ·simp
theorem Rz.list_i (s:Rz) (b:Bool):s.i<=(s.list ts b).2.i/\(s.list ts b).1.length<=ts.length:=by
 have h1:=s.take_i (ts:=ts) [91];have h2:=Rz.rats_i (ts:=ts) ts.length (s.take ts [91]);refine⟨?_,h2.2⟩;unfold Rz.list;dsimp only;refine Nat.le_trans ?_ (Rz.take_i _ _)
 split
 ·rw[Rz.fail_i];omega
 ·omega
theorem Rz.ints_i:∀(f:Nat) (s:Rz),s.i<=(Rz.ints ts f s).2.i/\(Rz.ints ts f s).1.length<=f
 |0,s=>⟨Nat.le_refl _,Nat.le_refl _⟩
 |f+1,s=>by
  have h:=Rz.ints_i f (s.small ts).2;have:=s.small_i (ts:=ts);unfold Rz.ints
  split
  ·exact⟨by show s.i<=(Rz.ints ts f (s.small ts).2).2.i;omega,by simp[h.2]⟩
  ·simp
theorem Rz.terms_i:∀(f:Nat) (s:Rz),s.i<=(Rz.terms ts f s).2.i/\(Rz.terms ts f s).1.length<=f
 |0,s=>⟨Nat.le_refl _,Nat.le_refl _⟩
 |f+1,s=>by
  have h1:=s.small_i (ts:=ts);have h2:=(s.small ts).2.take_i (ts:=ts) [58];have h3:=((s.small ts).2.take ts [58]).rat_i (ts:=ts);have h4:=(((s.small ts).2.take ts [58]).rat ts).2.step_i (ts:=ts);have h:=Rz.terms_i f ((((s.small ts).2.take ts [58]).rat ts).2.step ts);unfold Rz.terms;dsimp only
  split
  ·exact⟨by show s.i<=(Rz.terms ts f ((((s.small ts).2.take ts [58]).rat ts).2.step ts)).2.i;omega,by simp[h.2]⟩
  ·exact⟨by show s.i<=(((s.small ts).2.take ts [58]).rat ts).2.i;omega,by simp⟩
theorem Rz.row_i (s:Rz):s.i<=(s.row ts).2.i/\(s.row ts).1.length<=ts.length:=by
 have h1:=s.take_i (ts:=ts) [91];have h2:=Rz.terms_i (ts:=ts) ts.length (s.take ts [91]);unfold Rz.row;dsimp only
 split
 ·exact⟨Nat.le_trans (by omega) (Rz.take_i _ _),h2.2⟩
 ·exact⟨Nat.le_trans (by exact h1) (Rz.take_i _ _),Nat.zero_le _⟩
theorem Rz.rows_i:∀(f:Nat) (s:Rz),s.i<=(Rz.rows ts f s).2.i/\(Rz.rows ts f s).1.1.length<=f/\(Rz.rows ts f s).1.2.length<=f/\∀r∈(Rz.rows ts f s).1.2,r.length<=ts.length
 |0,s=>by simp[Rz.rows]
 |f+1,s=>by
  have h1:=s.step_i (ts:=ts);have h2:=(s.step ts).rat_i (ts:=ts);have h3:=((s.step ts).rat ts).2.row_i (ts:=ts);have h:=Rz.rows_i f (((s.step ts).rat ts).2.row ts).2;unfold Rz.rows;dsimp only
  split
  ·refine⟨by show s.i<=(Rz.rows ts f (((s.step ts).rat ts).2.row ts).2).2.i;omega,by simp[h.2.1],by simp[h.2.2.1],fun r hr=>?_⟩;rcases List.mem_cons.1 hr with rfl|hr
   ·exact h3.2
   ·exact h.2.2.2 r hr
  ·simp
theorem Rz.groups_i:∀(f:Nat) (s:Rz),s.i<=(Rz.groups ts f s).2.i/\(Rz.groups ts f s).1.length<=f/\∀r∈(Rz.groups ts f s).1,r.length<=ts.length
 |0,s=>by simp[Rz.groups]
 |f+1,s=>by
  have h1:=s.step_i (ts:=ts);have h2:=Rz.ints_i (ts:=ts) ts.length (s.step ts);have h3:=(Rz.ints ts ts.length (s.step ts)).2.take_i (ts:=ts) [93];have h:=Rz.groups_i f ((Rz.ints ts ts.length (s.step ts)).2.take ts [93]);unfold Rz.groups;dsimp only
  split
  ·refine⟨by show s.i<=(Rz.groups ts f ((Rz.ints ts ts.length (s.step ts)).2.take ts [93])).2.i;omega,by simp[h.2.1],fun r hr=>?_⟩;rcases List.mem_cons.1 hr with rfl|hr
   ·exact h2.2
   ·exact h.2.2 r hr
  ·simp
theorem Rz.affine_i (s:Rz):s.i<=(s.affine ts).2.i:=by
 have h1:=s.take_i (ts:=ts) [123];have h2:=Rz.rows_i (ts:=ts) ts.length (s.take ts [123]);exact Nat.le_trans (Nat.le_trans h1 h2.1) (Rz.take_i _ _)
theorem Rz.pool_i (s:Rz):s.i<=(s.pool ts).2.i:=by
 have h1:=s.take_i (ts:=ts) [123];have h2:=Rz.groups_i (ts:=ts) ts.length (s.take ts [123]);exact Nat.le_trans (Nat.le_trans h1 h2.1) (Rz.take_i _ _)
theorem Rz.conv_i (s:Rz):s.i<=(s.conv ts).2.i:=by
 have h0:=s.take_i (ts:=ts) [91];have h1:=Nat.le_trans h0 (Rz.small_i (ts:=ts) _);have h2:=Nat.le_trans h1 (Rz.small_i (ts:=ts) _);have h3:=Nat.le_trans h2 (Rz.small_i (ts:=ts) _);have h4:=Nat.le_trans h3 (Rz.take_i (ts:=ts) _ [93]);have h5:=Nat.le_trans h4 (Rz.take_i (ts:=ts) _ [91]);have h6:=Nat.le_trans h5 (Rz.small_i (ts:=ts) _);have h7:=Nat.le_trans h6 (Rz.small_i (ts:=ts) _);have h8:=Nat.le_trans h7 (Rz.small_i (ts:=ts) _);have h9:=Nat.le_trans h8 (Rz.take_i (ts:=ts) _ [93]);have h10:=Nat.le_trans h9 (Rz.take_i (ts:=ts) _ [115,116,114,105,100,101]);have h11:=Nat.le_trans h10 (Rz.small_i (ts:=ts) _);have h12:=Nat.le_trans h11 (Rz.take_i (ts:=ts) _ [112,97,100]);have h13:=Nat.le_trans h12 (Rz.small_i (ts:=ts) _);have h14:=Nat.le_trans h13 (Rz.take_i (ts:=ts) _ [107,101,114,110,101,108]);have h15:=Nat.le_trans h14 (Rz.list_i (ts:=ts) _ false).1;have h16:=Nat.le_trans h15 (Rz.take_i (ts:=ts) _ [98,105,97,115]);have h17:=Nat.le_trans h16 (Rz.list_i (ts:=ts) _ false).1;exact h17
theorem Rz.ints_no {s:Rz} (h:s.num ts=false) (f:Nat):Rz.ints ts f s=([],s):=by cases f<;>simp[Rz.ints,h]
theorem Rz.groups_no {s:Rz} (h:s.sees ts [91]=false) (f:Nat):Rz.groups ts f s=([],s):=by cases f<;>simp[Rz.groups,h]
theorem Rz.rows_no {s:Rz} (h:s.sees ts [114,111,119]=false) (f:Nat):Rz.rows ts f s=(([],[]),s):=by cases f<;>simp[Rz.rows,h]
theorem Rz.layers_no {s:Rz} (h:¬(s.e=0/\s.sees ts [125]=false)) (f:Nat):Rz.layers ts f s=([],s):=by cases f<;>simp[Rz.layers,h]
theorem Rz.layers_l:∀(f:Nat) (s:Rz),(Rz.layers ts f s).1.length<=f
 |0,s=>Nat.le_refl _
 |f+1,s=>by
  have h:=Rz.layers_l f (s.layer ts).2;unfold Rz.layers
  split
  ·simp[h]
  ·simp
end Go.Proofs.YtegfiemlnnpidaaGreatDoor
