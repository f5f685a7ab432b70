/-
 A list of integers that the call itself makes by append. tripwirelow: ShortInt, SameWords and SameInt of what is the same, CopyWords. tripwirelow: SameWords of what is not the same.
-/
import Derived.Test.YtfdmajmhmligpaaGreatDoorLimC
namespace Go.Proofs.YtfdmajmhmligpaaGreatDoor
open Go.RowKit

theorem zdT:∀(l m:List Nat),l.length=m.length→(∀k<l.length,nth l k=nth m k)→l=m
 |[],[],_,_=>rfl
 |[],_::_,h,_=>by simp at h
 |_::_,[],h,_=>by simp at h
 |a::l,b::m,h,hn=>by
  have h0:a=b:=hn 0 (by simp)
  have h1:=zdT l m (by simpa using h) (fun k hk=>hn (k+1) (by simpa using hk))
  rw[h0,h1]

end Go.Proofs.YtfdmajmhmligpaaGreatDoor
