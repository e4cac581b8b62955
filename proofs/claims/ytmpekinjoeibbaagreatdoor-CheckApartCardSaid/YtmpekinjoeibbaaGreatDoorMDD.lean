/- Parts of one proof, joined; conditions stand in each theorem. -/
import Derived.Test.YtmpekinjoeibbaaGreatDoorMD
import Derived.Handy
namespace Go.Proofs.YtmpekinjoeibbaaGreatDoor
open Go.RowKit
theorem Ch(s:ByteArray)(a b:Nat):(s.extract a b).data.toList=(s.data.toList.drop a).take (b-a):=by rw[ByteArray.data_extract,Array.toList_extract]
theorem yo(s:ByteArray)(k:Nat)(g:ByteArray)(h:k+g.size≤s.size):((s.extract k (k+g.size)).toList==g.toList)=iS s k g:=by
 unfold iS;rw[←Lib.hasPrefix_of_take,Fj,Fj,Ch,Nat.add_sub_cancel_left];have e:g.data.toList.length=g.size:=by simp
 rw[e];have a:decide (g.size≤(s.data.toList.drop k).length)=true:=by simp;omega
 rw[a,Bool.true_and]
