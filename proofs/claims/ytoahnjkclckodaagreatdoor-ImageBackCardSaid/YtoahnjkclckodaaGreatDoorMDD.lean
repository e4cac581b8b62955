/- Parts of one proof, joined; conditions stand in each theorem. -/
import Derived.Test.YtoahnjkclckodaaGreatDoorMD
import Derived.Handy
namespace Go.Proofs.YtoahnjkclckodaaGreatDoor
open Go.RowKit
theorem Gm(s:ByteArray)(a b:Nat):(s.extract a b).data.toList=(s.data.toList.drop a).take (b-a):=by rw[ByteArray.data_extract,Array.toList_extract]
theorem Bj(s:ByteArray)(k:Nat)(g:ByteArray)(h:k+g.size≤s.size):((s.extract k (k+g.size)).toList==g.toList)=jh s k g:=by
 unfold jh;rw[←Lib.hasPrefix_of_take,J1,J1,Gm,Nat.add_sub_cancel_left];have e:g.data.toList.length=g.size:=by simp
 rw[e];have a:decide (g.size≤(s.data.toList.drop k).length)=true:=by simp;omega
 rw[a,Bool.true_and]
