/- Several texts joined, each with its own sentence and conditions ahead of it: RefA, RefB, RefC. -/
import Derived.Test.YtglbjooofdnbkaaGreatDoorMB
namespace Go.Proofs.YtglbjooofdnbkaaGreatDoor
open Go.RowKit
def nameAt (k:Nat) (c:UInt8):Bool:=isLow c||(decide (k≠0)&&(isDig c||c==95))
def nameFrom (k:Nat):List UInt8→Bool
 | []=>true
 | c::r=>nameAt k c&&nameFrom (k+1) r
def namedF (l:List UInt8):Bool:=nameFrom 0 l&&decide (1≤l.length)&&decide (l.length≤24)
end Go.Proofs.YtglbjooofdnbkaaGreatDoor
