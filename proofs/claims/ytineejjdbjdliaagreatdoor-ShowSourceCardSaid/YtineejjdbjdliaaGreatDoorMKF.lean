/- The reference's look at a node, some kinds more; by contract, given the looks at kids. Conditions: at most 20000 kids a list, texts of at most 72007 bytes. -/
import Derived.Test.YtineejjdbjdliaaGreatDoorMK
namespace Go.Proofs.YtineejjdbjdliaaGreatDoor
open Go.RowKit
end Go.Proofs.YtineejjdbjdliaaGreatDoor
