/- The reference's look at a node, some kinds more; by contract, given the looks at kids. Conditions: at most 20000 kids a list, texts of at most 72007 bytes. -/
import Derived.Test.YtfpohaipmnjflaaGreatDoorMK
namespace Go.Proofs.YtfpohaipmnjflaaGreatDoor
open Go.RowKit
end Go.Proofs.YtfpohaipmnjflaaGreatDoor
