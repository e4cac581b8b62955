/- Several texts joined, each with its own sentence and conditions ahead of it: RefNA, RefNB, RefNC, RefND. -/
import Derived.Test.YtfpohaipmnjflaaGreatDoorMJ
/- The reference's looks at texts: among some, an operator, a name, a number; by contract. Condition: texts of at most 72007 bytes. -/
namespace Go.Proofs.YtfpohaipmnjflaaGreatDoor
open Go.RowKit
end Go.Proofs.YtfpohaipmnjflaaGreatDoor
/- The reference's looks at kids: all of some kinds, and right; by contract, given the look at a kid. Condition: at most 20000 kids a list. -/
namespace Go.Proofs.YtfpohaipmnjflaaGreatDoor
open Go.RowKit
end Go.Proofs.YtfpohaipmnjflaaGreatDoor
/- The reference's looks at kids: expressions, a rule's; by contract, given the look at a kid. Condition: at most 20000 kids a list. -/
namespace Go.Proofs.YtfpohaipmnjflaaGreatDoor
open Go.RowKit
end Go.Proofs.YtfpohaipmnjflaaGreatDoor
/- The reference's look at a node, kind by kind; by contract, given the looks at kids. Conditions: at most 20000 kids a list, texts of at most 72007 bytes. -/
namespace Go.Proofs.YtfpohaipmnjflaaGreatDoor
open Go.RowKit
end Go.Proofs.YtfpohaipmnjflaaGreatDoor
