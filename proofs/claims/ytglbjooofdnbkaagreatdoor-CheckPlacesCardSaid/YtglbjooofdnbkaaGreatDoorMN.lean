/- The statements' program with a node of each kind; by contract. No condition. -/
import Derived.Test.YtglbjooofdnbkaaGreatDoorMM
namespace Go.Proofs.YtglbjooofdnbkaaGreatDoor
open Go.RowKit
end Go.Proofs.YtglbjooofdnbkaaGreatDoor
