/- As RegE, its last operations in any order that they may come in. No condition. -/
import Derived.Test.YtglbjooofdnbkaaGreatDoorMT
namespace Go.Proofs.YtglbjooofdnbkaaGreatDoor.RE
open Go.RowKit
section
variable {P:Program} {l:List Oper} {w0:World}
end
end Go.Proofs.YtglbjooofdnbkaaGreatDoor.RE
