/- As RegE, its last operations in any order that they may come in. No condition. -/
import Derived.Test.YtoonjedifockoaaGreatDoorMT
namespace Go.Proofs.YtoonjedifockoaaGreatDoor.RE
open Go.IntKind(i64)
open Go.Value(int string slice)
open Go.RowKit
section
variable {P:Program} {l:List Oper} {w0:World}
end
end Go.Proofs.YtoonjedifockoaaGreatDoor.RE
