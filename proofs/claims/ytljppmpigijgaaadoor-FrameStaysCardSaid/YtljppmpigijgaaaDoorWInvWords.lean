import Derived.Test.YtljppmpigijgaaaDoorWInv
import Derived.Test.YtljppmpigijgaaaDoorWFootNe
namespace Go.Proofs.YtljppmpigijgaaaDoorW.PrintWords
open Go.RowKit
end Go.Proofs.YtljppmpigijgaaaDoorW.PrintWords
namespace Go.Proofs.YtljppmpigijgaaaDoorW.PrintLast
section
variable {ops : Array Oper} {a : Act} {o og : Oper} {g : Nat} {t : Tmp} {u : Bool}
end
end Go.Proofs.YtljppmpigijgaaaDoorW.PrintLast
