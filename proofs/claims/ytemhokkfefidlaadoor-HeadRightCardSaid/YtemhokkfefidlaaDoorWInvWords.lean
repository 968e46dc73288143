import Derived.Test.YtemhokkfefidlaaDoorWInv
import Derived.Test.YtemhokkfefidlaaDoorWFootNe
namespace Go.Proofs.YtemhokkfefidlaaDoorW.PrintWords
open Go.RowKit
end Go.Proofs.YtemhokkfefidlaaDoorW.PrintWords
namespace Go.Proofs.YtemhokkfefidlaaDoorW.PrintLast
section
variable {ops : Array Oper} {a : Act} {o og : Oper} {g : Nat} {t : Tmp} {u : Bool}
end
end Go.Proofs.YtemhokkfefidlaaDoorW.PrintLast
