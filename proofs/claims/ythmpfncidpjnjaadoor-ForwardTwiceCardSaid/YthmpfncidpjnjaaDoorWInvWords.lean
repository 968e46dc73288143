import Derived.Test.YthmpfncidpjnjaaDoorWInv
import Derived.Test.YthmpfncidpjnjaaDoorWFootNe
namespace Go.Proofs.YthmpfncidpjnjaaDoorW.PrintWords
open Go.RowKit
end Go.Proofs.YthmpfncidpjnjaaDoorW.PrintWords
namespace Go.Proofs.YthmpfncidpjnjaaDoorW.PrintLast
section
variable {ops : Array Oper} {a : Act} {o og : Oper} {g : Nat} {t : Tmp} {u : Bool}
end
end Go.Proofs.YthmpfncidpjnjaaDoorW.PrintLast
