import Derived.Test.YthemlbefkdmegaaDoorWInv
import Derived.Test.YthemlbefkdmegaaDoorWFootNe
namespace Go.Proofs.YthemlbefkdmegaaDoorW.PrintWords
open Go.RowKit
end Go.Proofs.YthemlbefkdmegaaDoorW.PrintWords
namespace Go.Proofs.YthemlbefkdmegaaDoorW.PrintLast
section
variable {ops : Array Oper} {a : Act} {o og : Oper} {g : Nat} {t : Tmp} {u : Bool}
end
end Go.Proofs.YthemlbefkdmegaaDoorW.PrintLast
