import Derived.Test.YtemhokkfefidlaaGreatDoorWInv
import Derived.Test.YtemhokkfefidlaaGreatDoorWN
set_option linter.unusedVariables false
set_option linter.unusedSimpArgs false
namespace Go.Proofs.YtemhokkfefidlaaGreatDoorW.PrintWords
open Go.RowKit
end Go.Proofs.YtemhokkfefidlaaGreatDoorW.PrintWords
namespace Go.Proofs.YtemhokkfefidlaaGreatDoorW.PrintLast
section
variable {ops : Array Oper} {a : Act} {o og : Oper} {g : Nat} {t : Tmp} {u : Bool}
theorem wanted_on (hg : o.guard = some (g, u)) (ho : ops[g]? = some og) (hd : og.dst = some t) (hv : a.tmps[t]? = some (.bool u)) : Region.wanted o (yielded ops a.tmps) = true := by
  simp [Region.wanted, hg, yielded, ho, hd, hv]
end
end Go.Proofs.YtemhokkfefidlaaGreatDoorW.PrintLast
