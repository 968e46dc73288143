/- The pure statement of FrameSafe. -/
import Derived.Test.YtljppmpigijgaaaDoorPS
namespace Go.Proofs.YtljppmpigijgaaaDoor.Pure
open Go.RowKit Go.Proofs.YtljppmpigijgaaaDoor.P Go.Proofs.YtljppmpigijgaaaDoorW.PrintWords Go.Proofs.YtljppmpigijgaaaDoorW.PrintLast
theorem FrameSafe : lockagelaw07_FrameSafe.Pure := FrameSafe_pure
end Go.Proofs.YtljppmpigijgaaaDoor.Pure
