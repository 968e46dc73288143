/- The pure statement of FrameMade. -/
import Derived.Test.YtljppmpigijgaaaDoorPZ
namespace Go.Proofs.YtljppmpigijgaaaDoor.Pure
open Go.RowKit Go.Proofs.YtljppmpigijgaaaDoor.P Go.Proofs.YtljppmpigijgaaaDoorW.PrintWords Go.Proofs.YtljppmpigijgaaaDoorW.PrintLast
theorem FrameMade : lockagelaw07_FrameMade.Pure := FrameMade_pure
end Go.Proofs.YtljppmpigijgaaaDoor.Pure
