/- The pure statement of FieldBack. -/
import Derived.Test.YtmokfemljgbkeaaDoorPC
namespace Go.Proofs.YtmokfemljgbkeaaDoor.Pure
open Go.RowKit Go.Proofs.YtmokfemljgbkeaaDoor.P Go.Proofs.YtmokfemljgbkeaaDoorW.PrintWords Go.Proofs.YtmokfemljgbkeaaDoorW.PrintLast
theorem FieldBack : lockagelaw05_FieldBack.Pure := by
  exact FieldBack_pure
end Go.Proofs.YtmokfemljgbkeaaDoor.Pure
