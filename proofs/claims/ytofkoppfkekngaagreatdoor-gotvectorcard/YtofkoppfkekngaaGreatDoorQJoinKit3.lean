/- More closed facts that hang on the program alone. -/
import Derived.Test.YtofkoppfkekngaaGreatDoorQJoinKit2
namespace Go.Proofs.YtofkoppfkekngaaGreatDoor
open Go.Abs Go.ChangeShapes Go.WideShapes Go.ChangeAt Go.RowKit
set_option maxRecDepth 100000

theorem g_lifted : (Rows.vecRunsRow.lifted == Tryz.prog.liftsFinal) = true := by kernel_rfl

end Go.Proofs.YtofkoppfkekngaaGreatDoor
