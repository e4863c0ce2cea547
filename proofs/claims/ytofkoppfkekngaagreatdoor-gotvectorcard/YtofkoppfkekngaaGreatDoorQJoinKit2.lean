/- More closed facts that hang on the program alone. -/
import Derived.Test.YtofkoppfkekngaaGreatDoorQJoinKit
namespace Go.Proofs.YtofkoppfkekngaaGreatDoor
open Go.Abs Go.ChangeShapes Go.WideShapes Go.ChangeAt Go.RowKit
set_option maxRecDepth 100000

theorem g_stopsHeard : Tryz.prog.stopsHeard = true := by kernel_rfl
theorem g_mayEnter : Tryz.prog.mayEnter = true := by kernel_rfl

end Go.Proofs.YtofkoppfkekngaaGreatDoor
