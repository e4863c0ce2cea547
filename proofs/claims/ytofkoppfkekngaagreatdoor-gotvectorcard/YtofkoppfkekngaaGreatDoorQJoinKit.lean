/- The closed facts of the rows that hang on the program alone. -/
import Derived.Test.YtofkoppfkekngaaGreatDoorQLawKit
namespace Go.Proofs.YtofkoppfkekngaaGreatDoor
open Go.Abs Go.ChangeShapes Go.WideShapes Go.ChangeAt Go.RowKit
set_option maxRecDepth 100000

theorem g_mapsRowed : mapsRowed Tryz.prog = true := by kernel_rfl
theorem g_stops : (Tryz.prog.stops == []) = true := by kernel_rfl
theorem g_stopKnobs : (Tryz.prog.stopKnobs == []) = true := by kernel_rfl
theorem g_plainKeys : (Rows.vecRunsRow.plainKeys == Tryz.prog.plainKeys) = true := by kernel_rfl
theorem g_make : (Tryz.prog.make == some Rows.vecRunsRow.make) = true := by kernel_rfl
theorem g_looks : true = Tryz.prog.looks [] := by kernel_rfl
theorem g_main : Tryz.prog.mainIs = some (true, "367d9da00237cfdab22f23763ef8015b9ae990de1a8964bc33ba8feabbefb360".toList) := by kernel_rfl

end Go.Proofs.YtofkoppfkekngaaGreatDoor
