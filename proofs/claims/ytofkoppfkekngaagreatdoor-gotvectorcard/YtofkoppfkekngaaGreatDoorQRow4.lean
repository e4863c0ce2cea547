/- The law GotVector holds: for every first number and every slice of steps it returns true, and its arguments read as they did. (In each world where the listed package-level variables read as the program's text lays them; the card ties them to that text.) -/
import Derived.Test.YtofkoppfkekngaaGreatDoorQRow4L
namespace Go.Proofs.YtofkoppfkekngaaGreatDoor
open Go.Abs Go.ChangeShapes Go.WideShapes Go.ChangeAt Go.RowKit
set_option linter.unusedSimpArgs false
set_option linter.unusedVariables false
set_option maxRecDepth 100000

theorem gotVector_holds : Rows.GotVectorCardSaid :=
  Claim7.holds_tied_plain_at .later [] [.data, .data, .data, .data, .sentinel, .sentinel, .pinned] true (true, "367d9da00237cfdab22f23763ef8015b9ae990de1a8964bc33ba8feabbefb360") true gotVector_said (fun _ h => by cases h) (by kernel_rfl) (fun _ h => by cases h) gotVector_row_tie rfl ⟨rfl, rfl⟩ g_main rfl
    (fun f fn hf hfn => by
      obtain rfl : f = 4 := Option.some.inj (r4_funcNamed.symm.trans hf) |>.symm
      obtain rfl : fn = Tryz.f4 := (Option.some.inj (Tryz.func4.symm.trans hfn)).symm
      exact ⟨g_looks, fun j t ht => by
        rw [Tryz.params4] at ht
        have hm : t ∈ [31, 22] := by simpa using Array.mem_of_getElem? ht
        have hall : ([31, 22].all fun u => !Tryz.prog.wantsStandIn u) = true := by kernel_rfl
        exact (show Tryz.prog.wantsStandIn t = false by simpa using List.all_eq_true.1 hall t hm)⟩)
    (by kernel_rfl)

end Go.Proofs.YtofkoppfkekngaaGreatDoor
