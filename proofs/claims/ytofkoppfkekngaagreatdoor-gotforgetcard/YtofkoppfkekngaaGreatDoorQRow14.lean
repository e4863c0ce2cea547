/- The law GotForget holds: for every first number, every n and every place it returns true, and its arguments read as they did. (In each world where the listed package-level variables read as the program's text lays them; the card ties them to that text.) -/
import Derived.Test.YtofkoppfkekngaaGreatDoorQRow14L
namespace Go.Proofs.YtofkoppfkekngaaGreatDoor
open Go.Abs Go.ChangeShapes Go.WideShapes Go.ChangeAt Go.RowKit
set_option linter.unusedSimpArgs false
set_option linter.unusedVariables false
set_option maxRecDepth 100000

theorem gotForget_holds : Rows.GotForgetCardSaid :=
  Claim7.holds_tied_plain_at .later [] [.data, .data, .data, .data, .sentinel, .sentinel, .pinned] true (true, "367d9da00237cfdab22f23763ef8015b9ae990de1a8964bc33ba8feabbefb360") true gotForget_said (fun _ h => by cases h) (by kernel_rfl) (fun _ h => by cases h) gotForget_row_tie rfl ⟨rfl, rfl⟩ g_main rfl
    (fun f fn hf hfn => by
      obtain rfl : f = 14 := Option.some.inj (r14_funcNamed.symm.trans hf) |>.symm
      obtain rfl : fn = Tryz.f14 := (Option.some.inj (Tryz.func14.symm.trans hfn)).symm
      exact ⟨g_looks, fun j t ht => by
        rw [Tryz.params14] at ht
        have hm : t ∈ [31, 3, 3] := by simpa using Array.mem_of_getElem? ht
        have hall : ([31, 3, 3].all fun u => !Tryz.prog.wantsStandIn u) = true := by kernel_rfl
        exact (show Tryz.prog.wantsStandIn t = false by simpa using List.all_eq_true.1 hall t hm)⟩)
    (by kernel_rfl)

end Go.Proofs.YtofkoppfkekngaaGreatDoor
