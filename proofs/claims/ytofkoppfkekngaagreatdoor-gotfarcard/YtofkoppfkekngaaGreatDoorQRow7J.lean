/- GotFar: the closed facts of its row. -/
import Derived.Test.YtofkoppfkekngaaGreatDoorQJoinKit3
namespace Go.Proofs.YtofkoppfkekngaaGreatDoor
open Go.Abs Go.ChangeShapes Go.WideShapes Go.ChangeAt Go.RowKit
set_option linter.unusedSimpArgs false
set_option linter.unusedVariables false
set_option maxRecDepth 100000

theorem r7_inPlace : (Rows.gotFarRow.inPlace == Tryz.prog.inPlace 7) = true := by kernel_rfl
theorem r7_unfollowed : (Rows.gotFarRow.unfollowed == Tryz.prog.unfollowed 7) = true := by kernel_rfl
theorem r7_recurses : (Rows.gotFarRow.recurses == Tryz.prog.recurses 7) = true := by kernel_rfl
theorem r7_named : (Rows.gotFarRow.named == Tryz.prog.varsNamed 7) = true := by kernel_rfl
theorem r7_joined : joinedFacts Tryz.prog 7 Tryz.f7 Rows.gotFarSpec Rows.gotFarRow = true :=
  joined_of (by kernel_rfl) laidOut g_mapsRowed (by kernel_rfl) (by kernel_rfl) rfl g_stops rfl g_stopKnobs r7_inPlace r7_unfollowed r7_recurses r7_named (by kernel_rfl) (by kernel_rfl) (by kernel_rfl) (by kernel_rfl) (by kernel_rfl) rfl (by kernel_rfl) (by kernel_rfl) (by kernel_rfl) g_plainKeys rfl g_stopsHeard g_mayEnter g_lifted g_make (by kernel_rfl) rfl (by kernel_rfl) (by kernel_rfl)
theorem r7_instance : Tryz.f7.isInstance Tryz.prog Rows.gotFarRow.origin Rows.gotFarRow.targs := of_decide_eq_true (by kernel_rfl)
theorem r7_wrapper : Tryz.f7.isWrapper Tryz.prog Rows.gotFarRow.wrapper Rows.gotFarRow.mainSum := by
  unfold Func.isWrapper; first | (rw [if_pos (by decide +kernel)]; kernel_rfl) | (rw [if_neg (by decide +kernel)]; exact ⟨rfl, rfl⟩)
theorem r7_funcNamed : Tryz.prog.funcNamed "muleteer/muleteerlaw8.GotFar" = some 7 := by kernel_rfl

end Go.Proofs.YtofkoppfkekngaaGreatDoor
