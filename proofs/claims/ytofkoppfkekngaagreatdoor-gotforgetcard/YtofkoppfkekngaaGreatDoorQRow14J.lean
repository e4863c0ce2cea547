/- GotForget: the closed facts of its row. -/
import Derived.Test.YtofkoppfkekngaaGreatDoorQJoinKit3
namespace Go.Proofs.YtofkoppfkekngaaGreatDoor
open Go.Abs Go.ChangeShapes Go.WideShapes Go.ChangeAt Go.RowKit
set_option linter.unusedSimpArgs false
set_option linter.unusedVariables false
set_option maxRecDepth 100000

theorem r14_inPlace : (Rows.gotForgetRow.inPlace == Tryz.prog.inPlace 14) = true := by kernel_rfl
theorem r14_unfollowed : (Rows.gotForgetRow.unfollowed == Tryz.prog.unfollowed 14) = true := by kernel_rfl
theorem r14_recurses : (Rows.gotForgetRow.recurses == Tryz.prog.recurses 14) = true := by kernel_rfl
theorem r14_named : (Rows.gotForgetRow.named == Tryz.prog.varsNamed 14) = true := by kernel_rfl
theorem r14_joined : joinedFacts Tryz.prog 14 Tryz.f14 Rows.gotForgetSpec Rows.gotForgetRow = true :=
  joined_of (by kernel_rfl) laidOut g_mapsRowed (by kernel_rfl) (by kernel_rfl) rfl g_stops rfl g_stopKnobs r14_inPlace r14_unfollowed r14_recurses r14_named (by kernel_rfl) (by kernel_rfl) (by kernel_rfl) (by kernel_rfl) (by kernel_rfl) rfl (by kernel_rfl) (by kernel_rfl) (by kernel_rfl) g_plainKeys rfl g_stopsHeard g_mayEnter g_lifted g_make (by kernel_rfl) rfl (by kernel_rfl) (by kernel_rfl)
theorem r14_instance : Tryz.f14.isInstance Tryz.prog Rows.gotForgetRow.origin Rows.gotForgetRow.targs := of_decide_eq_true (by kernel_rfl)
theorem r14_wrapper : Tryz.f14.isWrapper Tryz.prog Rows.gotForgetRow.wrapper Rows.gotForgetRow.mainSum := by
  unfold Func.isWrapper; first | (rw [if_pos (by decide +kernel)]; kernel_rfl) | (rw [if_neg (by decide +kernel)]; exact ⟨rfl, rfl⟩)
theorem r14_funcNamed : Tryz.prog.funcNamed "muleteer/muleteerlaw8.GotForget" = some 14 := by kernel_rfl

end Go.Proofs.YtofkoppfkekngaaGreatDoor
