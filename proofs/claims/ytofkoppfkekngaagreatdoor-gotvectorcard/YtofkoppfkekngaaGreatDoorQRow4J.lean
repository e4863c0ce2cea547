/- GotVector: the closed facts of its row. -/
import Derived.Test.YtofkoppfkekngaaGreatDoorQJoinKit3
namespace Go.Proofs.YtofkoppfkekngaaGreatDoor
open Go.Abs Go.ChangeShapes Go.WideShapes Go.ChangeAt Go.RowKit
set_option linter.unusedSimpArgs false
set_option linter.unusedVariables false
set_option maxRecDepth 100000

theorem r4_inPlace : (Rows.gotVectorRow.inPlace == Tryz.prog.inPlace 4) = true := by kernel_rfl
theorem r4_unfollowed : (Rows.gotVectorRow.unfollowed == Tryz.prog.unfollowed 4) = true := by kernel_rfl
theorem r4_recurses : (Rows.gotVectorRow.recurses == Tryz.prog.recurses 4) = true := by kernel_rfl
theorem r4_named : (Rows.gotVectorRow.named == Tryz.prog.varsNamed 4) = true := by kernel_rfl
theorem r4_joined : joinedFacts Tryz.prog 4 Tryz.f4 Rows.gotVectorSpec Rows.gotVectorRow = true :=
  joined_of (by kernel_rfl) laidOut g_mapsRowed (by kernel_rfl) (by kernel_rfl) rfl g_stops rfl g_stopKnobs r4_inPlace r4_unfollowed r4_recurses r4_named (by kernel_rfl) (by kernel_rfl) (by kernel_rfl) (by kernel_rfl) (by kernel_rfl) rfl (by kernel_rfl) (by kernel_rfl) (by kernel_rfl) g_plainKeys rfl g_stopsHeard g_mayEnter g_lifted g_make (by kernel_rfl) rfl (by kernel_rfl) (by kernel_rfl)
theorem r4_instance : Tryz.f4.isInstance Tryz.prog Rows.gotVectorRow.origin Rows.gotVectorRow.targs := of_decide_eq_true (by kernel_rfl)
theorem r4_wrapper : Tryz.f4.isWrapper Tryz.prog Rows.gotVectorRow.wrapper Rows.gotVectorRow.mainSum := by
  unfold Func.isWrapper; first | (rw [if_pos (by decide +kernel)]; kernel_rfl) | (rw [if_neg (by decide +kernel)]; exact ⟨rfl, rfl⟩)
theorem r4_funcNamed : Tryz.prog.funcNamed "muleteer/muleteerlaw8.GotVector" = some 4 := by kernel_rfl

end Go.Proofs.YtofkoppfkekngaaGreatDoor
