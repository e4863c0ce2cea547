/- VecRuns: the closed facts of its row. -/
import Derived.Test.YtofkoppfkekngaaGreatDoorQJoinKit3
namespace Go.Proofs.YtofkoppfkekngaaGreatDoor
open Go.Abs Go.ChangeShapes Go.WideShapes Go.ChangeAt Go.RowKit
set_option maxRecDepth 100000

theorem r3_inPlace : (Rows.vecRunsRow.inPlace == Tryz.prog.inPlace 3) = true := by kernel_rfl
theorem r3_unfollowed : (Rows.vecRunsRow.unfollowed == Tryz.prog.unfollowed 3) = true := by kernel_rfl
theorem r3_recurses : (Rows.vecRunsRow.recurses == Tryz.prog.recurses 3) = true := by kernel_rfl
theorem r3_named : (Rows.vecRunsRow.named == Tryz.prog.varsNamed 3) = true := by kernel_rfl
theorem r3_joined : joinedFacts Tryz.prog 3 Tryz.f3 Rows.vecRunsSpec Rows.vecRunsRow = true :=
  joined_of (by kernel_rfl) laidOut g_mapsRowed (by kernel_rfl) (by kernel_rfl) rfl g_stops rfl g_stopKnobs r3_inPlace r3_unfollowed r3_recurses r3_named (by kernel_rfl) (by kernel_rfl) (by kernel_rfl) (by kernel_rfl) (by kernel_rfl) rfl (by kernel_rfl) (by kernel_rfl) (by kernel_rfl) g_plainKeys rfl g_stopsHeard g_mayEnter g_lifted g_make (by kernel_rfl) rfl (by kernel_rfl) (by kernel_rfl)
theorem r3_instance : Tryz.f3.isInstance Tryz.prog Rows.vecRunsRow.origin Rows.vecRunsRow.targs := of_decide_eq_true (by kernel_rfl)
theorem r3_wrapper : Tryz.f3.isWrapper Tryz.prog Rows.vecRunsRow.wrapper Rows.vecRunsRow.mainSum := by
  unfold Func.isWrapper; first | (rw [if_pos (by decide +kernel)]; kernel_rfl) | (rw [if_neg (by decide +kernel)]; exact ⟨rfl, rfl⟩)
theorem r3_funcNamed : Tryz.prog.funcNamed "muleteer/muleteerlaw8.VecRuns" = some 3 := by kernel_rfl


end Go.Proofs.YtofkoppfkekngaaGreatDoor
